/-
  Texts put together: YtoelopghilbfeaaGreatPl, YtoelopghilbfeaaGreatPl2, YtoelopghilbfeaaGreatWr, YtoelopghilbfeaaGreatOrd3, YtoelopghilbfeaaGreatWr2, YtoelopghilbfeaaGreatWr3.
-/
import Derived.Test.YtoelopghilbfeaaGreatBase
import Derived.Deep.DeepCutAuto
import Derived.BigQuiet
import Derived.Test.YtoelopghilbfeaaGreatNdA
namespace Go.Proofs.YtoelopghilbfeaaGreat
open Go.RowKit
set_option linter.unusedSimpArgs false
set_option linter.unusedVariables false
def eachI (Z:Int):Int:=(Z - 42) / 15
def partsI (Z m:Int):Int:=m / eachI Z+(if m % eachI Z≠0∨m / eachI Z=0 then 1 else 0)
def upI (a b:Int):Int:=(a+b - 1) / b
def checkI (B P Z:Int):Int:=upI (partsI Z (B * P)) P
def roomI (B P Z:Int):Int:=B - (2 * checkI B P Z+5)
def geoB (B P Z:Int):Bool:=(decide (16≤B) && decide (B≤32)) && ((decide (4≤P) && decide (P≤8)) && (decide (128≤Z) && decide (Z≤256)))
def planB (B P Z:Int):Bool:=geoB B P Z && decide (1≤roomI B P Z)
theorem each_bd {Z:Int} (h1:128≤Z) (h2:Z≤256):5≤eachI Z∧eachI Z≤14:=by unfold eachI;omega
theorem plbetween_any (n lo hi:Int) (w:World):Calls Tryz.prog 104 #[.int .i64 n,.int .i64 lo,.int .i64 hi] w fun e w'=>e=.returned (.bool (decide (lo≤n) && decide (n≤hi)))∧w=w':=by
 by_cases h:lo≤n
 ·have e1:decide (lo≤n)=true:=decide_eq_true h
  rw [e1]
  go_enter Tryz.func104,Tryz.ntmps104
  go_wp2_with fail
  go_ret
  exact ⟨rfl,rfl⟩
 ·have e1:decide (lo≤n)=false:=decide_eq_false h
  rw [e1]
  go_enter Tryz.func104,Tryz.ntmps104
  go_wp2_with fail
  go_ret
  exact ⟨rfl,rfl⟩
theorem results_cell1'' {fn:Func} {p:Tmp} {ty:TypeId} (h:fn.results=#[.cell p ty]) (tmps:Array Value) (P:Program) (w:World) :
  (results fn tmps).run P w=((asAddr (tmps.getD p undef)).run P w).andThen fun a w₁=>(loadVar ty a).run P w₁:=by
 simp [results,h]
theorem wrap_i64_id {n:Int} (h1:-1000000000≤n) (h2:n≤1000000000):IntKind.i64.wrap n=n:=by
 have e:IntKind.i64.wrap n=if n % 18446744073709551616≥9223372036854775808 then n % 18446744073709551616 - 18446744073709551616 else n % 18446744073709551616:=by
  simp [IntKind.wrap,IntKind.bits,IntKind.signed]
 rw [e]
 split <;> omega
theorem each_any (Z:Int) (w:World) (h1:128≤Z) (h2:Z≤256):Calls Tryz.prog 107 #[.int .i64 Z] w fun e w'=>e=.returned (.int .i64 (eachI Z))∧w=w':=by
 have e1:decide (Z<128)=false:=decide_eq_false (by omega)
 have e2:decide (256<Z)=false:=decide_eq_false (by omega)
 go_enter Tryz.func107,Tryz.ntmps107
 go_wp2_with fail
 go_ret
 exact ⟨rfl,rfl⟩
theorem parts_any (Z m:Int) (w:World) (h1:128≤Z) (h2:Z≤256) (h3:0≤m) (h4:m≤100000):Calls Tryz.prog 109 #[.int .i64 Z,.int .i64 m] w fun e w'=>e=.returned (.int .i64 (partsI Z m))∧w=w':=by
 have HE:=Lib.hid (each_any Z w h1 h2)
 have hn:=each_bd h1 h2
 have HP:=Lib.hid (show partsI Z m=m / eachI Z+(if m % eachI Z≠0∨m / eachI Z=0 then 1 else 0) from rfl)
 generalize partsI Z m=res at *
 generalize eachI Z=n at *
 clear h1 h2
 have e1:(n == 0)=false:=by simp;omega
 have e2:decide (m<0)=false:=decide_eq_false (by omega)
 have hq0:0≤m / n:=Int.ediv_nonneg h3 (by omega)
 have hq1:m / n≤m:=Int.ediv_le_self _ h3
 by_cases hr:m % n=0
 ·by_cases hq:m / n=0
  ·rw [if_pos (.inr hq)] at HP
   have e3:(m % n != 0)=false:=by simp [hr]
   have e4:(m / n == 0)=true:=by simp [hq]
   have HPP:=Lib.hid (show res=1 by rw [HP.out,hq];rfl)
   clear HP
   go_enter Tryz.func109,Tryz.ntmps109
   go_wp2_with fail
   refine HE.out.mono ?_
   rintro e w' ⟨rfl,rfl⟩
   go_wp2_with fail
   go_ret
   rw [HPP.out]
   exact ⟨rfl,rfl⟩
  ·have HPP:=Lib.hid (show res=m / n by rw [HP.out,if_neg (by intro h;rcases h with h | h;exact h hr;exact hq h)];omega)
   have e3:(m % n != 0)=false:=by simp [hr]
   have e4:(m / n == 0)=false:=by simp [hq]
   clear HP
   go_enter Tryz.func109,Tryz.ntmps109
   go_wp2_with fail
   refine HE.out.mono ?_
   rintro e w' ⟨rfl,rfl⟩
   go_wp2_with fail
   go_ret
   rw [HPP.out]
   exact ⟨rfl,rfl⟩
 ·have HPP:=Lib.hid (show res=m / n+1 by rw [HP.out,if_pos (.inl hr)])
  have e3:(m % n != 0)=true:=by simp [hr]
  clear HP
  go_enter Tryz.func109,Tryz.ntmps109
  go_wp2_with fail
  refine HE.out.mono ?_
  rintro e w' ⟨rfl,rfl⟩
  go_wp2_with fail
  go_ret
  rw [HPP.out]
  exact ⟨rfl,rfl⟩
theorem up_any (a b:Int) (w:World) (h1:0≤a) (h2:a≤100000) (h3:1≤b) (h4:b≤100000):Calls Tryz.prog 108 #[.int .i64 a,.int .i64 b] w fun e w'=>e=.returned (.int .i64 (upI a b))∧w=w':=by
 have HU:=Lib.hid (show upI a b=(a+b - 1) / b from rfl)
 have hq0:0≤(a+b - 1) / b:=Int.ediv_nonneg (by omega) (by omega)
 have hq1:(a+b - 1) / b≤a+b - 1:=Int.ediv_le_self _ (by omega)
 generalize upI a b=res at *
 go_enter Tryz.func108,Tryz.ntmps108
 go_wp2_with fail
 go_ret
 rw [HU.out]
 exact ⟨rfl,rfl⟩
theorem parts_bd {Z m:Int} (h1:128≤Z) (h2:Z≤256) (h3:0≤m):0≤partsI Z m∧partsI Z m≤m+1:=by
 have hn:=each_bd h1 h2
 unfold partsI
 generalize eachI Z=n at *
 have hq0:0≤m / n:=Int.ediv_nonneg h3 (by omega)
 have hq1:m / n≤m:=Int.ediv_le_self _ h3
 split <;> omega
def ofC (B P Z:Int):Array Value:=#[.int .i64 (B * P),.int .i64 (eachI Z),.int .i64 (checkI B P Z),.int .i64 (2 * checkI B P Z+5),.int .i64 (roomI B P Z),.int .i64 (8 * (B * P)+200)]
def zeroC:Array Value:=#[.int .i64 0,.int .i64 0,.int .i64 0,.int .i64 0,.int .i64 0,.int .i64 0]
set_option maxRecDepth 20000 in
set_option maxHeartbeats 4000000 in
theorem of_any (B P Z:Int) (w:World) (Fr:HL) (hH:Holds w Fr):Calls Tryz.prog 73 #[.agg #[.int .i64 B,.int .i64 P,.int .i64 Z]] w (RetFr (.agg (if geoB B P Z then ofC B P Z else zeroC)) w Fr):=by
 have hq:=(hH.alloc (.cells #[.int .i64 B,.int .i64 P,.int .i64 Z] 26)).alloc (.cells #[.int .i64 0,.int .i64 0,.int .i64 0,.int .i64 0,.int .i64 0,.int .i64 0] 121)
 rw [World.size_alloc] at hq
 have hgq:=((Grew.refl w).alloc (.cells #[.int .i64 B,.int .i64 P,.int .i64 Z] 26)).alloc (.cells #[.int .i64 0,.int .i64 0,.int .i64 0,.int .i64 0,.int .i64 0,.int .i64 0] 121)
 have HQ:=Lib.hid hq
 have HGQ:=Lib.hid hgq
 have KB:=Lib.hid (fun w=>plbetween_any B 16 32 w)
 have KP:=Lib.hid (fun w=>plbetween_any P 4 8 w)
 have KZ:=Lib.hid (fun w=>plbetween_any Z 128 256 w)
 have HGB:=Lib.hid (show geoB B P Z=((decide (16≤B) && decide (B≤32)) && ((decide (4≤P) && decide (P≤8)) && (decide (128≤Z) && decide (Z≤256)))) from rfl)
 obtain ⟨res,hres⟩:∃ res,res=(if geoB B P Z then ofC B P Z else zeroC):=⟨_,rfl⟩
 rw [← hres]
 have HRES:=Lib.hid hres
 clear hres
 have x0:=hq.tail.hcell 0
 have x1:=hq.tail.hcell 1
 have x2:=hq.tail.hcell 2
 have HF:Hid (∀ z0 z1 z2 z3 z4 z5:Value,Holds (((((((w.alloc (.cells #[.int .i64 B,.int .i64 P,.int .i64 Z] 26)).alloc (.cells #[.int .i64 0,.int .i64 0,.int .i64 0,.int .i64 0,.int .i64 0,.int .i64 0] 121)).setCell ⟨w.heap.size+1,0,none⟩ z0).setCell ⟨w.heap.size+1,1,none⟩ z1).setCell ⟨w.heap.size+1,2,none⟩ z2).setCell ⟨w.heap.size+1,3,none⟩ z3).setCell ⟨w.heap.size+1,4,none⟩ z4 |>.setCell ⟨w.heap.size+1,5,none⟩ z5) ((w.heap.size+1,.cells #[z0,z1,z2,z3,z4,z5] 121)::((w.heap.size,(.cells #[.int .i64 B,.int .i64 P,.int .i64 Z] 26))::Fr))):=Lib.hid (fun z0 z1 z2 z3 z4 z5=>(((((hq.set' 0 z0).set' 1 z1).set' 2 z2).set' 3 z3).set' 4 z4).set' 5 z5)
 have y0:=hq.hcell 0
 have y1:=hq.hcell 1
 have y2:=hq.hcell 2
 have y3:=hq.hcell 3
 have y4:=hq.hcell 4
 have y5:=hq.hcell 5
 have f0:=hq.hfrozen 0
 have f1:=hq.hfrozen 1
 have f2:=hq.hfrozen 2
 have f3:=hq.hfrozen 3
 have f4:=hq.hfrozen 4
 have f5:=hq.hfrozen 5
 have fl:=hq.hlt
 clear hq hgq hH
 have HGG:=Lib.hid ((((((HGQ.out.setCell ⟨w.heap.size+1,0,none⟩ (.int .i64 0)).setCell ⟨w.heap.size+1,1,none⟩ (.int .i64 0)).setCell ⟨w.heap.size+1,2,none⟩ (.int .i64 0)).setCell ⟨w.heap.size+1,3,none⟩ (.int .i64 0)).setCell ⟨w.heap.size+1,4,none⟩ (.int .i64 0)).setCell ⟨w.heap.size+1,5,none⟩ (.int .i64 0))
 go_enter Tryz.func73,Tryz.ntmps73
 go_wp2_with fail
 generalize (w.alloc (.cells #[.int .i64 B,.int .i64 P,.int .i64 Z] 26)).alloc (.cells #[.int .i64 0,.int .i64 0,.int .i64 0,.int .i64 0,.int .i64 0,.int .i64 0] 121)=w0 at *
 generalize w.heap.size+1=g2 at *
 generalize w.heap.size=g1 at *
 by_cases hB:16≤B∧B≤32
 rotate_left
 ·have HGF:=Lib.hid (show res=zeroC by rw [HRES.out,HGB.out];rw [if_neg];simp only [Bool.and_eq_true,decide_eq_true_eq];omega)
  rw [← Bool.decide_and,decide_eq_false hB] at KB
  refine (KB.out _).mono ?_
  rintro e w' ⟨rfl,rfl⟩
  go_wp2_with fail
  refine ⟨rfl,_,(by rw [results_cell1'' rfl];go_simp;rfl),?_⟩
  rw [HGF.out]
  exact ⟨rfl,(HF.out (.int .i64 0) (.int .i64 0) (.int .i64 0) (.int .i64 0) (.int .i64 0) (.int .i64 0)).tail.tail,HGG.out⟩
 rw [← Bool.decide_and,decide_eq_true hB] at KB
 by_cases hP:4≤P∧P≤8
 rotate_left
 ·have HGF:=Lib.hid (show res=zeroC by rw [HRES.out,HGB.out];rw [if_neg];simp only [Bool.and_eq_true,decide_eq_true_eq];omega)
  rw [← Bool.decide_and,decide_eq_false hP] at KP
  refine (KB.out _).mono ?_
  rintro e w' ⟨rfl,rfl⟩
  go_wp2_with fail
  refine (KP.out _).mono ?_
  rintro e w' ⟨rfl,rfl⟩
  go_wp2_with fail
  refine ⟨rfl,_,(by rw [results_cell1'' rfl];go_simp;rfl),?_⟩
  rw [HGF.out]
  exact ⟨rfl,(HF.out (.int .i64 0) (.int .i64 0) (.int .i64 0) (.int .i64 0) (.int .i64 0) (.int .i64 0)).tail.tail,HGG.out⟩
 rw [← Bool.decide_and,decide_eq_true hP] at KP
 by_cases hZ:128≤Z∧Z≤256
 rotate_left
 ·have HGF:=Lib.hid (show res=zeroC by rw [HRES.out,HGB.out];rw [if_neg];simp only [Bool.and_eq_true,decide_eq_true_eq];omega)
  rw [← Bool.decide_and,decide_eq_false hZ] at KZ
  refine (KB.out _).mono ?_
  rintro e w' ⟨rfl,rfl⟩
  go_wp2_with fail
  refine (KP.out _).mono ?_
  rintro e w' ⟨rfl,rfl⟩
  go_wp2_with fail
  refine (KZ.out _).mono ?_
  rintro e w' ⟨rfl,rfl⟩
  go_wp2_with fail
  refine ⟨rfl,_,(by rw [results_cell1'' rfl];go_simp;rfl),?_⟩
  rw [HGF.out]
  exact ⟨rfl,(HF.out (.int .i64 0) (.int .i64 0) (.int .i64 0) (.int .i64 0) (.int .i64 0) (.int .i64 0)).tail.tail,HGG.out⟩
 rw [← Bool.decide_and,decide_eq_true hZ] at KZ
 have HGT:=Lib.hid (show res=ofC B P Z by rw [HRES.out,HGB.out];rw [if_pos];simp only [Bool.and_eq_true,decide_eq_true_eq];omega)
 obtain ⟨hZ1,hZ2⟩:=hZ
 obtain ⟨hP1,hP2⟩:=hP
 obtain ⟨hB1,hB2⟩:=hB
 have hm0:64≤B * P:=by
  have:=Int.mul_le_mul hB1 hP1 (by omega) (by omega)
  omega
 have hm1:B * P≤256:=by
  have:=Int.mul_le_mul hB2 hP2 (by omega) (by omega)
  omega
 have hwr:IntKind.i64.wrap (B * P)=B * P:=wrap_i64_id (by omega) (by omega)
 have KE:=Lib.hid (fun w=>each_any Z w hZ1 hZ2)
 have KPA:=Lib.hid (fun w=>parts_any Z (B * P) w hZ1 hZ2 (by omega) (by omega))
 have hpb:=parts_bd (m:=B * P) hZ1 hZ2 (by omega)
 have KU:=Lib.hid (fun w=>up_any (partsI Z (B * P)) P w hpb.1 (by omega) (by omega) (by omega))
 have heb:=each_bd hZ1 hZ2
 have hcb:0≤checkI B P Z∧checkI B P Z≤300:=by
  have h1:checkI B P Z=(partsI Z (B * P)+P - 1) / P:=rfl
  have h2:0≤(partsI Z (B * P)+P - 1) / P:=Int.ediv_nonneg (by omega) (by omega)
  have h3:(partsI Z (B * P)+P - 1) / P≤partsI Z (B * P)+P - 1:=Int.ediv_le_self _ (by omega)
  omega
 have HCK:=Lib.hid (show upI (partsI Z (B * P)) P=checkI B P Z from rfl)
 have HRM:=Lib.hid (show ofC B P Z=#[.int .i64 (B * P),.int .i64 (eachI Z),.int .i64 (checkI B P Z),.int .i64 (2 * checkI B P Z+5),.int .i64 (B - (2 * checkI B P Z+5)),.int .i64 (8 * (B * P)+200)] from rfl)
 rw [HCK.out] at KU
 generalize checkI B P Z=ck at *
 generalize partsI Z (B * P)=pa at *
 generalize eachI Z=ea at *
 clear HRES HGB HCK
 refine (KB.out _).mono ?_
 rintro e w' ⟨rfl,rfl⟩
 go_wp2_with fail
 refine (KP.out _).mono ?_
 rintro e w' ⟨rfl,rfl⟩
 go_wp2_with fail
 refine (KZ.out _).mono ?_
 rintro e w' ⟨rfl,rfl⟩
 have HSW:Hid (∀ (wx:World) (X:HL),Holds wx (X++((g1,(.cells #[.int .i64 B,.int .i64 P,.int .i64 Z] 26))::Fr))→wx.cell? ⟨g1,0,none⟩=some (.int .i64 B)∧wx.cell? ⟨g1,1,none⟩=some (.int .i64 P)∧wx.cell? ⟨g1,2,none⟩=some (.int .i64 Z)):=Lib.hid (fun wx X hX=>⟨hX.right.hcell 0,hX.right.hcell 1,hX.right.hcell 2⟩)
 have hH1:=HQ.out
 have hg1:=HGQ.out
 go_upto_region 3 with fail
 refine Z_begin (fun wx=>wx.cell? ⟨g1,0,none⟩=some (.int .i64 B)∧wx.cell? ⟨g1,1,none⟩=some (.int .i64 P)∧wx.cell? ⟨g1,2,none⟩=some (.int .i64 Z)) 11 (by kernel_rfl) (fun w1 hd=>HSW.out _ [_] (hH1.dr hd)) (fun w1 hd hs=>?_)
 have hH3:=hH1.dr hd;have hG3:=hg1.trans (Grew.dr hd);clear hd hH1 hg1
 refine Zt 0 21 ?_ rfl hs ?_ ?_
 rotate_left
 ·rintro wx ⟨s0,s1,s2⟩;go_simp;try with_reducible rfl
 simp only [pt,sA,sS,sZ]
 refine Zt 1 22 ?_ rfl hs ?_ ?_
 rotate_left
 ·rintro wx ⟨s0,s1,s2⟩;go_simp;try with_reducible rfl
 simp only [pt,sA,sS,sZ]
 refine Zt 2 23 ?_ rfl hs ?_ ?_
 rotate_left
 ·rintro wx ⟨s0,s1,s2⟩;go_simp;try with_reducible rfl
 simp only [pt,sA,sS,sZ]
 refine Zt 3 24 ?_ rfl hs ?_ ?_
 rotate_left
 ·rintro wx ⟨s0,s1,s2⟩;go_simp;try with_reducible rfl
 simp only [pt,sA,sS,sZ]
 refine Zt 4 25 ?_ rfl hs ?_ ?_
 rotate_left
 ·rintro wx ⟨s0,s1,s2⟩;go_simp;try with_reducible rfl
 simp only [pt,sA,sS,sZ]
 refine Zt 5 26 ?_ rfl hs ?_ ?_
 rotate_left
 ·rintro wx ⟨s0,s1,s2⟩;go_simp;try with_reducible rfl
 simp only [pt,sA,sS,sZ]
 refine Zt 6 27 ?_ rfl hs ?_ ?_
 rotate_left
 ·rintro wx ⟨s0,s1,s2⟩;go_simp;try with_reducible rfl
 simp only [pt,sA,sS,sZ]
 refine Z_call 7 rfl (by kernel_rfl) (fun _ _ _ h=>h) (by rfl) hs (fun wx=>by go_simp) (fun wx hx=>KE.out wx) ?_
 simp only [Act.put]
 refine Zt 8 29 ?_ rfl hs ?_ ?_
 rotate_left
 ·rintro wx ⟨s0,s1,s2⟩;go_simp;try with_reducible rfl
 simp only [pt,sA,sS,sZ]
 refine Z_mid 9 rfl (by kernel_rfl) (fun K hK=>?_)
 have ⟨s0,s1,s2⟩:=hs
 go_simp;have hH4:=hH3.alloc (.cells #[.int .i64 0,.int .i64 0,.int .i64 0,.int .i64 0,.int .i64 0,.int .i64 0] 121);have hG4:=hG3.alloc (.cells #[.int .i64 0,.int .i64 0,.int .i64 0,.int .i64 0,.int .i64 0,.int .i64 0] 121);have t0:=hH4.hfrozen 0;have t1:=hH4.hfrozen 1;have t2:=hH4.hfrozen 2;have t3:=hH4.hfrozen 3;have t4:=hH4.hfrozen 4;have t5:=hH4.hfrozen 5;have t6:=hH4.hlt
 clear s0 s1 s2
 refine hK _ _ (HSW.out _ [_,_] hH4) (fun hs2=>?_);clear hK K hs;have hs:=hs2;clear hs2
 refine Z_mid 10 rfl (by kernel_rfl) (fun K hK=>?_)
 have ⟨s0,s1,s2⟩:=hs
 go_simp;clear hH4 hG4 t0 t1 t2 t3 t4 t5 t6;have hH5:=hH3.alloc (.cells #[.int .i64 (B * P),.int .i64 ea,.int .i64 0,.int .i64 0,.int .i64 0,.int .i64 0] 121);have hG5:=hG3.alloc (.cells #[.int .i64 (B * P),.int .i64 ea,.int .i64 0,.int .i64 0,.int .i64 0,.int .i64 0] 121);clear hH3 hG3
 clear s0 s1 s2
 refine hK _ _ (HSW.out _ [_,_] hH5) (fun hs2=>?_);clear hK K hs;have hs:=hs2;clear hs2
 refine Z_done (by kernel_rfl) ?_ _
 generalize w1.alloc (.cells #[.int .i64 (B * P),.int .i64 ea,.int .i64 0,.int .i64 0,.int .i64 0,.int .i64 0] 121)=w5 at *
 generalize w1.heap.size=gN at *
 have HS4:Hid (∀ (wx:World) (c2:Value),Holds wx ((gN,.cells #[.int .i64 (B * P),.int .i64 ea,c2,.int .i64 0,.int .i64 0,.int .i64 0] 121)::((g2,(.cells #[.int .i64 0,.int .i64 0,.int .i64 0,.int .i64 0,.int .i64 0,.int .i64 0] 121))::((g1,(.cells #[.int .i64 B,.int .i64 P,.int .i64 Z] 26))::Fr)))→wx.cell? ⟨g1,0,none⟩=some (.int .i64 B)∧wx.cell? ⟨g1,1,none⟩=some (.int .i64 P)∧wx.cell? ⟨g1,2,none⟩=some (.int .i64 Z)∧wx.cell? ⟨gN,0,none⟩=some (.int .i64 (B * P))∧wx.frozen? ⟨gN,2,none⟩=false):=Lib.hid (fun wx c2 h=>⟨h.tail.tail.hcell 0,h.tail.tail.hcell 1,h.tail.tail.hcell 2,h.hcell 0,h.hfrozen 2⟩)
 clear hs
 go_upto_region 4 with fail
 refine Z_begin (fun wx=>wx.cell? ⟨g1,0,none⟩=some (.int .i64 B)∧wx.cell? ⟨g1,1,none⟩=some (.int .i64 P)∧wx.cell? ⟨g1,2,none⟩=some (.int .i64 Z)∧wx.cell? ⟨gN,0,none⟩=some (.int .i64 (B * P))∧wx.frozen? ⟨gN,2,none⟩=false) 10 (by kernel_rfl) (fun w1 hd=>HS4.out _ _ (hH5.dr hd)) (fun w1 hd hs=>?_)
 have hH6:=hH5.dr hd;have hG6:=hG5.trans (Grew.dr hd);clear hd hH5 hG5
 refine Zt 0 30 ?_ rfl hs ?_ ?_
 rotate_left
 ·rintro wx ⟨s0,s1,s2,s3,s4⟩;go_simp;try with_reducible rfl
 simp only [pt,sA,sS,sZ]
 refine Zt 1 31 ?_ rfl hs ?_ ?_
 rotate_left
 ·rintro wx ⟨s0,s1,s2,s3,s4⟩;go_simp;try with_reducible rfl
 simp only [pt,sA,sS,sZ]
 refine Zt 2 32 ?_ rfl hs ?_ ?_
 rotate_left
 ·rintro wx ⟨s0,s1,s2,s3,s4⟩;go_simp;try with_reducible rfl
 simp only [pt,sA,sS,sZ]
 refine Zt 3 33 ?_ rfl hs ?_ ?_
 rotate_left
 ·rintro wx ⟨s0,s1,s2,s3,s4⟩;go_simp;try with_reducible rfl
 simp only [pt,sA,sS,sZ]
 refine Z_call 4 rfl (by kernel_rfl) (fun _ _ _ h=>h) (by rfl) hs (fun wx=>by go_simp) (fun wx hx=>KPA.out wx) ?_
 simp only [Act.put]
 refine Zt 5 35 ?_ rfl hs ?_ ?_
 rotate_left
 ·rintro wx ⟨s0,s1,s2,s3,s4⟩;go_simp;try with_reducible rfl
 simp only [pt,sA,sS,sZ]
 refine Zt 6 36 ?_ rfl hs ?_ ?_
 rotate_left
 ·rintro wx ⟨s0,s1,s2,s3,s4⟩;go_simp;try with_reducible rfl
 simp only [pt,sA,sS,sZ]
 refine Z_call 7 rfl (by kernel_rfl) (fun _ _ _ h=>h) (by rfl) hs (fun wx=>by go_simp) (fun wx hx=>KU.out wx) ?_
 simp only [Act.put]
 refine Zt 8 38 ?_ rfl hs ?_ ?_
 rotate_left
 ·rintro wx ⟨s0,s1,s2,s3,s4⟩;go_simp;try with_reducible rfl
 simp only [pt,sA,sS,sZ]
 refine Z_mid 9 rfl (by kernel_rfl) (fun K hK=>?_)
 have ⟨s0,s1,s2,s3,s4⟩:=hs
 have t0:=hH6.hlt;have t2:=hH6.hcell 2;go_simp;have hH7:=hH6.set' 2 (.int .i64 ck);have hG7:=hG6.setCell ⟨gN,2,none⟩ (.int .i64 ck);clear hH6 hG6 t0 t2
 clear s0 s1 s2 s3 s4
 refine hK _ _ (HS4.out _ _ hH7) (fun hs2=>?_);clear hK K hs;have hs:=hs2;clear hs2
 refine Z_done (by kernel_rfl) ?_ _
 have hH8:Holds (w1.setCell ⟨gN,2,none⟩ (.int .i64 ck)) ((gN,.cells #[.int .i64 (B * P),.int .i64 ea,.int .i64 ck,.int .i64 0,.int .i64 0,.int .i64 0] 121)::((g2,(.cells #[.int .i64 0,.int .i64 0,.int .i64 0,.int .i64 0,.int .i64 0,.int .i64 0] 121))::((g1,(.cells #[.int .i64 B,.int .i64 P,.int .i64 Z] 26))::Fr))):=hH7
 change Exit.then _ _ _ _ (w1.setCell ⟨gN,2,none⟩ (.int .i64 ck))
 generalize w1.setCell ⟨gN,2,none⟩ (.int .i64 ck)=w8 at *
 have a0:=hH8.hcell 0
 have a1:=hH8.hcell 1
 have a2:=hH8.hcell 2
 have a3:=hH8.hcell 3
 have a4:=hH8.hcell 4
 have a5:=hH8.hcell 5
 have b3:=hH8.hfrozen 3
 have b4:=hH8.hfrozen 4
 have b5:=hH8.hfrozen 5
 have bl:=hH8.hlt
 have gl:=hH8.tail.hlt
 have f0:=hH8.tail.hfrozen 0
 have f1:=hH8.tail.hfrozen 1
 have f2:=hH8.tail.hfrozen 2
 have f3:=hH8.tail.hfrozen 3
 have f4:=hH8.tail.hfrozen 4
 have f5:=hH8.tail.hfrozen 5
 have y0:=hH8.tail.hcell 0
 have y1:=hH8.tail.hcell 1
 have y2:=hH8.tail.hcell 2
 have y3:=hH8.tail.hcell 3
 have y4:=hH8.tail.hcell 4
 have y5:=hH8.tail.hcell 5
 obtain ⟨c0,c1,c2,_,_⟩:=HS4.out _ _ hH8
 have HX1:=Lib.hid (((hH8.set' 3 (.int .i64 (2 * ck+5))).set' 4 (.int .i64 (B - (2 * ck+5)))).set' 5 (.int .i64 (8 * (B * P)+200)))
 have HG1:=Lib.hid (((hG7.setCell ⟨gN,3,none⟩ (.int .i64 (2 * ck+5))).setCell ⟨gN,4,none⟩ (.int .i64 (B - (2 * ck+5)))).setCell ⟨gN,5,none⟩ (.int .i64 (8 * (B * P)+200)))
 generalize B * P=bp at *
 clear hs hH7 hG7
 go_upto_region 8 with fail
 change Code.wp _ _ _ _ (((w8.setCell ⟨gN,3,none⟩ (.int .i64 (2 * ck+5))).setCell ⟨gN,4,none⟩ (.int .i64 (B - (2 * ck+5)))).setCell ⟨gN,5,none⟩ (.int .i64 (8 * bp+200)))
 generalize ((w8.setCell ⟨gN,3,none⟩ (.int .i64 (2 * ck+5))).setCell ⟨gN,4,none⟩ (.int .i64 (B - (2 * ck+5)))).setCell ⟨gN,5,none⟩ (.int .i64 (8 * bp+200))=w9 at *
 have hX:=HX1.out
 clear a0 a1 a2 a3 a4 a5 b3 b4 b5 bl gl f0 f1 f2 f3 f4 f5 y0 y1 y2 y3 y4 y5 c0 c1 c2 hH8
 have a0:=hX.hcell 0
 have a1:=hX.hcell 1
 have a2:=hX.hcell 2
 have a3:=hX.hcell 3
 have a4:=hX.hcell 4
 have a5:=hX.hcell 5
 have gl:=hX.tail.hlt
 have f0:=hX.tail.hfrozen 0
 have f1:=hX.tail.hfrozen 1
 have f2:=hX.tail.hfrozen 2
 have f3:=hX.tail.hfrozen 3
 have f4:=hX.tail.hfrozen 4
 have f5:=hX.tail.hfrozen 5
 have y0:=hX.tail.hcell 0
 have y1:=hX.tail.hcell 1
 have y2:=hX.tail.hcell 2
 have y3:=hX.tail.hcell 3
 have y4:=hX.tail.hcell 4
 have y5:=hX.tail.hcell 5
 have HFIN:=Lib.hid (((((((hX.tail.set' 0 (.int .i64 bp)).set' 1 (.int .i64 ea)).set' 2 (.int .i64 ck)).set' 3 (.int .i64 (2 * ck+5))).set' 4 (.int .i64 (B - (2 * ck+5)))).set' 5 (.int .i64 (8 * bp+200)))).tail.tail
 have HGF:=Lib.hid ((((((HG1.out.setCell ⟨g2,0,none⟩ (.int .i64 bp)).setCell ⟨g2,1,none⟩ (.int .i64 ea)).setCell ⟨g2,2,none⟩ (.int .i64 ck)).setCell ⟨g2,3,none⟩ (.int .i64 (2 * ck+5))).setCell ⟨g2,4,none⟩ (.int .i64 (B - (2 * ck+5)))).setCell ⟨g2,5,none⟩ (.int .i64 (8 * bp+200)))
 clear hX HX1
 go_wp2_with fail
 refine ⟨rfl,_,(by rw [results_cell1'' rfl];go_simp;rfl),?_⟩
 rw [HGT.out,HRM.out]
 exact ⟨rfl,HFIN.out,HGF.out⟩
theorem run_room (a0 a1 a2 a3 a4 a5:Int) (w:World):(Instr.field 121 (.agg #[.int .i64 a0,.int .i64 a1,.int .i64 a2,.int .i64 a3,.int .i64 a4,.int .i64 a5]) 4).run Tryz.prog w=.ok (.int .i64 a4) w:=by kernel_rfl
set_option maxRecDepth 20000 in
theorem plmay_any (B P Z:Int) (w:World) (Fr:HL) (hH:Holds w Fr):Calls Tryz.prog 40 #[.agg #[.int .i64 B,.int .i64 P,.int .i64 Z]] w (RetFr (.bool (planB B P Z)) w Fr):=by
 have hq:=hH.alloc' (.cells #[.int .i64 B,.int .i64 P,.int .i64 Z] 26)
 have HO:=Lib.hid (of_any B P Z _ Fr hq)
 have hgq:=(Grew.refl w).alloc (.cells #[.int .i64 B,.int .i64 P,.int .i64 Z] 26)
 have HPB:=Lib.hid (show planB B P Z=(geoB B P Z && decide (1≤roomI B P Z)) from rfl)
 generalize planB B P Z=res at *
 have hx:=hH.alloc (.cells #[.int .i64 B,.int .i64 P,.int .i64 Z] 26)
 have x0:=hx.hcell 0
 have x1:=hx.hcell 1
 have x2:=hx.hcell 2
 clear hx hH hq
 unfold ofC zeroC at HO
 have hfd:=run_room
 cases hg:geoB B P Z with
 |true =>
  rw [hg] at HO HPB
  simp only [if_true,Bool.true_and] at HO HPB
  go_enter Tryz.func40,Tryz.ntmps40
  go_wp2_with fail
  refine HO.out.mono ?_
  rintro e w2 ⟨rfl,hH2,hg2⟩
  have hg3:=hgq.trans hg2
  go_wp2_with fail
  go_ret
  rw [HPB.out]
  exact ⟨rfl,hH2,hg3⟩
 |false =>
  rw [hg] at HO HPB
  simp only [Bool.false_eq_true,if_false,Bool.false_and] at HO HPB
  go_enter Tryz.func40,Tryz.ntmps40
  go_wp2_with fail
  refine HO.out.mono ?_
  rintro e w2 ⟨rfl,hH2,hg2⟩
  have hg3:=hgq.trans hg2
  go_wp2_with fail
  go_ret
  rw [HPB.out]
  exact ⟨rfl,hH2,hg3⟩
end Go.Proofs.YtoelopghilbfeaaGreat
namespace Go.Proofs.YtoelopghilbfeaaGreat
open Go.RowKit
set_option linter.unusedSimpArgs false
set_option linter.unusedVariables false
theorem plan_bd {B P Z:Int} (h:planB B P Z=true):16≤B∧B≤32∧4≤P∧P≤8∧128≤Z∧Z≤256:=by
 unfold planB geoB at h
 simp only [Bool.and_eq_true,decide_eq_true_eq] at h
 omega
theorem mul_bd {b B P:Int} (h1:0≤b) (h2:b≤B - 1) (h3:B≤32) (h4:0≤P) (h5:P≤8):0≤b * P∧b * P≤248:=by
 constructor
 ·exact Int.mul_nonneg h1 h4
 ·have:=Int.mul_le_mul (show b≤31 by omega) h5 h4 (by omega)
  omega
set_option maxRecDepth 20000 in
set_option maxHeartbeats 1000000 in
theorem page_any (B P Z b p:Int) (w:World) (Fr:HL) (hH:Holds w Fr) (hp:planB B P Z=true) (h1:0≤b) (h2:b<B) (h3:0≤p) (h4:p<P) :
  Calls Tryz.prog 69 #[.agg #[.int .i64 B,.int .i64 P,.int .i64 Z],.int .i64 b,.int .i64 p] w (RetFr (.int .i64 (b * P+p)) w Fr):=by
 obtain ⟨hB1,hB2,hP1,hP2,hZ1,hZ2⟩:=plan_bd hp
 have hm:=mul_bd (B:=B) (P:=P) h1 (by omega) hB2 (by omega) hP2
 obtain ⟨hm1,hm2⟩:=hm
 have hwr:wrap64 (b * P)=b * P:=by unfold wrap64;omega
 have hx:=hH.alloc (.cells #[.int .i64 B,.int .i64 P,.int .i64 Z] 26)
 have HM:=Lib.hid (fun (wx:World) (hX:Holds wx ((w.heap.size,.cells #[.int .i64 B,.int .i64 P,.int .i64 Z] 26)::Fr))=>plmay_any B P Z wx _ hX)
 rw [hp] at HM
 have hgx:=(Grew.refl w).alloc (.cells #[.int .i64 B,.int .i64 P,.int .i64 Z] 26)
 have K1:=Lib.hid (fun w=>plbetween_any b 0 (B - 1) w)
 have K2:=Lib.hid (fun w=>plbetween_any p 0 (P - 1) w)
 rw [decide_eq_true (show 0≤b from h1),decide_eq_true (show b≤B - 1 by omega)] at K1
 rw [decide_eq_true (show 0≤p from h3),decide_eq_true (show p≤P - 1 by omega)] at K2
 have HX:=Lib.hid hx
 have x0:=hx.hcell 0
 have x1:=hx.hcell 1
 have x2:=hx.hcell 2
 clear hx hH hp
 go_enter Tryz.func69,Tryz.ntmps69
 go_wp2_with fail
 refine (HM.out _ HX.out).mono ?_
 generalize w.alloc (.cells #[.int .i64 B,.int .i64 P,.int .i64 Z] 26)=w0 at *
 generalize w.heap.size=g at *
 rintro e w2 ⟨rfl,hH2,hg2⟩
 have hg3:=hgx.trans hg2
 clear x0 x1 x2
 have x0:=hH2.hcell 0
 have x1:=hH2.hcell 1
 have x2:=hH2.hcell 2
 have HF:=Lib.hid hH2.tail
 clear hH2
 go_wp2_with fail
 refine (K1.out _).mono ?_
 rintro e w' ⟨rfl,rfl⟩
 go_wp2_with fail
 refine (K2.out _).mono ?_
 rintro e w' ⟨rfl,rfl⟩
 go_wp2_with fail
 go_ret
 exact ⟨rfl,HF.out,hg3⟩
def placeI (B P n:Int):Int × Int:=if 0≤n∧n≤B * P - 1 then (n / P,n % P) else (-1,-1)
set_option maxRecDepth 20000 in
set_option maxHeartbeats 1000000 in
theorem place_any (B P Z n:Int) (w:World) (Fr:HL) (hH:Holds w Fr) (hp:planB B P Z=true) :
  Calls Tryz.prog 93 #[.agg #[.int .i64 B,.int .i64 P,.int .i64 Z],.int .i64 n] w (RetFr (.tuple #[.int .i64 (placeI B P n).1,.int .i64 (placeI B P n).2]) w Fr):=by
 obtain ⟨hB1,hB2,hP1,hP2,hZ1,hZ2⟩:=plan_bd hp
 have hm0:0≤B * P∧B * P≤256:=by
  constructor
  ·exact Int.mul_nonneg (by omega) (by omega)
  ·have:=Int.mul_le_mul hB2 hP2 (by omega) (by omega)
   omega
 have hwr:wrap64 (B * P)=B * P:=by unfold wrap64;omega
 have hx:=hH.alloc (.cells #[.int .i64 B,.int .i64 P,.int .i64 Z] 26)
 have HM:=Lib.hid (fun (wx:World) (hX:Holds wx ((w.heap.size,.cells #[.int .i64 B,.int .i64 P,.int .i64 Z] 26)::Fr))=>plmay_any B P Z wx _ hX)
 rw [hp] at HM
 have hgx:=(Grew.refl w).alloc (.cells #[.int .i64 B,.int .i64 P,.int .i64 Z] 26)
 have K1:=Lib.hid (fun w=>plbetween_any n 0 (B * P - 1) w)
 have HPI:=Lib.hid (show placeI B P n=if 0≤n∧n≤B * P - 1 then (n / P,n % P) else (-1,-1) from rfl)
 generalize placeI B P n=res at *
 have HX:=Lib.hid hx
 have x0:=hx.hcell 0
 have x1:=hx.hcell 1
 have x2:=hx.hcell 2
 clear hx hH hp
 go_enter Tryz.func93,Tryz.ntmps93
 go_wp2_with fail
 refine (HM.out _ HX.out).mono ?_
 generalize w.alloc (.cells #[.int .i64 B,.int .i64 P,.int .i64 Z] 26)=w0 at *
 generalize w.heap.size=g at *
 rintro e w2 ⟨rfl,hH2,hg2⟩
 have hg3:=hgx.trans hg2
 clear x0 x1 x2
 have x0:=hH2.hcell 0
 have x1:=hH2.hcell 1
 have x2:=hH2.hcell 2
 have HF:=Lib.hid hH2.tail
 clear hH2
 by_cases hn:0≤n∧n≤B * P - 1
 ·have HRS:=Lib.hid (show res=(n / P,n % P) by rw [HPI.out,if_pos hn])
  rw [decide_eq_true hn.1,decide_eq_true hn.2] at K1
  obtain ⟨hn0,hn1⟩:=hn
  have hm1:=hm0.1
  have hm2:=hm0.2
  have hpne:(P == 0)=false:=by simp;omega
  go_wp2_with fail
  refine (K1.out _).mono ?_
  rintro e w' ⟨rfl,rfl⟩
  go_wp2_with fail
  go_quiet (fail)
  have HF2:=Lib.hid (HF.out.drewN nq)
  have hg4:=hg3.drewN nq
  go_wp2_with fail
  go_ret2
  rw [HRS.out]
  exact ⟨rfl,HF2.out,hg4⟩
 ·have HRS:=Lib.hid (show res=(-1,-1) by rw [HPI.out,if_neg hn])
  have hb:(decide (0≤n) && decide (n≤B * P - 1))=false:=by
   rw [Bool.and_eq_false_iff,decide_eq_false_iff_not,decide_eq_false_iff_not]
   omega
  rw [hb] at K1
  have hm1:=hm0.1
  have hm2:=hm0.2
  clear hb
  go_wp2_with fail
  refine (K1.out _).mono ?_
  rintro e w' ⟨rfl,rfl⟩
  go_wp2_with fail
  go_ret2
  rw [HRS.out]
  exact ⟨rfl,HF.out,hg3⟩
end Go.Proofs.YtoelopghilbfeaaGreat
namespace Go.Proofs.YtoelopghilbfeaaGreat
open Go.RowKit
set_option linter.unusedSimpArgs false
set_option linter.unusedVariables false
def rdI (n:Int):Int:=if n<0∨1073741824<n then 0 else n
def cmpI (x y:Int):Int:=if x<y then -1 else if y<x then 1 else 0
def insK (key:Int→Int) (L:List Int) (x:Int):List Int:=L.filter (fun y=>decide (key y≤key x))++x::L.filter (fun y=>decide (key x<key y))
def sortK (key:Int→Int) (xs:List Int):List Int:=xs.foldl (insK key) []
theorem filter_split_len (L:List Int) (p q:Int→Bool) (h:∀ x,q x=!p x):(L.filter p).length+(L.filter q).length=L.length:=by
 induction L with
 |nil=>rfl
 |cons x L ih =>
  rw [List.filter_cons,List.filter_cons,h x]
  cases p x <;> simp <;> omega
theorem insK_len (key:Int→Int) (L:List Int) (x:Int):(insK key L x).length=L.length+1:=by
 unfold insK
 have:=filter_split_len L (fun y=>decide (key y≤key x)) (fun y=>decide (key x<key y)) (fun y=>by rw [← decide_not];congr 1;exact propext (by omega))
 rw [List.length_append,List.length_cons]
 omega
theorem sortK_snoc (key:Int→Int) (xs:List Int) (x:Int):sortK key (xs++[x])=insK key (sortK key xs) x:=by unfold sortK;rw [List.foldl_append];rfl
theorem sortK_len (key:Int→Int) (xs:List Int):(sortK key xs).length=xs.length:=by
 have h:∀ (n:Nat) (xs:List Int),xs.length=n→(sortK key xs).length=n:=by
  intro n
  induction n with
  |zero=>intro xs h;rw [List.eq_nil_of_length_eq_zero h];rfl
  |succ n ih =>
   intro xs h
   obtain ⟨ys,x,rfl⟩:∃ ys x,xs=ys++[x]:=by
    rcases List.eq_nil_or_concat xs with e | ⟨a,x,e⟩
    ·simp [e] at h
    ·exact ⟨a,x,by simpa using e⟩
   rw [sortK_snoc,insK_len,ih ys (by simpa using h)]
 exact h _ xs rfl
theorem mem_insK {key:Int→Int} {L:List Int} {x y:Int}:y∈insK key L x↔y=x∨y∈L:=by
 unfold insK
 simp only [List.mem_append,List.mem_cons,List.mem_filter,decide_eq_true_eq]
 constructor
 ·rintro (h | h | h)
  ·exact .inr h.1
  ·exact .inl h
  ·exact .inr h.1
 ·rintro (h | h)
  ·exact .inr (.inl h)
  ·rcases Int.lt_or_le (key x) (key y) with h2 | h2
   ·exact .inr (.inr ⟨h,h2⟩)
   ·exact .inl ⟨h,h2⟩
theorem mem_sortK {key:Int→Int} {xs:List Int} {y:Int}:y∈sortK key xs↔y∈xs:=by
 have h:∀ (n:Nat) (xs:List Int),xs.length=n→(y∈sortK key xs↔y∈xs):=by
  intro n
  induction n with
  |zero=>intro xs h;rw [List.eq_nil_of_length_eq_zero h];simp [sortK]
  |succ n ih =>
   intro xs h
   obtain ⟨ys,x,rfl⟩:∃ ys x,xs=ys++[x]:=by
    rcases List.eq_nil_or_concat xs with e | ⟨a,x,e⟩
    ·simp [e] at h
    ·exact ⟨a,x,by simpa using e⟩
   rw [sortK_snoc,mem_insK,ih ys (by simpa using h)]
   simp [or_comm]
 exact h _ xs rfl
theorem insK_sorted {key:Int→Int} {L:List Int} {x:Int} (h:L.Pairwise fun a b=>key a≤key b):(insK key L x).Pairwise fun a b=>key a≤key b:=by
 unfold insK
 refine List.pairwise_append.2 ⟨h.filter _,List.pairwise_cons.2 ⟨fun y hy=>?_,h.filter _⟩,fun a ha b hb=>?_⟩
 ·have:=(List.mem_filter.1 hy).2;simp at this;omega
 ·have h1:=(List.mem_filter.1 ha).2
  simp only [decide_eq_true_eq] at h1
  rcases List.mem_cons.1 hb with rfl | hb
  ·exact h1
  ·have h2:=(List.mem_filter.1 hb).2;simp only [decide_eq_true_eq] at h2;omega
theorem sortK_sorted (key:Int→Int) (xs:List Int):(sortK key xs).Pairwise fun a b=>key a≤key b:=by
 have h:∀ (n:Nat) (xs:List Int),xs.length=n→(sortK key xs).Pairwise fun a b=>key a≤key b:=by
  intro n
  induction n with
  |zero=>intro xs h;rw [List.eq_nil_of_length_eq_zero h];exact List.Pairwise.nil
  |succ n ih =>
   intro xs h
   obtain ⟨ys,x,rfl⟩:∃ ys x,xs=ys++[x]:=by
    rcases List.eq_nil_or_concat xs with e | ⟨a,x,e⟩
    ·simp [e] at h
    ·exact ⟨a,x,by simpa using e⟩
   rw [sortK_snoc]
   exact insK_sorted (ih ys (by simpa using h))
 exact h _ xs rfl
theorem insK_at {key:Int→Int} {L:List Int} {x:Int} {j:Nat} (hs:L.Pairwise fun a b=>key a≤key b) (hj:j≤L.length) (h1:∀ y∈L.drop j,key x<key y) (h2:j=0∨∃ h:j - 1<L.length,key L[j - 1]≤key x):L.take j++x::L.drop j=insK key L x:=by
 have h3:∀ y∈L.take j,key y≤key x:=by
  intro y hy
  rcases h2 with rfl | ⟨hl,h⟩
  ·simp at hy
  ·obtain ⟨i,hi,rfl⟩:=List.mem_iff_getElem.1 hy
   rw [List.length_take] at hi
   rw [List.getElem_take]
   rcases Nat.lt_or_ge i (j - 1) with h4 | h4
   ·have:=List.pairwise_iff_getElem.1 hs i (j - 1) (by omega) hl h4
    omega
   ·have:i=j - 1:=by omega
    subst this
    exact h
 unfold insK
 have e:L=L.take j++L.drop j:=(List.take_append_drop j L).symm
 have e1:L.filter (fun y=>decide (key y≤key x))=L.take j:=by
  conv=>lhs;rw [e]
  rw [List.filter_append,List.filter_eq_self.2 (fun y hy=>by simpa using h3 y hy),List.filter_eq_nil_iff.2 (fun y hy=>by have:=h1 y hy;simp;omega),List.append_nil]
 have e2:L.filter (fun y=>decide (key x<key y))=L.drop j:=by
  conv=>lhs;rw [e]
  rw [List.filter_append,List.filter_eq_nil_iff.2 (fun y hy=>by have:=h3 y hy;simp;omega),List.filter_eq_self.2 (fun y hy=>by simpa using h1 y hy),List.nil_append]
 rw [e1,e2]
theorem wrread_any (n:Int) (w:World):Calls Tryz.prog 119 #[.int .i64 n] w fun e w'=>e=.returned (.int .i64 (rdI n))∧w=w':=by
 have HR:=Lib.hid (show rdI n=if n<0∨1073741824<n then 0 else n from rfl)
 generalize rdI n=r at *
 by_cases h1:n<0
 ·have e1:decide (n<0)=true:=decide_eq_true h1
  rw [if_pos (.inl h1)] at HR
  go_enter Tryz.func119,Tryz.ntmps119
  go_wp2_with fail
  go_ret
  rw [HR.out];exact ⟨rfl,rfl⟩
 ·have e1:decide (n<0)=false:=decide_eq_false h1
  by_cases h2:1073741824<n
  ·have e2:decide (1073741824<n)=true:=decide_eq_true h2
   rw [if_pos (.inr h2)] at HR
   go_enter Tryz.func119,Tryz.ntmps119
   go_wp2_with fail
   go_ret
   rw [HR.out];exact ⟨rfl,rfl⟩
  ·have e2:decide (1073741824<n)=false:=decide_eq_false h2
   rw [if_neg (by omega)] at HR
   go_enter Tryz.func119,Tryz.ntmps119
   go_wp2_with fail
   go_ret
   rw [HR.out];exact ⟨rfl,rfl⟩
theorem nanI_any (x:Int) (w:World):Calls Tryz.prog 126 #[.int .i64 x] w fun e w'=>e=.returned (.bool false)∧w=w':=by
 go_enter Tryz.func126,Tryz.ntmps126
 go_wp2_with fail
 go_ret
 simp
theorem cmpI_any (x y:Int) (w:World):Calls Tryz.prog 118 #[.int .i64 x,.int .i64 y] w fun e w'=>e=.returned (.int .i64 (cmpI x y))∧w=w':=by
 have H1:=Lib.hid (nanI_any x w)
 have H2:=Lib.hid (nanI_any y w)
 have HC:=Lib.hid (show cmpI x y=if x<y then -1 else if y<x then 1 else 0 from rfl)
 generalize cmpI x y=r at *
 rcases (show x<y∨¬ x<y∧y<x∨¬ x<y∧¬ y<x by omega) with h1 | ⟨h1,h2⟩ | ⟨h1,h2⟩
 ·rw [if_pos h1] at HC
  go_enter Tryz.func118,Tryz.ntmps118
  go_wp2_with fail
  refine H1.out.mono ?_
  rintro e w1 ⟨rfl,rfl⟩
  go_wp2_with fail
  refine H2.out.mono ?_
  rintro e w1 ⟨rfl,rfl⟩
  go_wp2_with fail
  go_ret
  rw [HC.out];exact ⟨rfl,rfl⟩
 ·rw [if_neg h1,if_pos h2] at HC
  go_enter Tryz.func118,Tryz.ntmps118
  go_wp2_with fail
  refine H1.out.mono ?_
  rintro e w1 ⟨rfl,rfl⟩
  go_wp2_with fail
  refine H2.out.mono ?_
  rintro e w1 ⟨rfl,rfl⟩
  go_wp2_with fail
  go_ret
  rw [HC.out];exact ⟨rfl,rfl⟩
 ·rw [if_neg h1,if_neg h2] at HC
  go_enter Tryz.func118,Tryz.ntmps118
  go_wp2_with fail
  refine H1.out.mono ?_
  rintro e w1 ⟨rfl,rfl⟩
  go_wp2_with fail
  refine H2.out.mono ?_
  rintro e w1 ⟨rfl,rfl⟩
  go_wp2_with fail
  go_ret
  rw [HC.out];exact ⟨rfl,rfl⟩
end Go.Proofs.YtoelopghilbfeaaGreat
namespace Go.Proofs.YtoelopghilbfeaaGreat
open Go.RowKit
set_option linter.unusedSimpArgs false
set_option linter.unusedVariables false
section
variable {P:Program} {ops:Array Oper} {Q:Exit→Act→World→Prop} {md:Region.Mode} {S:World→Prop} {z:Nat}
theorem Z_callD (i:Nat) (d:Option Nat) {oi:Oper} {v:Value} {fuel:Nat} {listed:Array Bool} {a:Act} {w:World} {f:FuncId} {args:Array Value} (hi:ops[i]?=some oi) (hdst:oi.dst=d) (hB:takeB md ops z listed i=true)
  (hQ:∀ c a w,Q (.panic c) (a.put d v) w→Q (.panic c) a w) (hw:Region.wanted oi (yielded ops a.tmps)=true) (hS:S w) (hr:∀ wx,(execOp a.eval oi).run P wx=.ok (.enter f args) wx)
  (hy:∀ wx,S wx→Calls P f args wx fun e w'=>e=.returned v∧wx=w') (h:wpAnyZ P md ops Q S z fuel (listed.setIfInBounds i true) (a.put d v) w):wpAnyZ P md ops Q S z (fuel+1) listed a w:=by
 subst hdst
 exact Z_call i hi hB hQ hw hS hr hy h
end
end Go.Proofs.YtoelopghilbfeaaGreat
namespace Go.Proofs.YtoelopghilbfeaaGreat
open Go.RowKit
set_option linter.unusedSimpArgs false
set_option linter.unusedVariables false
def keyW (ws:List Int) (b:Int):Int:=rdI (ws.getD b.toNat 0)
set_option maxRecDepth 20000 in
set_option maxHeartbeats 1000000 in
theorem order1_any (x y:Nat) (g:Nat) (wsv:Value) (ws:List Int) (w:World) (hc:w.cell? ⟨g,0,none⟩=some wsv) (hw:NumsAt w wsv ws) (hx:x<ws.length) (hy:y<ws.length) :
  Calls Tryz.prog 117 #[.int .i64 x,.int .i64 y,.pointer (some ⟨g,0,none⟩)] w (RetQ w (.int .i64 (cmpI (keyW ws x) (keyW ws y)))):=by
 have kx:keyW ws x=rdI ws[x]:=by unfold keyW;rw [Int.toNat_natCast,List.getD_eq_getElem?_getD,List.getElem?_eq_getElem hx];rfl
 have ky:keyW ws y=rdI ws[y]:=by unfold keyW;rw [Int.toNat_natCast,List.getD_eq_getElem?_getD,List.getElem?_eq_getElem hy];rfl
 rw [kx,ky]
 obtain ⟨_,A,c,rfl,hc1,hc2,ha⟩:=hw
 obtain ⟨b,o,rfl,hcl⟩:=ha (by omega)
 have c1:w.cell? ⟨b,o+x,none⟩=some (.int .i64 ws[x]):=hcl x _ (by rw [List.getElem?_map,List.getElem?_eq_getElem hx];rfl)
 have c2:w.cell? ⟨b,o+y,none⟩=some (.int .i64 ws[y]):=hcl y _ (by rw [List.getElem?_map,List.getElem?_eq_getElem hy];rfl)
 clear ha hcl kx ky
 have K1:=Lib.hid (fun w=>wrread_any ws[x] w)
 have K2:=Lib.hid (fun w=>wrread_any ws[y] w)
 generalize ws[x]=p at *
 generalize ws[y]=q at *
 have K3:=Lib.hid (fun w=>cmpI_any (rdI p) (rdI q) w)
 unfold maxLen at hc2
 have hxc:x<c:=by omega
 have hyc:y<c:=by omega
 generalize ws.length=n at *
 generalize rdI p=p' at *
 generalize rdI q=q' at *
 generalize cmpI p' q'=r at *
 have HW:Hid (∀ wx:World,(∃ k,wx=w.drewN k)→wx.cell? ⟨g,0,none⟩=some (.slice (some ⟨b,o,none⟩) n c)∧wx.cell? ⟨b,o+x,none⟩=some (.int .i64 p)∧wx.cell? ⟨b,o+y,none⟩=some (.int .i64 q)):=Lib.hid (fun wx h=>by obtain ⟨k,rfl⟩:=h;exact ⟨hc,c1,c2⟩)
 have HD:Hid (∀ wx:World,(∃ k,wx=w.drewN k)→∃ k,wx=w.drewN k):=Lib.hid (fun wx h=>h)
 clear hc c1 c2
 go_enter Tryz.func117,Tryz.ntmps117
 go_upto_region 1 with fail
 refine Z_begin (fun wx=>wx.cell? ⟨g,0,none⟩=some (.slice (some ⟨b,o,none⟩) n c)∧wx.cell? ⟨b,o+x,none⟩=some (.int .i64 p)∧wx.cell? ⟨b,o+y,none⟩=some (.int .i64 q)) 12 (by kernel_rfl) (fun w1 hd=>HW.out w1 hd) (fun w1 hd hs=>?_)
 have hD:=hd;clear hd
 refine Zt 0 6 ?_ rfl hs ?_ ?_
 rotate_left
 ·rintro wx ⟨s0,s1,s2⟩;go_simp;try with_reducible rfl
 simp only [pt,sA,sS,sZ]
 refine Zt 1 7 ?_ rfl hs ?_ ?_
 rotate_left
 ·rintro wx ⟨s0,s1,s2⟩;go_simp;try with_reducible rfl
 simp only [pt,sA,sS,sZ]
 refine Zt 2 8 ?_ rfl hs ?_ ?_
 rotate_left
 ·rintro wx ⟨s0,s1,s2⟩;go_simp;try with_reducible rfl
 simp only [pt,sA,sS,sZ]
 refine Zt 3 9 ?_ rfl hs ?_ ?_
 rotate_left
 ·rintro wx ⟨s0,s1,s2⟩;go_simp;try with_reducible rfl
 simp only [pt,sA,sS,sZ]
 refine Z_callD 4 (some 10) rfl rfl (by kernel_rfl) (fun _ _ _ h=>h) (by rfl) hs (fun wx=>by go_simp) (fun wx hx=>K1.out wx) ?_
 simp only [pt,sA,sS,sZ]
 refine Zt 5 11 ?_ rfl hs ?_ ?_
 rotate_left
 ·rintro wx ⟨s0,s1,s2⟩;go_simp;try with_reducible rfl
 simp only [pt,sA,sS,sZ]
 refine Zt 6 12 ?_ rfl hs ?_ ?_
 rotate_left
 ·rintro wx ⟨s0,s1,s2⟩;go_simp;try with_reducible rfl
 simp only [pt,sA,sS,sZ]
 refine Zt 7 13 ?_ rfl hs ?_ ?_
 rotate_left
 ·rintro wx ⟨s0,s1,s2⟩;go_simp;try with_reducible rfl
 simp only [pt,sA,sS,sZ]
 refine Zt 8 14 ?_ rfl hs ?_ ?_
 rotate_left
 ·rintro wx ⟨s0,s1,s2⟩;go_simp;try with_reducible rfl
 simp only [pt,sA,sS,sZ]
 refine Z_callD 9 (some 15) rfl rfl (by kernel_rfl) (fun _ _ _ h=>h) (by rfl) hs (fun wx=>by go_simp) (fun wx hx=>K2.out wx) ?_
 simp only [pt,sA,sS,sZ]
 refine Z_callD 10 (some 16) rfl rfl (by kernel_rfl) (fun _ _ _ h=>h) (by rfl) hs (fun wx=>by go_simp) (fun wx hx=>K3.out wx) ?_
 simp only [pt,sA,sS,sZ]
 refine Zt 11 5 ?_ rfl hs ?_ ?_
 rotate_left
 ·rintro wx ⟨s0,s1,s2⟩;go_simp;try with_reducible rfl
 simp only [pt,sA,sS,sZ]
 refine Z_done (by kernel_rfl) ?_ _
 obtain ⟨k,rfl⟩:=hD
 go_wp2_with fail
 go_ret
 exact ⟨rfl,k,rfl⟩
def CmpOk (g:Nat) (key:Int→Int) (xs:List Int) (Fr:HL):Prop:=∀ x∈xs,∀ y∈xs,∀ wx,Holds wx Fr→Calls Tryz.prog 117 #[.int .i64 x,.int .i64 y,.pointer (some ⟨g,0,none⟩)] wx (RetQ wx (.int .i64 (cmpI (key x) (key y))))
def InsO (key:Int→Int) (xs:List Int) (v:Value) (w:World) (Fr:HL) (i:Value) (wr:World):Prop :=
 ∃ (k:Nat) (H:HL),1≤k∧k≤xs.length∧i=.int .i64 k∧IsNums v (sortK key (xs.take k)++xs.drop k) H∧Holds wr (H++Fr)∧Grew w wr
def InsI (key:Int→Int) (L:List Int) (x:Int) (R:List Int) (v:Value) (w:World) (Fr:HL) (j:Value) (wr:World):Prop :=
 ∃ (k:Nat) (H:HL),k≤L.length∧j=.int .i64 k∧IsNums v (L.take k++x::(L.drop k++R)) H∧(∀ y∈L.drop k,key x<key y)∧Holds wr (H++Fr)∧Grew w wr
theorem swap_back {L R:List Int} {x:Int} {k:Nat} (hk:k+1≤L.length) :
  ((L.take (k+1)++x::(L.drop (k+1)++R)).set (k+1) (L[k]'(by omega))).set k x=L.take k++x::(L.drop k++R):=by
 have e1:L.take (k+1)=L.take k++[L[k]'(by omega)]:=List.take_succ_eq_append_getElem (by omega)
 have e2:L.drop k=L[k]'(by omega)::L.drop (k+1):=List.drop_eq_getElem_cons (by omega)
 have hl:(L.take k).length=k:=by rw [List.length_take];omega
 rw [e1,e2]
 simp only [List.append_assoc,List.singleton_append,List.cons_append]
 rw [List.set_append_right _ _ (by omega),hl]
 have e3:k+1 - k=1:=by omega
 rw [e3,List.set_append_right _ _ (by omega),hl,Nat.sub_self]
 rfl
theorem IsNums.cell {v:Value} {zs:List Int} {H Fr:HL} {w:World} (h:IsNums v zs H) (hH:Holds w (H++Fr)) {j:Nat} (hj:j<zs.length) :
  ∃ g cap,v=.slice (some ⟨g,0,none⟩) zs.length cap∧zs.length≤cap∧cap≤maxLen∧g<w.heap.size∧w.cell? ⟨g,j,none⟩=some (.int .i64 zs[j])∧w.frozen? ⟨g,j,none⟩=false ∧
   ∀ (w':World) (Fr':HL),Holds w' (H++Fr')→∀ u:Int,∃ H',IsNums v (zs.set j u) H'∧Holds (w'.setCell ⟨g,j,none⟩ (.int .i64 u)) (H'++Fr'):=by
 obtain ⟨g,cap,hv,h1,h2,h3,h4,h5,h6⟩:=IsRow.cell h hH (j:=j) (by simpa using hj)
 refine ⟨g,cap,hv,h1,h2,h3,by simpa using h4,h5,fun w' Fr' h' u=>?_⟩
 obtain ⟨H',hr,hh⟩:=h6 w' Fr' h' (.int .i64 u)
 refine ⟨H',?_,hh⟩
 unfold IsNums
 rw [List.length_set,List.map_set]
 exact hr
set_option maxRecDepth 20000 in
set_option maxHeartbeats 4000000 in
theorem insort_any (v:Value) (xs:List Int) (g:Nat) (key:Int→Int) (w:World) (H Fr:HL) (h:IsNums v xs H) (hH:Holds w (H++Fr)) (hc:CmpOk g key xs Fr) (h1:1≤xs.length) (hsm:xs.length≤1000) :
  Calls Tryz.prog 127 #[v,.int .i64 0,.int .i64 xs.length,.func (Fn.func 117) #[] #[.pointer (some ⟨g,0,none⟩)]] w (RetUpd (fun H'=>IsNums v (sortK key xs) H') (.tuple #[]) w Fr):=by
 have HC:=Lib.hid hc
 have HI:=Lib.hid h
 obtain ⟨A,c,rfl⟩:=h.val
 obtain ⟨n,hn⟩:∃ n,n=xs.length:=⟨_,rfl⟩
 have HN:=Lib.hid hn
 rw [← hn] at h1 hsm HI ⊢
 clear h hc hn
 go_enter Tryz.func127,Tryz.ntmps127
 go_wp2_with fail
 go_loopw [8] (fun i wr=>InsO key xs (.slice A n c) w Fr i wr) (fun i _=>n - (intOf i).toNat)
 case atStart =>
  refine ⟨1,H,by omega,by rw [← HN.out];exact h1,rfl,?_,hH,Grew.refl w⟩
  have e:sortK key (xs.take 1)++xs.drop 1=xs:=by
   have h2:0<xs.length:=by rw [← HN.out];omega
   have e1:xs.take 1=[xs[0]'h2]:=by
    have:=List.take_succ_eq_append_getElem (l:=xs) (i:=0) h2
    simpa using this
   rw [e1]
   show [xs[0]'h2]++xs.drop 1=xs
   rw [← e1,List.take_append_drop]
  rw [e]
  exact HI.out
 case round =>
  obtain ⟨k,H2,hk1,hk2,rfl,hz,hH2,hg2⟩:=hrel
  rw [← HN.out] at hk2
  by_cases hlt:k<n
  ·have hlt2:k<xs.length:=by rw [← HN.out];exact hlt
   have HLl:=Lib.hid (show (sortK key (xs.take k)).length=k by rw [sortK_len,List.length_take];omega)
   have HLs:=Lib.hid (sortK_sorted key (xs.take k))
   have HLm:=Lib.hid (show ∀ y∈sortK key (xs.take k),y∈xs from fun y hy=>List.mem_of_mem_take (mem_sortK.1 hy))
   have HXm:=Lib.hid (List.getElem_mem hlt2)
   have HNX:=Lib.hid (show sortK key (xs.take (k+1))=insK key (sortK key (xs.take k)) xs[k] by rw [List.take_succ_eq_append_getElem hlt2,sortK_snoc])
   rw [List.drop_eq_getElem_cons hlt2] at hz
   have HZ:=Lib.hid hz
   have HRl:=Lib.hid (show (xs.drop (k+1)).length=n - (k+1) by rw [List.length_drop,← HN.out])
   clear hz
   generalize sortK key (xs.take k)=L at *
   generalize xs[k]=x at *
   obtain ⟨R,hR⟩:∃ R,R=xs.drop (k+1):=⟨_,rfl⟩
   rw [← hR] at HZ HRl
   have HRE:=Lib.hid hR
   clear hR
   go_wp2_with fail
   go_loopw [9] (fun j wr=>InsI key L x R (.slice A n c) w Fr j wr) (fun j _=>(intOf j).toNat)
   case atStart=>exact ⟨k,H2,by rw [HLl.out];exact Nat.le_refl _,rfl,by rw [List.take_of_length_le (by rw [HLl.out];exact Nat.le_refl _),List.drop_of_length_le (by rw [HLl.out];exact Nat.le_refl _)];exact HZ.out,by rw [List.drop_of_length_le (by rw [HLl.out];exact Nat.le_refl _)];simp,hH2,hg2⟩
   case round =>
    obtain ⟨j,H3,hj,rfl,hz,hgt,hH3,hg3⟩:=hrel
    rw [HLl.out] at hj
    have HGT:=Lib.hid hgt
    have HZ3:=Lib.hid hz
    clear hz hgt
    have hzl:(L.take j++x::(L.drop j++R)).length=n:=by
     have h1:=HLl.out
     have h2:=HRl.out
     simp only [List.length_append,List.length_take,List.length_cons,List.length_drop]
     omega
    rcases Nat.eq_zero_or_pos j with rfl | hj0
    ·have HE:=Lib.hid (insK_at (x:=x) (j:=0) HLs.out (by omega) HGT.out (.inl rfl))
     go_wp2_with fail
     go_quiet (fail)
     have hH4:=hH3.drewN nq
     have hg4:=hg3.drewN nq
     go_wp2_with fail
     go_roundw
     case rel =>
      refine ⟨k+1,H3,by omega,by rw [← HN.out];omega,by go_num,?_,hH4,hg4⟩
      rw [HNX.out,← HE.out,List.append_assoc,List.cons_append,← HRE.out]
      exact HZ3.out
     case measure=>simp [intOf];omega
    ·obtain ⟨i,rfl⟩:∃ i,j=i+1:=⟨j - 1,by omega⟩
     have hiL:i<L.length:=by rw [HLl.out];omega
     have e1:(L.take (i+1)++x::(L.drop (i+1)++R))[i]'(by omega)=L[i]:=by
      rw [List.getElem_append_left (by rw [List.length_take];omega),List.getElem_take]
     have e2:(L.take (i+1)++x::(L.drop (i+1)++R))[i+1]'(by omega)=x:=by
      rw [List.getElem_append_right (by rw [List.length_take];omega)]
      simp only [List.length_take,Nat.min_eq_left (show i+1≤L.length by omega),Nat.sub_self,List.getElem_cons_zero]
     obtain ⟨gd,cap,hv,hn1,hn2,hgl,hc1,hf1,hset1⟩:=HZ3.out.cell hH3 (j:=i+1) (by omega)
     obtain ⟨gd',cap',hv',_,_,_,hc0,hf0,_⟩:=HZ3.out.cell hH3 (j:=i) (by omega)
     rw [hzl] at hv hv' hn1
     injection hv with hv1 hv2 hv3
     subst hv1 hv3
     injection hv' with hv1 hv2 hv3
     injection hv1 with hv1
     injection hv1 with hv1 _
     subst hv1 hv3
     unfold maxLen at hn2
     rw [e2] at hc1
     rw [e1] at hc0
     have HCC:=Lib.hid (fun q=>HC.out x HXm.out L[i] (HLm.out _ (List.getElem_mem hiL)) (wr.drewN q) (hH3.right.drewN q))
     have HSW:=Lib.hid (swap_back (R:=R) (x:=x) hiL)
     have HGT2:=Lib.hid (show key x<key L[i]→∀ y∈L.drop i,key x<key y from fun hh y hy=>by
      rw [List.drop_eq_getElem_cons hiL] at hy
      rcases List.mem_cons.1 hy with rfl | hy
      ·exact hh
      ·exact HGT.out y hy)
     have HE:=Lib.hid (fun hh:¬ key x<key L[i]=>insK_at (x:=x) (j:=i+1) HLs.out (by omega) HGT.out (.inr ⟨hiL,by simp only [Nat.add_sub_cancel];omega⟩))
     have HS1:=Lib.hid hset1
     have HC0:Hid (∀ w':World,Holds w' (H3++Fr)→w'.cell? ⟨gd,i,none⟩=some (.int .i64 L[i])∧w'.frozen? ⟨gd,i,none⟩=false∧gd<w'.heap.size):=Lib.hid (fun w' h'=>by
      obtain ⟨_,_,hv9,_,_,hl9,hc9,hf9,_⟩:=HZ3.out.cell h' (j:=i) (by omega)
      injection hv9 with hv9 _ _
      injection hv9 with hv9
      injection hv9 with hv9 _
      subst hv9
      rw [e1] at hc9
      exact ⟨hc9,hf9,hl9⟩)
     clear hset1 e1 e2 hv2
     generalize L[i]=y at *
     obtain ⟨kx,hkx⟩:∃ kx,kx=key x:=⟨_,rfl⟩
     rw [← hkx] at HCC HGT2 HE
     have HKX:=Lib.hid hkx
     clear hkx
     generalize key y=ky at *
     have hin:(i:Int)<(n:Int):=by omega
     have hin1:(i:Int)+1<(n:Int):=by omega
     have hi0:(0:Int)≤(i:Int):=by omega
     have hi1:(0:Int)≤(i:Int)+1:=by omega
     have hwi:IntKind.i64.wrap (i:Int)=(i:Int):=by
      simp only [IntKind.wrap,IntKind.bits,IntKind.signed]
      simp
      omega
     by_cases hk:kx<ky
     ·have HK:=Lib.hid hk
      rw [show cmpI kx ky=-1 by unfold cmpI;rw [if_pos hk]] at HCC
      go_wp2_with fail
      go_quiet ((go_at_call 117;exact quietQ (HCC.out _)))
      have hH4:=hH3.drewN nq
      have hg4:=hg3.drewN nq
      have HCL:Hid ((wr.drewN nq).cell? ⟨gd,i,none⟩=some (.int .i64 y)∧(wr.drewN nq).cell? ⟨gd,i+1,none⟩=some (.int .i64 x)∧(wr.drewN nq).frozen? ⟨gd,i,none⟩=false∧(wr.drewN nq).frozen? ⟨gd,i+1,none⟩=false∧gd<(wr.drewN nq).heap.size):=Lib.hid ⟨hc0,hc1,hf0,hf1,hgl⟩
      have HS2:Hid (∀ (w':World),Holds w' (H3++Fr)→∃ H',IsNums (.slice (some ⟨gd,0,none⟩) n c) (L.take i++x::(L.drop i++R)) H'∧Holds ((w'.setCell ⟨gd,i+1,none⟩ (.int .i64 y)).setCell ⟨gd,i,none⟩ (.int .i64 x)) (H'++Fr)∧(w'.setCell ⟨gd,i+1,none⟩ (.int .i64 y)).frozen? ⟨gd,i,none⟩=false∧((w'.setCell ⟨gd,i+1,none⟩ (.int .i64 y)).cell? ⟨gd,i,none⟩).isSome=true∧gd<(w'.setCell ⟨gd,i+1,none⟩ (.int .i64 y)).heap.size):=Lib.hid (by
       intro w' h'
       obtain ⟨Ha,ha1,ha2⟩:=HS1.out w' Fr h' y
       obtain ⟨_,_,hv9,_,_,hl9,hc9,hf9,hs9⟩:=ha1.cell ha2 (j:=i) (by rw [List.length_set];omega)
       obtain ⟨Hb,hb1,hb2⟩:=hs9 _ Fr ha2 x
       rw [HSW.out] at hb1
       injection hv9 with hv9 _ _
       injection hv9 with hv9
       injection hv9 with hv9 _
       subst hv9
       exact ⟨Hb,hb1,hb2,hf9,by rw [hc9];rfl,hl9⟩)
      generalize wr.drewN nq=w4 at *
      clear hc0 hc1 hf0 hf1 hgl hH3 hg3
      go_upto_region 6 with fail
      refine Y_begin (fun wx=>wx.cell? ⟨gd,i,none⟩=some (.int .i64 y)∧wx.cell? ⟨gd,i+1,none⟩=some (.int .i64 x)∧wx.frozen? ⟨gd,i,none⟩=false∧wx.frozen? ⟨gd,i+1,none⟩=false∧gd<wx.heap.size) 15 (by kernel_rfl) (fun w1 hd=>(by obtain ⟨kd,rfl⟩:=hd;exact HCL.out)) (fun w1 hd hs=>?_)
      have hH5:=hH4.dr hd;have hG5:=hg4.trans (Grew.dr hd);clear hd hH4 hg4
      refine Yt 0 37 ?_ rfl hs ?_ ?_
      rotate_left
      ·intro wx;go_simp;try with_reducible rfl
      simp only [pt,sA,sS,sZ]
      refine Yt 1 38 ?_ rfl hs ?_ ?_
      rotate_left
      ·intro wx;go_simp;try with_reducible rfl
      simp only [pt,sA,sS,sZ]
      refine Yt 2 39 ?_ rfl hs ?_ ?_
      rotate_left
      ·intro wx;go_simp;try with_reducible rfl
      simp only [pt,sA,sS,sZ]
      refine Yt 3 40 ?_ rfl hs ?_ ?_
      rotate_left
      ·intro wx;go_simp;try with_reducible rfl
      simp only [pt,sA,sS,sZ]
      refine Yt 4 41 ?_ rfl hs ?_ ?_
      rotate_left
      ·intro wx;go_simp;try with_reducible rfl
      simp only [pt,sA,sS,sZ]
      refine Yt 5 42 ?_ rfl hs ?_ ?_
      rotate_left
      ·intro wx;go_simp;try with_reducible rfl
      simp only [pt,sA,sS,sZ]
      refine Yt 6 43 ?_ rfl hs ?_ ?_
      rotate_left
      ·intro wx;go_simp;try with_reducible rfl
      simp only [pt,sA,sS,sZ]
      refine Yt 7 44 ?_ rfl hs ?_ ?_
      rotate_left
      ·intro wx;go_simp;try with_reducible rfl
      simp only [pt,sA,sS,sZ]
      refine Yt 8 45 ?_ rfl hs ?_ ?_
      rotate_left
      ·intro wx;go_simp;try with_reducible rfl
      simp only [pt,sA,sS,sZ]
      refine Yd 9 46 ?_ rfl hs ?_ ?_
      rotate_left
      ·rintro wx ⟨s0,s1,s2,s3,s4⟩;go_simp;try with_reducible rfl
      simp only [pt,sA,sS,sZ]
      refine Yt 10 47 ?_ rfl hs ?_ ?_
      rotate_left
      ·intro wx;go_simp;try with_reducible rfl
      simp only [pt,sA,sS,sZ]
      refine Yt 11 48 ?_ rfl hs ?_ ?_
      rotate_left
      ·intro wx;go_simp;try with_reducible rfl
      simp only [pt,sA,sS,sZ]
      refine Yt 12 49 ?_ rfl hs ?_ ?_
      rotate_left
      ·intro wx;go_simp;try with_reducible rfl
      simp only [pt,sA,sS,sZ]
      refine Yd 13 50 ?_ rfl hs ?_ ?_
      rotate_left
      ·rintro wx ⟨s0,s1,s2,s3,s4⟩;go_simp;try with_reducible rfl
      simp only [pt,sA,sS,sZ]
      refine Yt 14 51 ?_ rfl hs ?_ ?_
      rotate_left
      ·intro wx;go_simp;try with_reducible rfl
      simp only [pt,sA,sS,sZ]
      refine Y_late 15 rfl (by kernel_rfl) (by kernel_rfl) (fun K hK=>?_)
      have ⟨s0,s1,s2,s3,s4⟩:=hs
      have z9:=s3;go_simp
      clear s0 s1 s2 s3 s4 hs
      refine hK _ _ ?_;clear hK K
      refine Y_late 16 rfl (by kernel_rfl) (by kernel_rfl) (fun K hK=>?_)
      go_simp
      refine hK _ _ ?_;clear hK K
      refine Y_late 17 rfl (by kernel_rfl) (by kernel_rfl) (fun K hK=>?_)
      obtain ⟨H9,hz9,hH9,f9,c9,l9⟩:=HS2.out w1 hH5;obtain ⟨k9,m9,n9⟩:=HC0.out w1 hH5;have hG9:=(hG5.setCell ⟨gd,i+1,none⟩ (.int .i64 y)).setCell ⟨gd,i,none⟩ (.int .i64 x);go_simp
      refine hK _ _ ?_;clear hK K
      refine Y_done (by kernel_rfl) ?_ _
      have HZ9:=Lib.hid hz9
      clear hz9 f9 c9 l9 k9 m9 n9 hH5 hG5
      change Exit.inBlock _ _ _ _ ((w1.setCell ⟨gd,i+1,none⟩ (.int .i64 y)).setCell ⟨gd,i,none⟩ (.int .i64 x))
      generalize (w1.setCell ⟨gd,i+1,none⟩ (.int .i64 y)).setCell ⟨gd,i,none⟩ (.int .i64 x)=w9 at *
      go_wp2_with fail
      go_roundw
      case rel=>exact ⟨i,H9,by omega,by go_num,HZ9.out,by rw [← HKX.out];exact HGT2.out HK.out,hH9,hG9⟩
      case measure=>simp [intOf]
     ·have HK:=Lib.hid hk
      rw [show cmpI kx ky=(if ky<kx then 1 else 0) by unfold cmpI;rw [if_neg hk]] at HCC
      have hge:decide ((if ky<kx then (1:Int) else 0)<0)=false:=by split <;> decide
      generalize (if ky<kx then (1:Int) else 0)=cc at *
      have hcc:decide (cc<0)=false:=hge
      clear hge hk
      go_wp2_with fail
      go_quiet ((go_at_call 117;exact quietQ (HCC.out _)))
      have hH4:=hH3.drewN nq
      have hg4:=hg3.drewN nq
      go_wp2_with fail
      go_roundw
      case rel =>
       refine ⟨k+1,H3,by omega,by rw [← HN.out];omega,by go_num,?_,hH4,hg4⟩
       rw [HNX.out,← HE.out HK.out,List.append_assoc,List.cons_append,← HRE.out]
       exact HZ3.out
      case measure=>simp [intOf];omega
  ·have hk3:k=n:=by omega
   subst hk3
   rw [HN.out,List.take_length,List.drop_length,List.append_nil] at hz
   have HZ:=Lib.hid hz
   clear hz
   go_wp2_with fail
   go_end0
   rw [HN.out]
   exact ⟨rfl,H2,HZ.out,hH2,hg2⟩
set_option maxRecDepth 20000 in
set_option maxHeartbeats 4000000 in
theorem stable_any (v:Value) (xs:List Int) (g:Nat) (key:Int→Int) (w:World) (H Fr:HL) (h:IsNums v xs H) (hH:Holds w (H++Fr)) (hc:CmpOk g key xs Fr) (hsm:xs.length<20) :
  Calls Tryz.prog 116 #[v,.func (Fn.func 117) #[] #[.pointer (some ⟨g,0,none⟩)]] w (RetUpd (fun H'=>IsNums v (sortK key xs) H') (.tuple #[]) w Fr):=by
 have HS:Calls Tryz.prog 125 #[v,.int .i64 xs.length,.func (Fn.func 117) #[] #[.pointer (some ⟨g,0,none⟩)]] w (RetUpd (fun H'=>IsNums v (sortK key xs) H') (.tuple #[]) w Fr):=by
  have HI:Hid (Calls Tryz.prog 127 #[v,.int .i64 0,.int .i64 xs.length,.func (Fn.func 117) #[] #[.pointer (some ⟨g,0,none⟩)]] w (RetUpd (fun H'=>IsNums v (sortK key xs) H') (.tuple #[]) w Fr)):=Lib.hid (by
   rcases Nat.eq_zero_or_pos xs.length with h0 | h0
   ·have hx:xs=[]:=List.eq_nil_of_length_eq_zero h0
    have HI0:=Lib.hid h
    obtain ⟨A,c,rfl⟩:=h.val
    subst hx
    simp only [List.length_nil,Int.natCast_zero] at *
    clear hc h hsm h0
    go_enter Tryz.func127,Tryz.ntmps127
    go_wp2_with fail
    go_loopw [8] (fun i wr=>i=.int .i64 1∧w=wr) (fun i _=>0)
    case atStart=>exact ⟨rfl,rfl⟩
    case round =>
     obtain ⟨rfl,rfl⟩:=hrel
     go_wp2_with fail
     go_end0
     exact ⟨rfl,H,HI0.out,hH,Grew.refl w⟩
   ·exact insort_any v xs g key w H Fr h hH hc h0 (by omega))
  obtain ⟨A,c,rfl⟩:=h.val
  generalize hn:xs.length=n at *
  have h20:decide ((20:Int)≤(n:Int))=false:=decide_eq_false (by omega)
  have h21:decide ((20:Int)<(n:Int))=false:=decide_eq_false (by omega)
  clear h hH hc hn
  go_enter Tryz.func125,Tryz.ntmps125
  go_wp2_with fail
  go_loopw [7,8] (fun a b wr=>a=.int .i64 0∧b=.int .i64 20∧w=wr) (fun _ _ _=>0)
  case atStart=>exact ⟨rfl,rfl,rfl⟩
  case round =>
   obtain ⟨rfl,rfl,rfl⟩:=hrel
   go_wp2_with fail
   refine HI.out.mono ?_
   rintro e w2 ⟨rfl,H2,hz,hH2,hg2⟩
   have HZ:=Lib.hid hz
   clear hz HI
   go_wp2_with fail
   go_loopw [6] (fun a wr=>a=.int .i64 20∧w2=wr) (fun _ _=>0)
   case atStart=>exact ⟨rfl,rfl⟩
   case round =>
    obtain ⟨rfl,rfl⟩:=hrel
    go_wp2_with fail
    go_end0
    exact ⟨rfl,H2,HZ.out,hH2,hg2⟩
 have HS2:=Lib.hid HS
 obtain ⟨A,c,rfl⟩:=h.val
 have hle:=ReadsAt.le (h.at_ hH)
 unfold maxLen at hle
 generalize xs.length=n at *
 clear h hH hc HS
 go_enter Tryz.func116,Tryz.ntmps116
 go_wp2_with fail
 refine HS2.out.mono ?_
 rintro e w2 ⟨rfl,H2,hz,hH2,hg2⟩
 have HZ:=Lib.hid hz
 clear hz HS2
 go_wp2_with fail
 go_end0
 exact ⟨rfl,H2,HZ.out,hH2,hg2⟩
end Go.Proofs.YtoelopghilbfeaaGreat
namespace Go.Proofs.YtoelopghilbfeaaGreat
open Go.RowKit
set_option linter.unusedSimpArgs false
set_option linter.unusedVariables false
def FrNs (Fr:HL) (v:Value) (ws:List Int):Prop:=∀ w,Holds w Fr→NumsAt w v ws
def BlsAt (w:World) (v:Value) (cs:List Bool):Prop:=ReadsAt w 1 v cs.length (cs.map Value.bool)
def FrBls (Fr:HL) (v:Value) (cs:List Bool):Prop:=∀ w,Holds w Fr→BlsAt w v cs
def countTo (cs:List Bool) (k:Nat):List Int:=((List.range k).filter fun i=>cs.getD i false).map fun i:Nat=>(i:Int)
theorem countTo_succ (cs:List Bool) (k:Nat) (h:k<cs.length):countTo cs (k+1)=if cs[k] then countTo cs k++[(k:Int)] else countTo cs k:=by
 unfold countTo
 rw [List.range_succ,List.filter_append]
 cases hk:cs[k] <;> simp [hk,List.getElem?_eq_getElem h,List.filter_cons]
theorem countTo_len (cs:List Bool) (k:Nat):(countTo cs k).length≤k:=by
 unfold countTo
 rw [List.length_map]
 have:=List.length_filter_le (fun i=>cs.getD i false) (List.range k)
 simpa using this
theorem mem_countTo {cs:List Bool} {k:Nat} {x:Int}:x∈countTo cs k↔∃ i:Nat,x=i∧i<k∧cs.getD i false=true:=by
 unfold countTo
 rw [List.mem_map]
 constructor
 ·rintro ⟨i,hi,rfl⟩
  obtain ⟨h1,h2⟩:=List.mem_filter.1 hi
  exact ⟨i,rfl,List.mem_range.1 h1,h2⟩
 ·rintro ⟨i,rfl,h1,h2⟩
  exact ⟨i,List.mem_filter.2 ⟨List.mem_range.2 h1,h2⟩,rfl⟩
def orderW (ws:List Int) (cs:List Bool):List Int:=sortK (keyW ws) (countTo cs cs.length)
def OrdTo (cs:List Bool) (w:World) (Fr:HL) (out i:Value) (wr:World):Prop :=
 ∃ (k:Nat) (H:HL),k≤cs.length∧i=.int .i64 k∧IsNums out (countTo cs k) H∧Holds wr (H++Fr)∧Grew w wr
set_option maxRecDepth 20000 in
set_option maxHeartbeats 4000000 in
theorem order_any (wsv cv:Value) (ws:List Int) (cs:List Bool) (w:World) (Fr:HL) (hw:FrNs Fr wsv ws) (hc:FrBls Fr cv cs) (hH:Holds w Fr) (hl:ws.length=cs.length) (hsm:cs.length<20) :
  Calls Tryz.prog 103 #[wsv,cv] w (RetNew (fun v H=>IsNums v (orderW ws cs) H) w Fr):=by
 have HCB:=Lib.hid hc
 obtain ⟨_,A,c,rfl,hc1,hc2,ha⟩:=hc w hH
 obtain ⟨_,A1,c1,rfl,hd1,hd2,_⟩:=hw w hH
 unfold maxLen at hc2 hd2
 have hH1:=hH.alloc (.cells #[.slice A1 ws.length c1] 45)
 have hg1:=(Grew.refl w).alloc (.cells #[.slice A1 ws.length c1] 45)
 have x0:=hH1.hcell 0
 have HCMP:Hid (CmpOk w.heap.size (keyW ws) (countTo cs cs.length) ((w.heap.size,.cells #[.slice A1 ws.length c1] 45)::Fr)):=Lib.hid (by
  intro x hx y hy wx hX
  obtain ⟨i,rfl,hi,_⟩:=mem_countTo.1 hx
  obtain ⟨j,rfl,hj,_⟩:=mem_countTo.1 hy
  exact order1_any i j w.heap.size (.slice A1 ws.length c1) ws wx (hX.hcell 0) (hw wx hX.tail) (by omega) (by omega))
 obtain ⟨n,hn⟩:∃ n,n=cs.length:=⟨_,rfl⟩
 have HN:=Lib.hid hn
 rw [hl,← hn] at hH1 hg1 x0 HCMP hd1 ⊢
 rw [← hn] at hc1 hsm ha
 have HA:=Lib.hid ha
 have HX0:=Lib.hid (fun (wx:World) (X:HL) (hX:Holds wx (X++((w.heap.size,.cells #[.slice A1 n c1] 45)::Fr)))=>hX.right.hcell 0)
 have HOW:=Lib.hid (show orderW ws cs=sortK (keyW ws) (countTo cs cs.length) from rfl)
 rw [← hn] at HOW
 clear ha hn hw hc hH
 generalize orderW ws cs=res at *
 go_enter Tryz.func103,Tryz.ntmps103
 go_wp2_with fail
 generalize w.alloc (.cells #[.slice A1 n c1] 45)=w1 at *
 generalize w.heap.size=g at *
 go_loopw [5,15] (fun out i wr=>OrdTo cs w ((g,.cells #[.slice A1 n c1] 45)::Fr) out i wr) (fun _ i _=>n - (intOf i).toNat)
 case atStart=>exact ⟨0,[],by omega,rfl,IsRow.nil _ _,hH1,hg1⟩
 case round =>
  clear x0 hH1 hg1
  obtain ⟨k,H,hk,rfl,hz,hH2,hg2⟩:=hrel
  rw [← HN.out] at hk
  have HZ:=Lib.hid hz
  clear hz
  by_cases hlt:k<n
  ·have hlt2:k<cs.length:=by rw [← HN.out];exact hlt
   obtain ⟨b,o,rfl,hcl⟩:=HA.out (by omega)
   have hCw:=HCB.out wr hH2.right.tail
   have hcc:wr.cell? ⟨b,o+k,none⟩=some (.bool cs[k]):=by
    obtain ⟨_,A',c',hv',_,_,ha'⟩:=hCw
    injection hv' with e1 _ _
    obtain ⟨b',o',e2,hc'⟩:=ha' (by omega)
    rw [e2] at e1
    injection e1 with e1
    injection e1 with e1 e3
    subst e1 e3
    exact hc' k _ (by rw [List.getElem?_map,List.getElem?_eq_getElem hlt2];rfl)
   have HT:=Lib.hid (countTo_succ cs k hlt2)
   have HLN:=Lib.hid (countTo_len cs k)
   clear hcl hCw
   generalize cs[k]=bb at *
   cases bb with
   |true =>
    go_wp2_with (at_builtin;refine wpList_append_T tInts (by rfl) (.tmp 21) (.tmp 23) (by rfl) (by rfl) (by rfl) HZ.out (hH2.alloc' _) ReadsAt.one (by simp [Value.oneCell']) (by have:=HLN.out;simp only [maxLen];omega) (by have:=HLN.out;omega) ?_;intro A' c' w' H' hrow hH3 hg3)
    go_roundw
    case rel =>
     refine ⟨k+1,H',by rw [← HN.out];omega,by go_num,?_,hH3,(hg2.alloc _).trans hg3⟩
     rw [HT.out,if_pos rfl]
     unfold IsNums
     rw [List.length_append,List.map_append]
     exact hrow
    case measure=>simp only [intOf];omega
   |false =>
    go_wp2_with fail
    go_roundw
    case rel =>
     refine ⟨k+1,H,by rw [← HN.out];omega,by go_num,?_,hH2,hg2⟩
     rw [HT.out,if_neg (by decide)]
     exact HZ.out
    case measure=>simp only [intOf];omega
  ·have hk2:k=n:=by omega
   subst hk2
   have HST:=Lib.hid (stable_any _ (countTo cs k) g (keyW ws) wr H _ HZ.out hH2 HCMP.out (by have:=countTo_len cs k;omega))
   obtain ⟨Ao,co,rfl⟩:=HZ.out.val
   generalize (countTo cs k).length=lo at *
   clear HA
   go_wp2_with fail
   refine HST.out.mono ?_
   rintro e w3 ⟨rfl,H3,hz3,hH3,hg3⟩
   have HZ3:=Lib.hid hz3
   have hg4:=hg2.trans hg3
   have hfin:Holds w3 (H3++Fr):=Holds.mid (B:=[_]) hH3
   clear hz3 hg3 hH3
   go_wp2_with fail
   go_ret
   rw [HOW.out]
   exact ⟨_,H3,rfl,HZ3.out,hfin,hg4⟩
end Go.Proofs.YtoelopghilbfeaaGreat
