/-
  Lemmas.
-/
import Derived.Test.YtalnifciidblkaaGreatDoorG00
import Derived.Deep.DeepCutAuto
import Derived.BigQuiet
import Derived.Test.YtalnifciidblkaaGreatDoorG12
namespace Go.Proofs.YtalnifciidblkaaGreatDoor
open _root_.Go.Proofs.Tryz
open Go.RowKit
set_option linter.unusedSimpArgs false
set_option linter.unusedVariables false
set_option maxRecDepth 20000
set_option maxHeartbeats 4000000
def iN(Z:Int):Int:=(Z-42)/15
def jY(Z m:Int):Int:=m/iN Z+(if m%iN Z≠0∨m/iN Z=0 then 1 else 0)
def upI(a b:Int):Int:=(a+b-1)/b
def oG(B P Z:Int):Int:=upI (jY Z (B*P)) P
def UK(B P Z:Int):Int:=B-(2*oG B P Z+5)
def Mc(B P Z:Int):Bool:=(decide (16<=B)&&decide (B<=32))&&((decide (4<=P)&&decide (P<=8))&&(decide (128<=Z)&&decide (Z<=256)))
def lH(B P Z:Int):Bool:=Mc B P Z&&decide (1<=UK B P Z)
theorem AE{Z:Int}(h1:128<=Z)(h2:Z<=256):5<=iN Z∧iN Z<=14:=by unfold iN;omega
theorem iX(n lo hi:Int)(w:World):Calls Tryz.prog 153 #[.int .i64 n,.int .i64 lo,.int .i64 hi] w fun e w'=>e=.returned (.bool (decide (lo<=n)&&decide (n<=hi)))∧w=w':=by
 by_cases h:lo<=n
 ·have e1:decide (lo<=n)=true:=decide_eq_true h;rw[e1];go_enter func153,ntmps153;go_wp2_with fail
  go_ret;exact⟨rfl,rfl⟩
 ·have e1:decide (lo<=n)=false:=decide_eq_false h;rw[e1];go_enter func153,ntmps153;go_wp2_with fail
  go_ret;exact⟨rfl,rfl⟩
theorem eP{fn:Func}{p:Tmp}{ty:TypeId}(h:fn.results=#[.cell p ty])(tmps:Array Value)(P:Program)(w:World):
  (results fn tmps).run P w=((asAddr (tmps.getD p undef)).run P w).andThen fun a w₁=>(loadVar ty a).run P w₁:=by
 simp[results,h]
theorem fu{n:Int}(h1:-1000000000<=n)(h2:n<=1000000000):IntKind.i64.wrap n=n:=by
 have e:IntKind.i64.wrap n=if n%18446744073709551616>=9223372036854775808 then n%18446744073709551616-18446744073709551616 else n%18446744073709551616:=by
  simp[IntKind.wrap,IntKind.bits,IntKind.signed]
 rw[e];split<;>omega
theorem wH(Z:Int)(w:World)(h1:128<=Z)(h2:Z<=256):Calls Tryz.prog 125 #[.int .i64 Z] w fun e w'=>e=.returned (.int .i64 (iN Z))∧w=w':=by
 have e1:decide (Z<128)=false:=decide_eq_false (by omega);have e2:decide (256<Z)=false:=decide_eq_false (by omega);go_enter func125,ntmps125;go_wp2_with fail
 go_ret;exact⟨rfl,rfl⟩
theorem EM(Z m:Int)(w:World)(h1:128<=Z)(h2:Z<=256)(h3:0<=m)(h4:m<=100000):Calls Tryz.prog 128 #[.int .i64 Z,.int .i64 m] w fun e w'=>e=.returned (.int .i64 (jY Z m))∧w=w':=by
 have HE:=aa (wH Z w h1 h2);have hn:=AE h1 h2;have HP:=aa (show jY Z m=m/iN Z+(if m%iN Z≠0∨m/iN Z=0 then 1 else 0)from rfl);generalize jY Z m=res at*;generalize iN Z=n at*;clear h1 h2;have e1:(n==0)=false:=by simp;omega
 have e2:decide (m<0)=false:=decide_eq_false (by omega);have hq0:0<=m/n:=Int.ediv_nonneg h3 (by omega);have DI:m/n<=m:=Int.ediv_le_self _ h3;by_cases hr:m%n=0
 ·by_cases hq:m/n=0
  ·rw[if_pos (.inr hq)]at HP;have e3:(m%n !=0)=false:=by simp[hr]
   have e4:(m/n==0)=true:=by simp[hq]
   have Aq:=aa (show res=1 by rw[HP.o,hq];rfl);clear HP;go_enter func128,ntmps128;go_wp2_with fail
   refine HE.o.mono ?_;rintro e w'⟨rfl,rfl⟩;go_wp2_with fail
   go_ret;rw[Aq.o];exact⟨rfl,rfl⟩
  ·have Aq:=aa (show res=m/n by rw[HP.o,if_neg (by intro h;rcases h with h|h;exact h hr;exact hq h)];omega);have e3:(m%n !=0)=false:=by simp[hr]
   have e4:(m/n==0)=false:=by simp[hq]
   clear HP;go_enter func128,ntmps128;go_wp2_with fail
   refine HE.o.mono ?_;rintro e w'⟨rfl,rfl⟩;go_wp2_with fail
   go_ret;rw[Aq.o];exact⟨rfl,rfl⟩
 ·have Aq:=aa (show res=m/n+1 by rw[HP.o,if_pos (.inl hr)]);have e3:(m%n !=0)=true:=by simp[hr]
  clear HP;go_enter func128,ntmps128;go_wp2_with fail
  refine HE.o.mono ?_;rintro e w'⟨rfl,rfl⟩;go_wp2_with fail
  go_ret;rw[Aq.o];exact⟨rfl,rfl⟩
theorem adA(a b:Int)(w:World)(h1:0<=a)(h2:a<=100000)(h3:1<=b)(h4:b<=100000):Calls Tryz.prog 154 #[.int .i64 a,.int .i64 b] w fun e w'=>e=.returned (.int .i64 (upI a b))∧w=w':=by
 have HU:=aa (show upI a b=(a+b-1)/b from rfl);have hq0:0<=(a+b-1)/b:=Int.ediv_nonneg (by omega) (by omega);have DI:(a+b-1)/b<=a+b-1:=Int.ediv_le_self _ (by omega);generalize upI a b=res at*;go_enter func154,ntmps154;go_wp2_with fail
 go_ret;rw[HU.o];exact⟨rfl,rfl⟩
theorem VB{Z m:Int}(h1:128<=Z)(h2:Z<=256)(h3:0<=m):0<=jY Z m∧jY Z m<=m+1:=by
 have hn:=AE h1 h2;unfold jY;generalize iN Z=n at*;have hq0:0<=m/n:=Int.ediv_nonneg h3 (by omega);have DI:m/n<=m:=Int.ediv_le_self _ h3;split<;>omega
def ofC(B P Z:Int):Array Value:=#[.int .i64 (B*P),.int .i64 (iN Z),.int .i64 (oG B P Z),.int .i64 (2*oG B P Z+5),.int .i64 (UK B P Z),.int .i64 (8*(B*P)+200)]
def Ez:Array Value:=#[.int .i64 0,.int .i64 0,.int .i64 0,.int .i64 0,.int .i64 0,.int .i64 0]
theorem adB(B P Z:Int)(w:World)(Fr:HL)(hH:Holds w Fr):Calls Tryz.prog 82 #[.agg #[.int .i64 B,.int .i64 P,.int .i64 Z]] w (cM (.agg (if Mc B P Z then ofC B P Z else Ez)) w Fr):=by
 have hq:=(hH.alloc (.cells #[.int .i64 B,.int .i64 P,.int .i64 Z] 31)).alloc (.cells #[.int .i64 0,.int .i64 0,.int .i64 0,.int .i64 0,.int .i64 0,.int .i64 0] 145);rw[World.size_alloc]at hq;have Ep:=((af.refl w).alloc (.cells #[.int .i64 B,.int .i64 P,.int .i64 Z] 31)).alloc (.cells #[.int .i64 0,.int .i64 0,.int .i64 0,.int .i64 0,.int .i64 0,.int .i64 0] 145);have HQ:=aa hq;have HGQ:=aa Ep;have KB:=aa (fun w=>iX B 16 32 w);have KP:=aa (fun w=>iX P 4 8 w);have KZ:=aa (fun w=>iX Z 128 256 w);have HGB:=aa (show Mc B P Z=((decide (16<=B)&&decide (B<=32))&&((decide (4<=P)&&decide (P<=8))&&(decide (128<=Z)&&decide (Z<=256))))from rfl);obtain⟨res,cH⟩:∃res,res=(if Mc B P Z then ofC B P Z else Ez):=⟨_,rfl⟩;rw[<-cH];have cP:=aa cH;clear cH;have x0:=hq.tail.ae 0;have x1:=hq.tail.ae 1;have x2:=hq.tail.ae 2;have HF:Zh (∀z0 z1 z2 z3 z4 z5:Value,Holds (((((((w.alloc (.cells #[.int .i64 B,.int .i64 P,.int .i64 Z] 31)).alloc (.cells #[.int .i64 0,.int .i64 0,.int .i64 0,.int .i64 0,.int .i64 0,.int .i64 0] 145)).setCell ⟨w.heap.size+1,0,none⟩ z0).setCell ⟨w.heap.size+1,1,none⟩ z1).setCell ⟨w.heap.size+1,2,none⟩ z2).setCell ⟨w.heap.size+1,3,none⟩ z3).setCell ⟨w.heap.size+1,4,none⟩ z4|>.setCell ⟨w.heap.size+1,5,none⟩ z5) ((w.heap.size+1,.cells #[z0,z1,z2,z3,z4,z5] 145)::((w.heap.size,(.cells #[.int .i64 B,.int .i64 P,.int .i64 Z] 31))::Fr))):=aa (fun z0 z1 z2 z3 z4 z5=>(((((hq.ej 0 z0).ej 1 z1).ej 2 z2).ej 3 z3).ej 4 z4).ej 5 z5);have y0:=hq.ae 0;have y1:=hq.ae 1;have y2:=hq.ae 2;have y3:=hq.ae 3;have y4:=hq.ae 4;have y5:=hq.ae 5;have f0:=hq.ah 0;have f1:=hq.ah 1;have f2:=hq.ah 2;have f3:=hq.ah 3;have f4:=hq.ah 4;have f5:=hq.ah 5;have fl:=hq.aG;clear hq Ep hH;have HGG:=aa ((((((HGQ.o.setCell ⟨w.heap.size+1,0,none⟩ (.int .i64 0)).setCell ⟨w.heap.size+1,1,none⟩ (.int .i64 0)).setCell ⟨w.heap.size+1,2,none⟩ (.int .i64 0)).setCell ⟨w.heap.size+1,3,none⟩ (.int .i64 0)).setCell ⟨w.heap.size+1,4,none⟩ (.int .i64 0)).setCell ⟨w.heap.size+1,5,none⟩ (.int .i64 0));go_enter func82,ntmps82;go_wp2_with fail
 generalize(w.alloc (.cells #[.int .i64 B,.int .i64 P,.int .i64 Z] 31)).alloc (.cells #[.int .i64 0,.int .i64 0,.int .i64 0,.int .i64 0,.int .i64 0,.int .i64 0] 145)=w0 at*;generalize w.heap.size+1=g2 at*;generalize w.heap.size=g1 at*;by_cases hB:16<=B∧B<=32;rotate_left
 ·have LK:=aa (show res=Ez by rw[cP.o,HGB.o];rw[if_neg];simp only[fW,decide_eq_true_eq];omega);rw[<-Bool.decide_and,decide_eq_false hB]at KB;refine(KB.o _).mono ?_;rintro e w'⟨rfl,rfl⟩;go_wp2_with fail
  refine⟨rfl,_,(by rw[eP rfl];go_simp;rfl),?_⟩;rw[LK.o];exact⟨rfl,(HF.o (.int .i64 0) (.int .i64 0) (.int .i64 0) (.int .i64 0) (.int .i64 0) (.int .i64 0)).tail.tail,HGG.o⟩
 rw[<-Bool.decide_and,decide_eq_true hB]at KB;by_cases hP:4<=P∧P<=8;rotate_left
 ·have LK:=aa (show res=Ez by rw[cP.o,HGB.o];rw[if_neg];simp only[fW,decide_eq_true_eq];omega);rw[<-Bool.decide_and,decide_eq_false hP]at KP;refine(KB.o _).mono ?_;rintro e w'⟨rfl,rfl⟩;go_wp2_with fail
  refine(KP.o _).mono ?_;rintro e w'⟨rfl,rfl⟩;go_wp2_with fail
  refine⟨rfl,_,(by rw[eP rfl];go_simp;rfl),?_⟩;rw[LK.o];exact⟨rfl,(HF.o (.int .i64 0) (.int .i64 0) (.int .i64 0) (.int .i64 0) (.int .i64 0) (.int .i64 0)).tail.tail,HGG.o⟩
 rw[<-Bool.decide_and,decide_eq_true hP]at KP;by_cases hZ:128<=Z∧Z<=256;rotate_left
 ·have LK:=aa (show res=Ez by rw[cP.o,HGB.o];rw[if_neg];simp only[fW,decide_eq_true_eq];omega);rw[<-Bool.decide_and,decide_eq_false hZ]at KZ;refine(KB.o _).mono ?_;rintro e w'⟨rfl,rfl⟩;go_wp2_with fail
  refine(KP.o _).mono ?_;rintro e w'⟨rfl,rfl⟩;go_wp2_with fail
  refine(KZ.o _).mono ?_;rintro e w'⟨rfl,rfl⟩;go_wp2_with fail
  refine⟨rfl,_,(by rw[eP rfl];go_simp;rfl),?_⟩;rw[LK.o];exact⟨rfl,(HF.o (.int .i64 0) (.int .i64 0) (.int .i64 0) (.int .i64 0) (.int .i64 0) (.int .i64 0)).tail.tail,HGG.o⟩
 rw[<-Bool.decide_and,decide_eq_true hZ]at KZ;have Iw:=aa (show res=ofC B P Z by rw[cP.o,HGB.o];rw[if_pos];simp only[fW,decide_eq_true_eq];omega);obtain⟨LL,IW⟩:=hZ;obtain⟨WD,hP2⟩:=hP;obtain⟨Im,Dj⟩:=hB;have hm0:64<=B*P:=by
  have:=Int.mul_le_mul Im WD (by omega) (by omega);omega
 have oc:B*P<=256:=by
  have:=Int.mul_le_mul Dj hP2 (by omega) (by omega);omega
 have Ss:IntKind.i64.wrap (B*P)=B*P:=fu (by omega) (by omega);have KE:=aa (fun w=>wH Z w LL IW);have KPA:=aa (fun w=>EM Z (B*P) w LL IW (by omega) (by omega));have DK:=VB (m:=B*P) LL IW (by omega);have KU:=aa (fun w=>adA (jY Z (B*P)) P w DK.1 (by omega) (by omega) (by omega));have heb:=AE LL IW;have hcb:0<=oG B P Z∧oG B P Z<=300:=by
  have h1:oG B P Z=(jY Z (B*P)+P-1)/P:=rfl;have h2:0<=(jY Z (B*P)+P-1)/P:=Int.ediv_nonneg (by omega) (by omega);have h3:(jY Z (B*P)+P-1)/P<=jY Z (B*P)+P-1:=Int.ediv_le_self _ (by omega);omega
 have FQ:=aa (show upI (jY Z (B*P)) P=oG B P Z from rfl);have HRM:=aa (show ofC B P Z=#[.int .i64 (B*P),.int .i64 (iN Z),.int .i64 (oG B P Z),.int .i64 (2*oG B P Z+5),.int .i64 (B-(2*oG B P Z+5)),.int .i64 (8*(B*P)+200)]from rfl);rw[FQ.o]at KU;generalize oG B P Z=ck at*;generalize jY Z (B*P)=pa at*;generalize iN Z=ea at*;clear cP HGB FQ;refine(KB.o _).mono ?_;rintro e w'⟨rfl,rfl⟩;go_wp2_with fail
 refine(KP.o _).mono ?_;rintro e w'⟨rfl,rfl⟩;go_wp2_with fail
 refine(KZ.o _).mono ?_;rintro e w'⟨rfl,rfl⟩;have dj:Zh (∀(wx:World) (X:HL),Holds wx (X++((g1,(.cells #[.int .i64 B,.int .i64 P,.int .i64 Z] 31))::Fr))->wx.cell? ⟨g1,0,none⟩=some (.int .i64 B)∧wx.cell? ⟨g1,1,none⟩=some (.int .i64 P)∧wx.cell? ⟨g1,2,none⟩=some (.int .i64 Z)):=aa (fun wx X hX=>⟨hX.right.ae 0,hX.right.ae 1,hX.right.ae 2⟩);have ax:=HQ.o;have aK:=HGQ.o;go_upto_region 3 with fail
 refine aF (fun wx=>wx.cell? ⟨g1,0,none⟩=some (.int .i64 B)∧wx.cell? ⟨g1,1,none⟩=some (.int .i64 P)∧wx.cell? ⟨g1,2,none⟩=some (.int .i64 Z)) 11 (by kernel_rfl) (fun w1 hd=>dj.o _ [_] (ax.dr hd)) (fun w1 hd hs=>?_);have aD:=ax.dr hd;have cf:=aK.trans (af.dr hd);clear hd ax aK;refine dY 0 1 2 3 ?_;refine Ag 4 5 6 ?_;refine Gt 7 rfl (by kernel_rfl) (fun _ _ _ h=>h) (by rfl) hs (fun wx=>by go_simp) (fun wx hx=>KE.o wx) ?_;simp only[Act.put];refine ji 8 ?_;refine Zm 9 fun K hK=>?_;go_simp;have aU:=aD.alloc (.cells #[.int .i64 0,.int .i64 0,.int .i64 0,.int .i64 0,.int .i64 0,.int .i64 0] 145);have bI:=cf.alloc (.cells #[.int .i64 0,.int .i64 0,.int .i64 0,.int .i64 0,.int .i64 0,.int .i64 0] 145);have t0:=aU.ah 0;have t1:=aU.ah 1;have t2:=aU.ah 2;have t3:=aU.ah 3;have t4:=aU.ah 4;have t5:=aU.ah 5;have t6:=aU.aG;refine hK _ _ (dj.o _ [_,_] aU) (fun _=>?_);clear hK K hs;rename_i hs;refine Zm 10 fun K hK=>?_;go_simp;clear aU bI t0 t1 t2 t3 t4 t5 t6;have bg:=aD.alloc (.cells #[.int .i64 (B*P),.int .i64 ea,.int .i64 0,.int .i64 0,.int .i64 0,.int .i64 0] 145);have eY:=cf.alloc (.cells #[.int .i64 (B*P),.int .i64 ea,.int .i64 0,.int .i64 0,.int .i64 0,.int .i64 0] 145);clear aD cf;refine hK _ _ (dj.o _ [_,_] bg) (fun _=>?_);clear hK K hs;rename_i hs;refine Ze ?_;generalize w1.alloc (.cells #[.int .i64 (B*P),.int .i64 ea,.int .i64 0,.int .i64 0,.int .i64 0,.int .i64 0] 145)=w5 at*;generalize w1.heap.size=gN at*;have vt:Zh (∀(wx:World) (c2:Value),Holds wx ((gN,.cells #[.int .i64 (B*P),.int .i64 ea,c2,.int .i64 0,.int .i64 0,.int .i64 0] 145)::((g2,(.cells #[.int .i64 0,.int .i64 0,.int .i64 0,.int .i64 0,.int .i64 0,.int .i64 0] 145))::((g1,(.cells #[.int .i64 B,.int .i64 P,.int .i64 Z] 31))::Fr)))->wx.cell? ⟨g1,0,none⟩=some (.int .i64 B)∧wx.cell? ⟨g1,1,none⟩=some (.int .i64 P)∧wx.cell? ⟨g1,2,none⟩=some (.int .i64 Z)∧wx.cell? ⟨gN,0,none⟩=some (.int .i64 (B*P))∧wx.frozen? ⟨gN,2,none⟩=false):=aa (fun wx c2 h=>⟨h.tail.tail.ae 0,h.tail.tail.ae 1,h.tail.tail.ae 2,h.ae 0,h.ah 2⟩);clear hs;go_upto_region 4 with fail
 refine aF (fun wx=>wx.cell? ⟨g1,0,none⟩=some (.int .i64 B)∧wx.cell? ⟨g1,1,none⟩=some (.int .i64 P)∧wx.cell? ⟨g1,2,none⟩=some (.int .i64 Z)∧wx.cell? ⟨gN,0,none⟩=some (.int .i64 (B*P))∧wx.frozen? ⟨gN,2,none⟩=false) 10 (by kernel_rfl) (fun w1 hd=>vt.o _ _ (bg.dr hd)) (fun w1 hd hs=>?_);have bC:=bg.dr hd;have jn:=eY.trans (af.dr hd);clear hd bg eY;refine dY 0 1 2 3 ?_;refine Gt 4 rfl (by kernel_rfl) (fun _ _ _ h=>h) (by rfl) hs (fun wx=>by go_simp) (fun wx hx=>KPA.o wx) ?_;simp only[Act.put];refine qL 5 6 ?_;refine Gt 7 rfl (by kernel_rfl) (fun _ _ _ h=>h) (by rfl) hs (fun wx=>by go_simp) (fun wx hx=>KU.o wx) ?_;simp only[Act.put];refine ji 8 ?_;refine Zm 9 fun K hK=>?_;have t0:=bC.aG;have t2:=bC.ae 2;go_simp;have cA:=bC.ej 2 (.int .i64 ck);have fx:=jn.setCell ⟨gN,2,none⟩ (.int .i64 ck);clear bC jn t0 t2;refine hK _ _ (vt.o _ _ cA) (fun _=>?_);clear hK K hs;rename_i hs;refine Ze ?_;have cT:Holds (w1.setCell ⟨gN,2,none⟩ (.int .i64 ck)) ((gN,.cells #[.int .i64 (B*P),.int .i64 ea,.int .i64 ck,.int .i64 0,.int .i64 0,.int .i64 0] 145)::((g2,(.cells #[.int .i64 0,.int .i64 0,.int .i64 0,.int .i64 0,.int .i64 0,.int .i64 0] 145))::((g1,(.cells #[.int .i64 B,.int .i64 P,.int .i64 Z] 31))::Fr))):=cA;change Exit.then _ _ _ _ (w1.setCell ⟨gN,2,none⟩ (.int .i64 ck));generalize w1.setCell ⟨gN,2,none⟩ (.int .i64 ck)=w8 at*;have a0:=cT.ae 0;have a1:=cT.ae 1;have a2:=cT.ae 2;have a3:=cT.ae 3;have a4:=cT.ae 4;have a5:=cT.ae 5;have b3:=cT.ah 3;have b4:=cT.ah 4;have b5:=cT.ah 5;have bl:=cT.aG;have gl:=cT.tail.aG;have f0:=cT.tail.ah 0;have f1:=cT.tail.ah 1;have f2:=cT.tail.ah 2;have f3:=cT.tail.ah 3;have f4:=cT.tail.ah 4;have f5:=cT.tail.ah 5;have y0:=cT.tail.ae 0;have y1:=cT.tail.ae 1;have y2:=cT.tail.ae 2;have y3:=cT.tail.ae 3;have y4:=cT.tail.ae 4;have y5:=cT.tail.ae 5;obtain⟨c0,c1,c2,_,_⟩:=vt.o _ _ cT;have HX1:=aa (((cT.ej 3 (.int .i64 (2*ck+5))).ej 4 (.int .i64 (B-(2*ck+5)))).ej 5 (.int .i64 (8*(B*P)+200)));have IF:=aa (((fx.setCell ⟨gN,3,none⟩ (.int .i64 (2*ck+5))).setCell ⟨gN,4,none⟩ (.int .i64 (B-(2*ck+5)))).setCell ⟨gN,5,none⟩ (.int .i64 (8*(B*P)+200)));generalize B*P=bp at*;clear hs cA fx;go_upto_region 8 with fail
 change Code.wp _ _ _ _ (((w8.setCell ⟨gN,3,none⟩ (.int .i64 (2*ck+5))).setCell ⟨gN,4,none⟩ (.int .i64 (B-(2*ck+5)))).setCell ⟨gN,5,none⟩ (.int .i64 (8*bp+200)));generalize((w8.setCell ⟨gN,3,none⟩ (.int .i64 (2*ck+5))).setCell ⟨gN,4,none⟩ (.int .i64 (B-(2*ck+5)))).setCell ⟨gN,5,none⟩ (.int .i64 (8*bp+200))=w9 at*;have hX:=HX1.o;clear a0 a1 a2 a3 a4 a5 b3 b4 b5 bl gl f0 f1 f2 f3 f4 f5 y0 y1 y2 y3 y4 y5 c0 c1 c2 cT;have a0:=hX.ae 0;have a1:=hX.ae 1;have a2:=hX.ae 2;have a3:=hX.ae 3;have a4:=hX.ae 4;have a5:=hX.ae 5;have gl:=hX.tail.aG;have f0:=hX.tail.ah 0;have f1:=hX.tail.ah 1;have f2:=hX.tail.ah 2;have f3:=hX.tail.ah 3;have f4:=hX.tail.ah 4;have f5:=hX.tail.ah 5;have y0:=hX.tail.ae 0;have y1:=hX.tail.ae 1;have y2:=hX.tail.ae 2;have y3:=hX.tail.ae 3;have y4:=hX.tail.ae 4;have y5:=hX.tail.ae 5;have fj:=aa (((((((hX.tail.ej 0 (.int .i64 bp)).ej 1 (.int .i64 ea)).ej 2 (.int .i64 ck)).ej 3 (.int .i64 (2*ck+5))).ej 4 (.int .i64 (B-(2*ck+5)))).ej 5 (.int .i64 (8*bp+200)))).tail.tail;have LK:=aa ((((((IF.o.setCell ⟨g2,0,none⟩ (.int .i64 bp)).setCell ⟨g2,1,none⟩ (.int .i64 ea)).setCell ⟨g2,2,none⟩ (.int .i64 ck)).setCell ⟨g2,3,none⟩ (.int .i64 (2*ck+5))).setCell ⟨g2,4,none⟩ (.int .i64 (B-(2*ck+5)))).setCell ⟨g2,5,none⟩ (.int .i64 (8*bp+200)));clear hX HX1;go_wp2_with fail
 refine⟨rfl,_,(by rw[eP rfl];go_simp;rfl),?_⟩;rw[Iw.o,HRM.o];exact⟨rfl,fj.o,LK.o⟩
theorem VC(a0 a1 a2 a3 a4 a5:Int)(w:World):(Instr.field 145 (.agg #[.int .i64 a0,.int .i64 a1,.int .i64 a2,.int .i64 a3,.int .i64 a4,.int .i64 a5]) 4).run Tryz.prog w=.ok (.int .i64 a4) w:=by kernel_rfl
theorem yu(B P Z:Int)(w:World)(Fr:HL)(hH:Holds w Fr):Calls Tryz.prog 43 #[.agg #[.int .i64 B,.int .i64 P,.int .i64 Z]] w (cM (.bool (lH B P Z)) w Fr):=by
 have hq:=hH.bP (.cells #[.int .i64 B,.int .i64 P,.int .i64 Z] 31);have HO:=aa (adB B P Z _ Fr hq);have Ep:=(af.refl w).alloc (.cells #[.int .i64 B,.int .i64 P,.int .i64 Z] 31);have Ol:=aa (show lH B P Z=(Mc B P Z&&decide (1<=UK B P Z))from rfl);generalize lH B P Z=res at*;have hx:=hH.alloc (.cells #[.int .i64 B,.int .i64 P,.int .i64 Z] 31);have x0:=hx.ae 0;have x1:=hx.ae 1;have x2:=hx.ae 2;clear hx hH hq;unfold ofC Ez at HO;have hfd:=VC;cases hg:Mc B P Z with
 |true=>
  rw[hg]at HO Ol;simp only[if_true,Bool.true_and]at HO Ol;go_enter func43,ntmps43;go_wp2_with fail
  refine HO.o.mono ?_;rintro e w2⟨rfl,aB,aX⟩;have bj:=Ep.trans aX;go_wp2_with fail
  go_ret;rw[Ol.o];exact⟨rfl,aB,bj⟩
 |false=>
  rw[hg]at HO Ol;simp only[Bool.false_eq_true,if_false,Bool.false_and]at HO Ol;go_enter func43,ntmps43;go_wp2_with fail
  refine HO.o.mono ?_;rintro e w2⟨rfl,aB,aX⟩;have bj:=Ep.trans aX;go_wp2_with fail
  go_ret;rw[Ol.o];exact⟨rfl,aB,bj⟩
theorem bO{B P Z:Int}(h:lH B P Z=true):16<=B∧B<=32∧4<=P∧P<=8∧128<=Z∧Z<=256:=by
 unfold lH Mc at h;simp only[fW,decide_eq_true_eq]at h;omega
theorem MC{b B P:Int}(h1:0<=b)(h2:b<=B-1)(h3:B<=32)(h4:0<=P)(h5:P<=8):0<=b*P∧b*P<=248:=by
 constructor
 ·exact Int.mul_nonneg h1 h4
 ·have:=Int.mul_le_mul (show b<=31 by omega) h5 h4 (by omega);omega
theorem JT(B P Z b p:Int)(w:World)(Fr:HL)(hH:Holds w Fr)(hp:lH B P Z=true)(h1:0<=b)(h2:b<B)(h3:0<=p)(h4:p<P):
  Calls Tryz.prog 146 #[.agg #[.int .i64 B,.int .i64 P,.int .i64 Z],.int .i64 b,.int .i64 p] w (cM (.int .i64 (b*P+p)) w Fr):=by
 obtain⟨Im,Dj,WD,hP2,LL,IW⟩:=bO hp;have hm:=MC (B:=B) (P:=P) h1 (by omega) Dj (by omega) hP2;obtain⟨oc,si⟩:=hm;have Ss:wrap64 (b*P)=b*P:=by unfold wrap64;omega
 have hx:=hH.alloc (.cells #[.int .i64 B,.int .i64 P,.int .i64 Z] 31);have HM:=aa (fun(wx:World) (hX:Holds wx ((w.heap.size,.cells #[.int .i64 B,.int .i64 P,.int .i64 Z] 31)::Fr))=>yu B P Z wx _ hX);rw[hp]at HM;have Zw:=(af.refl w).alloc (.cells #[.int .i64 B,.int .i64 P,.int .i64 Z] 31);have K1:=aa (fun w=>iX b 0 (B-1) w);have K2:=aa (fun w=>iX p 0 (P-1) w);rw[decide_eq_true (show 0<=b from h1),decide_eq_true (show b<=B-1 by omega)]at K1;rw[decide_eq_true (show 0<=p from h3),decide_eq_true (show p<=P-1 by omega)]at K2;have HX:=aa hx;have x0:=hx.ae 0;have x1:=hx.ae 1;have x2:=hx.ae 2;clear hx hH hp;go_enter func146,ntmps146;go_wp2_with fail
 refine(HM.o _ HX.o).mono ?_;generalize w.alloc (.cells #[.int .i64 B,.int .i64 P,.int .i64 Z] 31)=w0 at*;generalize w.heap.size=g at*;rintro e w2⟨rfl,aB,aX⟩;have bj:=Zw.trans aX;clear x0 x1 x2;have x0:=aB.ae 0;have x1:=aB.ae 1;have x2:=aB.ae 2;have HF:=aa aB.tail;clear aB;go_wp2_with fail
 refine(K1.o _).mono ?_;rintro e w'⟨rfl,rfl⟩;go_wp2_with fail
 refine(K2.o _).mono ?_;rintro e w'⟨rfl,rfl⟩;go_wp2_with fail
 go_ret;exact⟨rfl,HF.o,bj⟩
def jZ(B P n:Int):Int×Int:=if 0<=n∧n<=B*P-1 then(n/P,n%P)else(-1,-1)
theorem QR(B P Z n:Int)(w:World)(Fr:HL)(hH:Holds w Fr)(hp:lH B P Z=true):
  Calls Tryz.prog 168 #[.agg #[.int .i64 B,.int .i64 P,.int .i64 Z],.int .i64 n] w (cM (.tuple #[.int .i64 (jZ B P n).1,.int .i64 (jZ B P n).2]) w Fr):=by
 obtain⟨Im,Dj,WD,hP2,LL,IW⟩:=bO hp;have hm0:0<=B*P∧B*P<=256:=by
  constructor
  ·exact Int.mul_nonneg (by omega) (by omega)
  ·have:=Int.mul_le_mul Dj hP2 (by omega) (by omega);omega
 have Ss:wrap64 (B*P)=B*P:=by unfold wrap64;omega
 have hx:=hH.alloc (.cells #[.int .i64 B,.int .i64 P,.int .i64 Z] 31);have HM:=aa (fun(wx:World) (hX:Holds wx ((w.heap.size,.cells #[.int .i64 B,.int .i64 P,.int .i64 Z] 31)::Fr))=>yu B P Z wx _ hX);rw[hp]at HM;have Zw:=(af.refl w).alloc (.cells #[.int .i64 B,.int .i64 P,.int .i64 Z] 31);have K1:=aa (fun w=>iX n 0 (B*P-1) w);have LN:=aa (show jZ B P n=if 0<=n∧n<=B*P-1 then(n/P,n%P)else(-1,-1)from rfl);generalize jZ B P n=res at*;have HX:=aa hx;have x0:=hx.ae 0;have x1:=hx.ae 1;have x2:=hx.ae 2;clear hx hH hp;go_enter func168,ntmps168;go_wp2_with fail
 refine(HM.o _ HX.o).mono ?_;generalize w.alloc (.cells #[.int .i64 B,.int .i64 P,.int .i64 Z] 31)=w0 at*;generalize w.heap.size=g at*;rintro e w2⟨rfl,aB,aX⟩;have bj:=Zw.trans aX;clear x0 x1 x2;have x0:=aB.ae 0;have x1:=aB.ae 1;have x2:=aB.ae 2;have HF:=aa aB.tail;clear aB;by_cases hn:0<=n∧n<=B*P-1
 ·have SA:=aa (show res=(n/P,n%P) by rw[LN.o,if_pos hn]);rw[decide_eq_true hn.1,decide_eq_true hn.2]at K1;obtain⟨uZ,qM⟩:=hn;have oc:=hm0.1;have si:=hm0.2;have auH:(P==0)=false:=by simp;omega
  go_wp2_with fail
  refine(K1.o _).mono ?_;rintro e w'⟨rfl,rfl⟩;go_wp2_with fail
  go_quiet (fail)
  have Iv:=aa (HF.o.drewN nq);have bV:=bj.drewN nq;go_wp2_with fail
  go_ret2
  rw[SA.o];exact⟨rfl,Iv.o,bV⟩
 ·have SA:=aa (show res=(-1,-1) by rw[LN.o,if_neg hn]);have hb:(decide (0<=n)&&decide (n<=B*P-1))=false:=by
   rw[Bool.and_eq_false_iff,decide_eq_false_iff_not,decide_eq_false_iff_not];omega
  rw[hb]at K1;have oc:=hm0.1;have si:=hm0.2;clear hb;go_wp2_with fail
  refine(K1.o _).mono ?_;rintro e w'⟨rfl,rfl⟩;go_wp2_with fail
  go_ret2
  rw[SA.o];exact⟨rfl,HF.o,bj⟩
section
variable{b g cap:Nat}{mv:Value}{c:CM}{H Fr:HL}{w:World}
theorem J0(h:ai b g cap mv c H)(hH:Holds w (H++Fr)):Calls Tryz.prog 44 #[.pointer (some ⟨b,0,none⟩)] w (cM (.agg #[.int .i64 (c.blocks.length:Int),.int .i64 (c.P:Int),.int .i64 (c.Z:Int)]) w (H++Fr)):=by
 have hq:=hH.bP (.cells #[.int .i64 0,.int .i64 0,.int .i64 0] 31);have a:=h.gX hH;have ax:=hH.alloc (.cells #[.int .i64 (c.blocks.length:Int),.int .i64 (c.P:Int),.int .i64 (c.Z:Int)] 31);have aK:=(af.refl w).alloc (.cells #[.int .i64 (c.blocks.length:Int),.int .i64 (c.P:Int),.int .i64 (c.Z:Int)] 31);obtain⟨c0,c1,c2,c3,c4,c5,c6,c7,c8,_⟩:=h.gX hq;clear h;go_enter func44,ntmps44;go_wp2_with fail
 refine bodyPost_ret (v:=.agg #[.int .i64 (c.blocks.length:Int),.int .i64 (c.P:Int),.int .i64 (c.Z:Int)]) (by rw[eP rfl];go_simp) rfl ⟨rfl,?_,?_⟩
 ·exact ax.tail
 ·exact aK
theorem VH(h:ai b g cap mv c H)(hH:Holds w (H++Fr)):Calls Tryz.prog 72 #[.pointer (some ⟨b,0,none⟩)] w (fun e w'=>e=.returned (.tuple #[])∧∃H',ai b g cap mv {c with on:=false} H'∧Holds w' (H'++Fr)∧af w w'):=by
 obtain⟨c0,c1,c2,c3,c4,c5,c6,c7,c8,f5,f⟩:=h.gX hH;obtain⟨H',hc,hh⟩:=h.UF hH false;have HC:=aa hc;have HH:=aa hh;clear h hc hh hH;go_enter func72,ntmps72;go_wp2_with fail
 exact bodyPost_end (v:=.tuple #[]) (results_none rfl _ _ _) rfl ⟨rfl,H',HC.o,HH.o,(af.refl w).setCell _ _⟩
end
end Go.Proofs.YtalnifciidblkaaGreatDoor
