/-
  Package mishap: mishaps that may be, as many as one likes.
-/
import Derived.Test.YtoelopghilbfeaaGreatStP
namespace Go.Proofs.YtoelopghilbfeaaGreat
open Go.RowKit
set_option linter.unusedSimpArgs false
set_option linter.unusedVariables false
def MsMay (ms:List Mi):Prop:=ms.length≤24∧(∀ m∈ms,m.ok)∧ms.Pairwise fun a b=>a.at_<b.at_
def MayTo (n:Nat) (w:World) (Fr:HL) (iv:Value) (wr:World):Prop:=∃ k:Nat,k≤n∧iv=.int .i64 k∧Holds wr Fr∧Grew w wr
set_option maxRecDepth 20000 in
set_option maxHeartbeats 2000000 in
theorem may_yes (v:Value) (ms:List Mi) (w:World) (Fr:HL) (hv:FrMs Fr v ms) (hH:Holds w Fr) (hm:MsMay ms) :
  Calls Tryz.prog 36 #[v] w (RetFr (.bool true) w Fr):=by
 obtain ⟨h24,hok,hpw⟩:=hm
 have HV:=Lib.hid hv
 have hv0:=hv w hH
 obtain ⟨_,A,c,rfl,hc1,hc2,hrd⟩:=hv0
 have HOK:=Lib.hid hok
 have HPW:=Lib.hid hpw
 have hg0:=Grew.refl w
 clear hv hok hpw hrd hc1 hc2
 go_enter Tryz.func36,Tryz.ntmps36
 go_wp2_with fail
 go_loopw [7] (fun iv wr=>MayTo ms.length w Fr iv wr) (fun iv _=>ms.length - (intOf iv).toNat)
 case atStart=>exact ⟨0,by omega,rfl,hH,hg0⟩
 case round =>
  clear hH hg0
  obtain ⟨k,hk,rfl,hHr,hgr⟩:=hrel
  by_cases hlt:k<ms.length
  ·have hltI:(k:Int)<ms.length:=by omega
   obtain ⟨h1x,A2,c2,hv2,h2x,h3x,hrd⟩:=HV.out wr hHr
   injection hv2 with hv21 hv22 hv23
   subst hv21;subst hv23
   clear hv22 h1x h2x h3x
   obtain ⟨b,o,rfl,hcl⟩:=hrd (by omega)
   have hflat:∀ (j:Nat) (hj:j<ms.length) (q:Nat),q<4→((ms.map Mi.cells).flatten)[j * 4+q]?=(ms[j]).cells[q]?:=fun j hj q hq =>
    flat_get (size:=4) (ms.map Mi.cells) (fun x hx=>by obtain ⟨m,_,rfl⟩:=List.mem_map.1 hx;rfl) j q _ (by rw [List.getElem?_map,List.getElem?_eq_getElem hj];rfl) hq
   have y0:=hcl (k * 4) (.int .i64 (ms[k]).at_) (by rw [← Nat.add_zero (k * 4),hflat k hlt 0 (by omega)];rfl)
   have y1:wr.cell? ⟨b,o+k * 4+1,none⟩=some (.int .i64 (ms[k]).kind):=by rw [Nat.add_assoc];exact hcl (k * 4+1) _ (by rw [hflat k hlt 1 (by omega)];rfl)
   have y2:wr.cell? ⟨b,o+k * 4+2,none⟩=some (.int .i64 (ms[k]).bytes):=by rw [Nat.add_assoc];exact hcl (k * 4+2) _ (by rw [hflat k hlt 2 (by omega)];rfl)
   have y3:wr.cell? ⟨b,o+k * 4+3,none⟩=some (.int .u8 ((ms[k]).fill.toNat:Int)):=by rw [Nat.add_assoc];exact hcl (k * 4+3) _ (by rw [hflat k hlt 3 (by omega)];rfl)
   have HM:=Lib.hid (HOK.out _ (List.getElem_mem hlt))
   have HPV:Hid (∀ j:Nat,k=j+1→∃ z:Int,z<(ms[k]).at_∧∀ (wx:World),Holds wx Fr→wx.cell? ⟨b,o+j * 4,none⟩=some (.int .i64 z)):=Lib.hid (fun j hj=>by
    have hjl:j<ms.length:=by omega
    refine ⟨(ms[j]).at_,(List.pairwise_iff_getElem.1 HPW.out) j k hjl hlt (by omega),fun wx hx=>?_⟩
    obtain ⟨_,A3,c3,hv3,_,_,hrd3⟩:=HV.out wx hx
    injection hv3 with hv31 hv32 hv33
    subst hv31;subst hv33
    obtain ⟨b3,o3,he,hcl3⟩:=hrd3 (by omega)
    injection he with he
    injection he with he1 he2
    subst he1 he2
    exact hcl3 (j * 4) _ (by rw [← Nat.add_zero (j * 4),hflat j hjl 0 (by omega)];rfl))
   generalize ms[k]=m at *
   have HHS:=Lib.hid (hHr.alloc (.cells #[.int .i64 m.at_,.int .i64 m.kind,.int .i64 m.bytes,.int .u8 (m.fill.toNat:Int)] 48))
   have HGS:=Lib.hid (hgr.alloc (.cells #[.int .i64 m.at_,.int .i64 m.kind,.int .i64 m.bytes,.int .u8 (m.fill.toNat:Int)] 48))
   have HLT:=Lib.hid hlt
   clear hcl hrd hflat hHr hgr hlt hk
   go_upto_region 4 with fail
   have hHr:=HHS.out
   have hgr:=HGS.out
   clear HHS HGS y0 y1 y2 y3
   generalize wr.alloc (.cells #[.int .i64 m.at_,.int .i64 m.kind,.int .i64 m.bytes,.int .u8 (m.fill.toNat:Int)] 48)=wA at *
   generalize wr.heap.size=t at *
   have HS:=Lib.hid (fun (wx:World) (h:Holds wx ((t,Obj.cells #[.int .i64 m.at_,.int .i64 m.kind,.int .i64 m.bytes,.int .u8 (m.fill.toNat:Int)] 48)::Fr)) =>
    show wx.cell? ⟨t,0,none⟩=some (.int .i64 m.at_)∧wx.cell? ⟨t,1,none⟩=some (.int .i64 m.kind)∧wx.cell? ⟨t,2,none⟩=some (.int .i64 m.bytes)∧wx.cell? ⟨t,3,none⟩=some (.int .u8 (m.fill.toNat:Int)) from ⟨h.hcell 0,h.hcell 1,h.hcell 2,h.hcell 3⟩)
   rcases Nat.eq_zero_or_pos k with hk0 | hk0
   ·subst hk0
    refine Z_begin (fun wx=>wx.cell? ⟨t,0,none⟩=some (.int .i64 m.at_)∧wx.cell? ⟨t,1,none⟩=some (.int .i64 m.kind)∧wx.cell? ⟨t,2,none⟩=some (.int .i64 m.bytes)∧wx.cell? ⟨t,3,none⟩=some (.int .u8 (m.fill.toNat:Int))) 18 (by kernel_rfl) (fun w1 hd=>HS.out _ (hHr.dr hd)) (fun w1 hd hs=>?_)
    have hH1:=hHr.dr hd;have hG1:=hgr.trans (Grew.dr hd);clear hd hHr hgr
    refine Zt 0 12 ?_ rfl hs ?_ ?_
    rotate_left
    ·rintro wx ⟨x0,x1,x2,x3⟩;go_simp;try with_reducible rfl
    simp only [pt,sA,sS,sZ]
    refine Z_mid 1 rfl (by kernel_rfl) (fun K hK=>?_)
    have ⟨x0,x1,x2,x3⟩:=hs
    go_simp;refine (mone_yes m w1 _ hH1 HM.out).mono ?_;rintro e w4 ⟨rfl,hH4,hg4⟩
    clear x0 x1 x2 x3
    refine hK _ _ (HS.out _ hH4) (fun hs2=>?_);clear hK K hs;have hs:=hs2;clear hs2
    refine Zt 2 14 ?_ rfl hs ?_ ?_
    rotate_left
    ·rintro wx ⟨x0,x1,x2,x3⟩;go_simp;try with_reducible rfl
    simp only [pt,sA,sS,sZ]
    refine Zt 3 15 ?_ rfl hs ?_ ?_
    rotate_left
    ·rintro wx ⟨x0,x1,x2,x3⟩;go_simp;try with_reducible rfl
    simp only [pt,sA,sS,sZ]
    refine Zt 4 16 ?_ rfl hs ?_ ?_
    rotate_left
    ·rintro wx ⟨x0,x1,x2,x3⟩;go_simp;try with_reducible rfl
    simp only [pt,sA,sS,sZ]
    refine Zt 5 17 ?_ rfl hs ?_ ?_
    rotate_left
    ·rintro wx ⟨x0,x1,x2,x3⟩;go_simp;try with_reducible rfl
    simp only [pt,sA,sS,sZ]
    refine Zt 6 18 ?_ rfl hs ?_ ?_
    rotate_left
    ·rintro wx ⟨x0,x1,x2,x3⟩;go_simp;try with_reducible rfl
    simp only [pt,sA,sS,sZ]
    refine Zs 7 19 rfl hs ?_
    simp only [pt,sA,sS,sZ]
    refine Zs 8 20 rfl hs ?_
    simp only [pt,sA,sS,sZ]
    refine Zs 9 21 rfl hs ?_
    simp only [pt,sA,sS,sZ]
    refine Zs 10 22 rfl hs ?_
    simp only [pt,sA,sS,sZ]
    refine Zs 11 23 rfl hs ?_
    simp only [pt,sA,sS,sZ]
    refine Zs 12 24 rfl hs ?_
    simp only [pt,sA,sS,sZ]
    refine Zs 13 25 rfl hs ?_
    simp only [pt,sA,sS,sZ]
    refine Zs 14 26 rfl hs ?_
    simp only [pt,sA,sS,sZ]
    refine Zs 15 27 rfl hs ?_
    simp only [pt,sA,sS,sZ]
    refine Zt 16 28 ?_ rfl hs ?_ ?_
    rotate_left
    ·rintro wx ⟨x0,x1,x2,x3⟩;go_simp;try with_reducible rfl
    simp only [pt,sA,sS,sZ]
    refine Zt 17 29 ?_ rfl hs ?_ ?_
    rotate_left
    ·rintro wx ⟨x0,x1,x2,x3⟩;go_simp;try with_reducible rfl
    simp only [pt,sA,sS,sZ]
    refine Z_done (by kernel_rfl) ?_ _
    have hH5:=hH4.tail
    have hG5:=hG1.trans hg4
    clear hH4 hG1 hg4 hH1
    go_wp2_with fail
    exact ⟨⟨1,by have:=HLT.out;omega,by go_num,hH5,hG5⟩,by have:=HLT.out;simp [intOf];omega⟩
   ·obtain ⟨j,rfl⟩:∃ j,k=j+1:=⟨k - 1,by omega⟩
    obtain ⟨z,hz,hzc⟩:=HPV.out j rfl
    have HZC:=Lib.hid (fun (wx:World) (h:Holds wx ((t,Obj.cells #[.int .i64 m.at_,.int .i64 m.kind,.int .i64 m.bytes,.int .u8 (m.fill.toNat:Int)] 48)::Fr))=>hzc wx h.tail)
    have hk1:(0:Int)<((j+1:Nat):Int):=by omega
    have hw1:IntKind.i64.wrap (((j+1:Nat):Int) - 1)=(j:Int):=by rw [wrap_i64_id (by omega) (by have:=HLT.out;omega)];omega
    have hw2:wrap64 (((j+1:Nat):Int) - 1)=(j:Int):=by unfold wrap64;have:=HLT.out;omega
    have hw3:IntKind.i64.wrap (j:Int)=(j:Int):=wrap_i64_id (by omega) (by have:=HLT.out;omega)
    have hw4:wrap64 (j:Int)=(j:Int):=by unfold wrap64;have:=HLT.out;omega
    have hjl:(j:Int)<ms.length:=by have:=HLT.out;omega
    have hzl:¬ (m.at_≤z):=by omega
    clear hzc hk0
    refine Z_begin (fun wx=>wx.cell? ⟨t,0,none⟩=some (.int .i64 m.at_)∧wx.cell? ⟨t,1,none⟩=some (.int .i64 m.kind)∧wx.cell? ⟨t,2,none⟩=some (.int .i64 m.bytes)∧wx.cell? ⟨t,3,none⟩=some (.int .u8 (m.fill.toNat:Int))∧wx.cell? ⟨b,o+j * 4,none⟩=some (.int .i64 z)) 18 (by kernel_rfl) (fun w1 hd=>(by obtain ⟨q1,q2,q3,q4⟩:=HS.out _ (hHr.dr hd);exact ⟨q1,q2,q3,q4,HZC.out _ (hHr.dr hd)⟩)) (fun w1 hd hs=>?_)
    have hH1:=hHr.dr hd;have hG1:=hgr.trans (Grew.dr hd);clear hd hHr hgr
    refine Zt 0 12 ?_ rfl hs ?_ ?_
    rotate_left
    ·rintro wx ⟨x0,x1,x2,x3,x4⟩;go_simp;try with_reducible rfl
    simp only [pt,sA,sS,sZ]
    refine Z_mid 1 rfl (by kernel_rfl) (fun K hK=>?_)
    have ⟨x0,x1,x2,x3,x4⟩:=hs
    go_simp;refine (mone_yes m w1 _ hH1 HM.out).mono ?_;rintro e w4 ⟨rfl,hH4,hg4⟩
    clear x0 x1 x2 x3 x4
    refine hK _ _ ((by obtain ⟨q1,q2,q3,q4⟩:=HS.out _ hH4;exact ⟨q1,q2,q3,q4,HZC.out _ hH4⟩)) (fun hs2=>?_);clear hK K hs;have hs:=hs2;clear hs2
    refine Zt 2 14 ?_ rfl hs ?_ ?_
    rotate_left
    ·rintro wx ⟨x0,x1,x2,x3,x4⟩;go_simp;try with_reducible rfl
    simp only [pt,sA,sS,sZ]
    refine Zt 3 15 ?_ rfl hs ?_ ?_
    rotate_left
    ·rintro wx ⟨x0,x1,x2,x3,x4⟩;go_simp;try with_reducible rfl
    simp only [pt,sA,sS,sZ]
    refine Zt 4 16 ?_ rfl hs ?_ ?_
    rotate_left
    ·rintro wx ⟨x0,x1,x2,x3,x4⟩;go_simp;try with_reducible rfl
    simp only [pt,sA,sS,sZ]
    refine Zt 5 17 ?_ rfl hs ?_ ?_
    rotate_left
    ·rintro wx ⟨x0,x1,x2,x3,x4⟩;go_simp;try with_reducible rfl
    simp only [pt,sA,sS,sZ]
    refine Zt 6 18 ?_ rfl hs ?_ ?_
    rotate_left
    ·rintro wx ⟨x0,x1,x2,x3,x4⟩;go_simp;try with_reducible rfl
    simp only [pt,sA,sS,sZ]
    refine Zt 7 19 ?_ rfl hs ?_ ?_
    rotate_left
    ·rintro wx ⟨x0,x1,x2,x3,x4⟩;go_simp;try with_reducible rfl
    simp only [pt,sA,sS,sZ]
    refine Zt 8 20 ?_ rfl hs ?_ ?_
    rotate_left
    ·rintro wx ⟨x0,x1,x2,x3,x4⟩;go_simp;try with_reducible rfl
    simp only [pt,sA,sS,sZ]
    refine Zt 9 21 ?_ rfl hs ?_ ?_
    rotate_left
    ·rintro wx ⟨x0,x1,x2,x3,x4⟩;go_simp;try with_reducible rfl
    simp only [pt,sA,sS,sZ]
    refine Zt 10 22 ?_ rfl hs ?_ ?_
    rotate_left
    ·rintro wx ⟨x0,x1,x2,x3,x4⟩;go_simp;try with_reducible rfl
    simp only [pt,sA,sS,sZ]
    refine Zt 11 23 ?_ rfl hs ?_ ?_
    rotate_left
    ·rintro wx ⟨x0,x1,x2,x3,x4⟩;go_simp;try with_reducible rfl
    simp only [pt,sA,sS,sZ]
    refine Zt 12 24 ?_ rfl hs ?_ ?_
    rotate_left
    ·rintro wx ⟨x0,x1,x2,x3,x4⟩;go_simp;try with_reducible rfl
    simp only [pt,sA,sS,sZ]
    refine Zt 13 25 ?_ rfl hs ?_ ?_
    rotate_left
    ·rintro wx ⟨x0,x1,x2,x3,x4⟩;go_simp;try with_reducible rfl
    simp only [pt,sA,sS,sZ]
    refine Zt 14 26 ?_ rfl hs ?_ ?_
    rotate_left
    ·rintro wx ⟨x0,x1,x2,x3,x4⟩;go_simp;try with_reducible rfl
    simp only [pt,sA,sS,sZ]
    refine Zt 15 27 ?_ rfl hs ?_ ?_
    rotate_left
    ·rintro wx ⟨x0,x1,x2,x3,x4⟩;go_simp;try with_reducible rfl
    simp only [pt,sA,sS,sZ]
    refine Zt 16 28 ?_ rfl hs ?_ ?_
    rotate_left
    ·rintro wx ⟨x0,x1,x2,x3,x4⟩;go_simp;try with_reducible rfl
    simp only [pt,sA,sS,sZ]
    refine Zt 17 29 ?_ rfl hs ?_ ?_
    rotate_left
    ·rintro wx ⟨x0,x1,x2,x3,x4⟩;go_simp;try with_reducible rfl
    simp only [pt,sA,sS,sZ]
    refine Z_done (by kernel_rfl) ?_ _
    have hH5:=hH4.tail
    have hG5:=hG1.trans hg4
    clear hH4 hG1 hg4 hH1
    go_wp2_with fail
    exact ⟨⟨j+2,by have:=HLT.out;omega,by go_num,hH5,hG5⟩,by have:=HLT.out;simp [intOf];omega⟩
  ·have hnl:¬ (k:Int)<ms.length:=by omega
   obtain rfl:k=ms.length:=by omega
   have hle:(ms.length:Int)≤24:=by omega
   clear hlt hk hnl
   go_wp2_with fail
   go_ret
   exact ⟨rfl,hHr,hgr⟩
end Go.Proofs.YtoelopghilbfeaaGreat
