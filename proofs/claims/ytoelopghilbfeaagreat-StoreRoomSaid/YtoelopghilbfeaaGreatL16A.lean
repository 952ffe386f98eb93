/-
  Chapter 16: Geometry, lost.
-/
import Derived.Test.YtoelopghilbfeaaGreatStB
namespace Go.Proofs.YtoelopghilbfeaaGreat
open Go.RowKit
set_option linter.unusedSimpArgs false
set_option linter.unusedVariables false
variable {b cb g cap:Nat} {mv:Value} {c:CM} {s:SM} {H Hc Fr:HL} {w:World}
set_option maxRecDepth 20000 in
theorem l16geo_any (w:World) (Fr:HL) (hH:Holds w Fr):Calls Tryz.prog 13 #[] w (RetFr (.agg #[.int .i64 16,.int .i64 4,.int .i64 128]) w Fr):=by
 have hH1:=hH.alloc' (.cells #[.int .i64 16,.int .i64 4,.int .i64 128] 26)
 have hg1:=(Grew.refl w).alloc (.cells #[.int .i64 16,.int .i64 4,.int .i64 128] 26)
 clear hH
 go_enter Tryz.func13,Tryz.ntmps13
 go_wp2_with fail
 refine bodyPost_ret (v:=.agg #[.int .i64 16,.int .i64 4,.int .i64 128]) (by rw [results_cell1'' rfl];go_simp) rfl ⟨rfl,?_,?_⟩
 ·exact hH1
 ·exact hg1
theorem CM.ok.beg (h:c.ok) (good:Bool):(c.beg good).1.ok:=by
 unfold CM.beg
 split
 ·exact h
 ·split
  ·exact h
  ·obtain ⟨h1,h2,h3,h4,h5,h6,h7,h8,h9,h10,h11,h12,h13,h14⟩:=h
   refine ⟨h1,h2,h3,h4,h5,h6,h7,h8,?_,h10,?_,h12,?_,fun x hx=>?_⟩
   ·show 0≤c.ops+1;omega
   ·show c.misuse≤c.ops+1;omega
   ·show c.programs≤c.ops+1;omega
   ·obtain ⟨a1,a2,a3,a4,a5,a6⟩:=h14 x hx
    exact ⟨a1,a2,a3,a4,a5,by show x.wear≤c.ops+1;omega⟩
theorem CM.ok.read (h:c.ok) (k p:Int):(c.read k p).1.ok:=by
 unfold CM.read
 dsimp only
 split
 ·exact h.beg _
 ·split
  ·exact h.beg _
  ·exact h.beg _
theorem lookN_ok (n:Nat):∀ (s:SM) (c:CM) (k:Int),c.ok→(lookN n s c k).2.1.ok:=by
 induction n with
 |zero=>intro s c k h;exact h
 |succ n ih =>
  intro s c k h
  rw [lookN]
  split
  ·exact h.read _ _
  ·split
   ·exact ih _ _ _ (h.read _ _)
   ·exact ih _ _ _ (h.read _ _)
theorem lookI_ok (s:SM) {c:CM} (k:Int) (h:c.ok):(lookI s c k).2.1.ok:=by
 have hA:(lookA s c k).2.1.ok:=by
  unfold lookA
  split
  ·split
   ·exact lookN_ok _ _ _ _ h
   ·exact lookN_ok _ _ _ _ h
  ·exact h
 unfold lookI
 split
 ·exact hA
 ·unfold lookB
  split
  ·exact hA
  ·exact hA
theorem lookAll_sim (n:Nat):∀ (k:Nat) (s:SM) (c:CM),c.ok→c.Sim (lookAll n k s c).2.1 (8 * n)∧s.Sim (lookAll n k s c).1∧(lookAll n k s c).2.1.ok:=by
 induction n with
 |zero=>intro k s c h;exact ⟨CM.Sim.refl c,SM.Sim.refl s,h⟩
 |succ n ih =>
  intro k s c h
  obtain ⟨h1,h2⟩:=lookI_sim s c (k:Int) (next_bd h k).2
  have h3:=lookI_ok s (k:Int) h
  obtain ⟨i1,i2,i3⟩:=ih (k+1) (lookI s c k).1 (lookI s c k).2.1 h3
  rw [lookAll]
  split
  ·exact ⟨h2.mono (by omega),h1,h3⟩
  ·exact ⟨(h2.trans i1).mono (by omega),h1.trans i2,i3⟩
theorem newS_sim (h:c.ok):c.Sim (newS c).2.1 (8 * c.blocks.length)∧(SM.fresh c.blocks.length c.P c.Z).Sim (newS c).1∧(newS c).2.1.ok:=lookAll_sim _ _ _ _ h
theorem read_code (c:CM) (k p:Int):0≤(c.read k p).2.2:=by
 have h:0≤(c.beg (c.pgood k p)).2.2:=by
  unfold CM.beg
  split
  ·show (0:Int)≤4;omega
  ·split
   ·show (0:Int)≤2;omega
   ·exact Int.le_refl _
 unfold CM.read
 dsimp only
 split
 ·exact h
 ·split
  ·show (0:Int)≤4;omega
  ·exact Int.le_refl _
theorem lookN_code (n:Nat):∀ (s:SM) (c:CM) (k:Int),0≤(lookN n s c k).2.2:=by
 induction n with
 |zero=>intro s c k;exact Int.le_refl _
 |succ n ih =>
  intro s c k
  rw [lookN]
  split
  ·exact read_code _ _ _
  ·split
   ·exact ih _ _ _
   ·exact ih _ _ _
theorem lookI_code (s:SM) (c:CM) (k:Int):0≤(lookI s c k).2.2:=by
 have hA:0≤(lookA s c k).2.2:=by
  unfold lookA
  split
  ·split
   ·exact lookN_code _ _ _ _
   ·exact Int.le_refl _
  ·exact Int.le_refl _
 unfold lookI
 split
 ·exact hA
 ·unfold lookB
  split
  ·exact Int.le_refl _
  ·exact hA
theorem lookAll_code (n:Nat):∀ (k:Nat) (s:SM) (c:CM),0≤(lookAll n k s c).2.2:=by
 induction n with
 |zero=>intro k s c;exact Int.le_refl _
 |succ n ih =>
  intro k s c
  rw [lookAll]
  split
  ·exact lookI_code _ _ _
  ·exact ih _ _ _
theorem newS_code (c:CM):0≤(newS c).2.2:=lookAll_code _ _ _ _
def lostN:Nat→CM→Option SM × CM
 |0,c=>(none,c)
 |n+1,c =>
  if (newS { c with on:=true }).2.2=0 then (some (newS { c with on:=true }).1,(newS { c with on:=true }).2.1)
  else if (newS { c with on:=true }).2.2=4 then lostN n (newS { c with on:=true }).2.1
  else (none,(newS { c with on:=true }).2.1)
def RetLost (cb g cap:Nat) (mv:Value) (r:Option SM × CM) (w:World) (Fr:HL) (e:Ending) (w':World):Prop :=
 ∃ n:Int,match r.1 with
  |some s=>∃ b H' Hc',e=.returned (.tuple #[.pointer (some ⟨b,0,none⟩),.int .i64 n])∧StAt b cb s H'∧ChipAt cb g cap mv r.2 Hc'∧Holds w' (H'++(Hc'++Fr))∧Grew w w'
  |none=>∃ Hc',e=.returned (.tuple #[.pointer none,.int .i64 n])∧ChipAt cb g cap mv r.2 Hc'∧Holds w' (Hc'++Fr)∧Grew w w'
def LoTo (cb g cap:Nat) (mv:Value) (res:Option SM × CM) (c0:CM) (w:World) (F:HL) (i:Value) (wr:World):Prop :=
 ∃ (k:Nat) (c':CM) (Hc':HL),k≤25∧i=.int .i64 ((k:Int)+1)∧lostN (25 - k) c'=res∧c0.Sim c' (256 * k)∧ChipAt cb g cap mv c' Hc'∧Holds wr (Hc'++F)∧Grew w wr
set_option maxRecDepth 20000 in
set_option maxHeartbeats 4000000 in
theorem lost_any (hch:ChipAt cb g cap mv c Hc) (hH:Holds w (Hc++Fr)) (hp:planB c.blocks.length c.P c.Z=true) (hops:c.ops≤999999980000):Calls Tryz.prog 26 #[.pointer (some ⟨cb,0,none⟩)] w (RetLost cb g cap mv (lostN 25 c) w Fr):=by
 have HPL:=Lib.hid hp
 have HO:=Lib.hid hops
 have HCH:=Lib.hid hch
 have HBL:=Lib.hid (show c.blocks.length≤32 from hch.cok.2.2.2.2.2.1)
 have HRE:=Lib.hid (show lostN 25 c=lostN 25 c from rfl)
 generalize hr:lostN 25 c=res at *
 have HR:=Lib.hid hr
 have hg0:=Grew.refl w
 have k1:=err_ne
 have k2:=nil_ne
 have k3:=nil_eq
 have k4:=err_eq
 clear hch hp hops hr HRE
 go_enter Tryz.func26,Tryz.ntmps26
 go_wp2_with fail
 go_loopw [4] (fun i wr=>LoTo cb g cap mv res c w Fr i wr) (fun i _=>26 - (intOf i).toNat)
 case atStart=>exact ⟨0,c,Hc,by omega,rfl,HR.out,CM.Sim.refl c,HCH.out,hH,hg0⟩
 case round =>
  clear hH hg0
  obtain ⟨k,c',Hc',hk,rfl,hres,hsim,hch,hHr,hgr⟩:=hrel
  by_cases hlt:k<25
  ·have hkn:(k:Int)+1≤25:=by omega
   rw [show 25 - k=(25 - (k+1))+1 by omega,lostN] at hres
   have HRES:=Lib.hid hres
   have HSIM:=Lib.hid hsim
   have HOF:=Lib.hid (noff_any hch hHr)
   clear hres hsim hch hHr
   go_upto_region 5 with fail
   refine HOF.out.mono ?_
   rintro e w1 ⟨rfl,H1,hc1,hH1,hg1⟩
   have HBT:=Lib.hid (nboot_any hc1 hH1)
   have hG1:=hgr.trans hg1
   clear hc1 hH1 hg1 hgr HOF
   go_upto_region 6 with fail
   refine HBT.out.mono ?_
   rintro e w2 ⟨ve,H2,He,rfl,he,hc2,hH2,hg2⟩
   have he2:IsErr ve 0 He:=he
   obtain ⟨rfl,rfl⟩:=isErr0 he2
   have hc3:ChipAt cb g cap mv { c' with on:=true } H2:=hc2
   have hH3:Holds w2 (H2++Fr):=hH2
   have hG2:=hG1.trans hg2
   have hsg:=HSIM.out
   have hok:=hc3.cok
   have HNW:=Lib.hid (new_any hc3 hH3 (by show planB (c'.blocks.length:Int) c'.P c'.Z=true;rw [hsg.2.2.1,hsg.1,hsg.2.1];exact HPL.out) rfl (by show c'.ops≤_;have:=hsg.2.2.2.2.2;have:=HO.out;omega))
   have HNS:=Lib.hid (newS_sim hok)
   have HCD:=Lib.hid (newS_code { c' with on:=true })
   have HBL2:=Lib.hid (show ({ c' with on:=true }:CM).blocks.length≤32 by show c'.blocks.length≤32;rw [hsg.2.2.1];exact HBL.out)
   have HS0:=Lib.hid (show c'.Sim { c' with on:=true } 0 from ⟨rfl,rfl,rfl,rfl,Int.le_refl _,by show c'.ops≤c'.ops+0;omega⟩)
   clear he he2 hc2 hH2 hc3 hH3 hg2 hG1 HBT hsg hok
   generalize newS { c' with on:=true }=nw at *
   obtain ⟨s4,c4,code⟩:=nw
   dsimp only at *
   go_upto_region 8 with fail
   refine HNW.out.mono ?_
   rintro e w3 hr
   rcases hr with ⟨h0,b,H4,Hc4,rfl,hs4,hch4,hH4,hg4⟩ | ⟨h0,ve4,He4,Hc4,rfl,he4,hch4,hH4,hg4⟩
   ·dsimp only at h0 hs4 hch4
    have HS4:=Lib.hid hs4
    have HC4:=Lib.hid hch4
    have HH4:=Lib.hid hH4
    rw [if_pos h0] at HRES
    clear hs4 hch4 hH4 h0 HNW
    go_wp2_with fail
    go_ret2
    rw [← HRES.out]
    exact ⟨_,b,H4,Hc4,rfl,HS4.out,HC4.out,HH4.out,hG2.trans hg4⟩
   ·dsimp only at h0 he4 hch4
    obtain ⟨be,se,rfl,rfl⟩:=isErrP8 he4 h0
    rw [if_neg h0] at HRES
    have HC4:=Lib.hid hch4
    have hH5:Holds w3 ([(be,.cells #[.int .i64 code,.string se] 119)]++(Hc4++Fr)):=hH4.p
    have HNM:=Lib.hid (num_any _ code _ _ w3 he4 hH5 HCD.out)
    have HH4:=Lib.hid hH4
    clear he4 hch4 hH4 hH5 HNW
    by_cases h4:code=4
    ·subst h4
     rw [if_pos rfl] at HRES
     clear h0
     go_upto_region 11 with fail
     refine HNM.out.mono ?_
     rintro e w4 ⟨rfl,rfl⟩
     go_wp2_with fail
     go_roundw
     case rel =>
      exact ⟨k+1,c4,Hc4,by omega,by go_num,HRES.out,((HSIM.out.trans HS0.out).trans HNS.out.1).mono (by have:=HBL2.out;omega),HC4.out,HH4.out.p,hG2.trans hg4⟩
     case measure=>simp [intOf];omega
    ·have e4:(code != 4)=true:=by simpa using h4
     rw [if_neg h4] at HRES
     clear h4
     go_upto_region 11 with fail
     refine HNM.out.mono ?_
     rintro e w4 ⟨rfl,rfl⟩
     go_wp2_with fail
     go_ret2
     rw [← HRES.out]
     exact ⟨_,Hc4,rfl,HC4.out,HH4.out.p,hG2.trans hg4⟩
  ·obtain rfl:k=25:=by omega
   rw [Nat.sub_self,lostN] at hres
   have HRES:=Lib.hid hres
   have HC:=Lib.hid hch
   have HH:=Lib.hid hHr
   clear hres hsim hch hHr
   go_wp2_with fail
   go_ret2
   rw [← HRES.out]
   exact ⟨_,Hc',rfl,HC.out,HH.out,hgr⟩
end Go.Proofs.YtoelopghilbfeaaGreat
