/-
  Package nand: Program, where nothing befalls, of a block that failed.
-/
import Derived.Test.YtoelopghilbfeaaGreatNd9
namespace Go.Proofs.YtoelopghilbfeaaGreat
open Go.RowKit
set_option linter.unusedSimpArgs false
set_option linter.unusedVariables false
section
variable {b g cap:Nat} {mv:Value} {c:CM} {H Fr:HL} {w:World}
set_option maxRecDepth 20000 in
set_option maxHeartbeats 4000000 in
theorem nprogram_01 (k:Nat) (x:CB) (p:Int) (rv:Value) (raw:List UInt8) (h:ChipAt b g cap mv c H) (hH:Holds w (H++Fr)) (hops:c.ops<1000000000000) (hx:c.blocks[k]?=some x) (hf:x.failed=true) (hk0:c.mi.kind=0)
  (hraw:FrBytes Fr rv raw) (hrl:raw.length=c.Z+28) :
  Calls Tryz.prog 49 #[.pointer (some ⟨b,0,none⟩),.int .i64 (k:Int),.int .i64 p,rv] w (RetChG b g cap mv (c.prog k x p raw) w Fr):=by
 have hth:c.there (k:Int)=true:=by have:=(List.getElem?_eq_some_iff.1 hx).1;unfold CM.there;exact decide_eq_true (by omega)
 have HT:=Lib.hid (nthere_any (w:=w) (k:Int) h hH)
 rw [hth] at HT
 clear hth
 have HBT:=Lib.hid (nbetween_any p 0 ((c.P:Int) - 1) w)
 have HRW:=Lib.hid (nraw_any (w:=w) h hH)
 obtain ⟨_,c1,_⟩:=h.heads hH
 have hp1:=h.cok.1
 have hp8:=h.cok.2.1
 have hZ:=h.cok.2.2.2.1
 have h32:=h.cok.2.2.2.2.2.1
 have hmis:=h.cok.2.2.2.2.2.2.2.2.2.2.1
 have hprg:=h.cok.2.2.2.2.2.2.2.2.2.2.2.2.1
 have hcap:=h.caps
 unfold maxLen at hcap
 have HBG:=Lib.hid (fun good=>nbegin_any (w:=w) good h hH (by omega))
 have HPG:=Lib.hid (show ∀ good,decide ((0:Int)≤p∧p≤(c.P:Int) - 1)=good→c.prog k x p raw=if (c.beg good).2.2≠0 then ((c.beg good).1,(c.beg good).2.2) else if x.mark=true∨p≠x.next then (c.beg good).1.ord (c.beg good).2.1 false
  else progEnd (c.beg good).1 (c.beg good).2.1 k x p.toNat raw from fun good hg=>by unfold CM.prog;rw [hg])
 obtain ⟨_,hmb0,hmb1⟩:=CM.mi_bd h.cok
 have HMB0:=Lib.hid hmb0;clear hmb0
 have HMB1:=Lib.hid hmb1;clear hmb1
 have k1:=err_ne
 have k2:=nil_ne
 have HRAW:=Lib.hid hraw
 obtain ⟨Ar,qr,rfl⟩:=(hraw w hH.right).val
 have hqr:=ReadsAt.le (hraw w hH.right)
 obtain ⟨_,A0,q0,hv0,hqr1,hqr2,hrd0⟩:=hraw w hH.right
 injection hv0 with hv0 hv1 hv2
 subst hv0 hv2
 clear hv1
 obtain ⟨rb,ro,rfl,_⟩:=hrd0 (by omega)
 unfold maxLen at hqr2
 rw [hrl] at hqr1 ⊢
 have hre:((c.Z+28:Nat):Int)=(c.Z:Int)+28:=by omega
 have HX:=Lib.hid hx
 have HK0:=Lib.hid hk0
 obtain ⟨P,hPe⟩:∃ P,P=c.P:=⟨_,rfl⟩
 rw [← hPe] at c1 HBT hp1 hp8
 have HPe:=Lib.hid hPe;clear hPe
 obtain ⟨Z,hZe⟩:∃ Z,Z=c.Z:=⟨_,rfl⟩
 rw [← hZe] at HRW hZ hqr1 hre ⊢
 have HZe:=Lib.hid hZe;clear hZe
 have HRL:=Lib.hid hrl
 obtain ⟨gd,hgde⟩:∃ gd,gd=decide ((0:Int)≤p∧p≤(P:Int) - 1):=⟨_,rfl⟩
 rw [← hgde] at HBT
 have HGDE:=Lib.hid hgde
 have hrd:=HPG.out gd (by rw [← HPe.out,← hgde])
 have HRD:=Lib.hid hrd
 have hbc:=beg_cases c gd
 obtain ⟨⟨c9,⟨ma,mk,mb,mf⟩,ec⟩,hr9⟩:∃ r,r=c.beg gd:=⟨_,rfl⟩
 have hbg:=HBG.out gd
 rw [← hr9] at hbc HRD hbg
 simp only at hbc HRD
 have HBC:=Lib.hid hbc
 have HB9:=Lib.hid hbg
 clear h hraw hx hk0 hrd hbc hbg hr9 hgde HPG HBG hrd0 hrl
 have hlen:((((Z+28:Nat):Int)) == (Z:Int)+28)=true:=by rw [hre];simp
 cases gd
 ·go_enter Tryz.func49,Tryz.ntmps49
  go_wp2_with fail
  refine HT.out.mono ?_
  rintro e wx ⟨rfl,rfl⟩
  clear HT
  go_wp2_with fail
  refine HBT.out.mono ?_
  rintro e wx ⟨rfl,rfl⟩
  clear HBT HRW
  go_wp2_with fail
  refine HB9.out.mono ?_
  rintro e w1 ⟨ve,H1,He,G,rfl,he,hc1,hH1,hg1⟩
  simp only [Mi.agg,cellB] at he hc1 hH1 ⊢
  have HC1:=Lib.hid hc1
  have HHA:=Lib.hid (hH1.alloc (.cells #[.int .i64 ma,.int .i64 mk,.int .i64 mb,.int .u8 (mf.toNat:Int)] 48))
  have hGA:=hg1.alloc (.cells #[.int .i64 ma,.int .i64 mk,.int .i64 mb,.int .u8 (mf.toNat:Int)] 48)
  clear hc1
  have he0:ec≠0:=by
   rcases HBC.out with ⟨h1,_⟩ | ⟨_,h1,_⟩
   ·exact h1
   ·cases h1
  obtain ⟨b9,s9,rfl,_⟩:=isErrP8 he he0
  have HRD2:=Lib.hid (show c.prog k x p raw=(c9,ec) by rw [HRD.out,if_pos he0])
  have HE:=Lib.hid he
  clear he HRD he0 hH1
  go_wp2_with fail
  go_ret
  rw [HRD2.out]
  exact ⟨G++[(w1.heap.size,.cells #[.int .i64 ma,.int .i64 mk,.int .i64 mb,.int .u8 (mf.toNat:Int)] 48)],_,H1,He,rfl,HE.out,HC1.out,HHA.out.p,hGA⟩
 ·go_enter Tryz.func49,Tryz.ntmps49
  go_wp2_with fail
  refine HT.out.mono ?_
  rintro e wx ⟨rfl,rfl⟩
  clear HT
  go_wp2_with fail
  refine HBT.out.mono ?_
  rintro e wx ⟨rfl,rfl⟩
  clear HBT
  go_wp2_with fail
  refine HRW.out.mono ?_
  rintro e wx ⟨rfl,rfl⟩
  clear HRW
  go_wp2_with fail
  refine HB9.out.mono ?_
  rintro e w1 ⟨ve,H1,He,G,rfl,he,hc1,hH1,hg1⟩
  simp only [Mi.agg,cellB] at he hc1 hH1 ⊢
  have HC1:=Lib.hid hc1
  have HHA:=Lib.hid (hH1.alloc (.cells #[.int .i64 ma,.int .i64 mk,.int .i64 mb,.int .u8 (mf.toNat:Int)] 48))
  have hGA:=hg1.alloc (.cells #[.int .i64 ma,.int .i64 mk,.int .i64 mb,.int .u8 (mf.toNat:Int)] 48)
  clear hc1
  by_cases he0:ec=0
  ·subst he0
   obtain ⟨rfl,rfl⟩:=isErr0 he
   obtain ⟨h9,_,hon⟩:(c9,(⟨ma,mk,mb,mf⟩:Mi),(0:Int))=({ c with ops:=c.ops+1 },c.mi,0)∧True∧c.on=true:=by
    rcases HBC.out with ⟨h1,_⟩ | h1
    ·exact absurd rfl h1
    ·exact h1
   injection h9 with h9 h9m
   injection h9m with h9m _
   have hmk0:mk=0:=by have:=HK0.out;rw [← h9m] at this;exact this
   subst hmk0
   have HMBa:=Lib.hid (show (0:Int)≤mb by have:=HMB0.out;rw [← h9m] at this;exact this)
   have HMBb:=Lib.hid (show mb≤65536 by have:=HMB1.out;rw [← h9m] at this;exact this)
   have HX9:=Lib.hid (show c9.blocks[k]?=some x by rw [h9];exact HX.out)
   have HZ9:=Lib.hid (show c9.Z=Z by rw [h9];exact HZe.out.symm)
   have HP9:=Lib.hid (show c9.P=P by rw [h9];exact HPe.out.symm)
   have hHB:Holds (w1.alloc (.cells #[.int .i64 ma,.int .i64 0,.int .i64 mb,.int .u8 (mf.toNat:Int)] 48)) (H1++(G++((w1.heap.size,.cells #[.int .i64 ma,.int .i64 0,.int .i64 mb,.int .u8 (mf.toNat:Int)] 48)::Fr))):=HHA.out.p
   have d3:=(HC1.out.heads hHB).2.2.2.1
   have hbl9:c9.blocks.length=c.blocks.length:=by rw [h9]
   rw [hbl9] at d3
   have hkl:k<c.blocks.length:=(List.getElem?_eq_some_iff.1 HX.out).1
   obtain ⟨z0,z1,z2,z3,_⟩:=HHA.out.get4
   have HOF:=Lib.hid (show c9.ord ⟨ma,0,mb,mf⟩ false=({ c9 with misuse:=c9.misuse+1 },6) from rfl)
   have HOT:=Lib.hid (show c9.ord ⟨ma,0,mb,mf⟩ true=(c9,0) from rfl)
   clear he HHA hH1
   cases hmk:x.mark
   ·by_cases hpn:p=x.next
    ·have e1:(p == x.next)=true:=by simp [hpn]
     have HPN:=Lib.hid hpn;clear hpn
     have HMK:=Lib.hid hmk
     go_upto_region 5 with fail
     generalize w1.alloc (.cells #[.int .i64 ma,.int .i64 0,.int .i64 mb,.int .u8 (mf.toNat:Int)] 48)=wA at *
     generalize w1.heap.size=t at *
     have HS:=Lib.hid (fun (wx:World) (cx:CM) (Hx F:HL) (hcx:ChipAt b g cap mv cx Hx) (hbx:cx.blocks[k]?=some x) (hx:Holds wx (Hx++F)) (hm:(t,Obj.cells #[.int .i64 ma,.int .i64 0,.int .i64 mb,.int .u8 (mf.toNat:Int)] 48)∈F) =>
      show wx.cell? ⟨t,0,none⟩=some (.int .i64 ma)∧wx.cell? ⟨t,1,none⟩=some (.int .i64 0)∧wx.cell? ⟨t,2,none⟩=some (.int .i64 mb)∧wx.cell? ⟨t,3,none⟩=some (.int .u8 (mf.toNat:Int))∧wx.cell? ⟨g,k * 5+1,none⟩=some (.int .i64 x.next)∧wx.cell? ⟨g,k * 5+4,none⟩=some (.bool false) from by
       obtain ⟨pv,hB⟩:=hcx.open_ hbx
       obtain ⟨_,d1,_,_,d4,_⟩:=hB.cells wx F hx
       rw [hmk] at d4
       exact ⟨hx.cell (List.mem_append_right _ hm) 0,hx.cell (List.mem_append_right _ hm) 1,hx.cell (List.mem_append_right _ hm) 2,hx.cell (List.mem_append_right _ hm) 3,d1,d4⟩)
     clear hmk z0 z1 z2 z3
     refine Z_begin (fun wx=>wx.cell? ⟨t,0,none⟩=some (.int .i64 ma)∧wx.cell? ⟨t,1,none⟩=some (.int .i64 0)∧wx.cell? ⟨t,2,none⟩=some (.int .i64 mb)∧wx.cell? ⟨t,3,none⟩=some (.int .u8 (mf.toNat:Int))∧wx.cell? ⟨g,k * 5+1,none⟩=some (.int .i64 x.next)∧wx.cell? ⟨g,k * 5+4,none⟩=some (.bool false)) 17 (by kernel_rfl) (fun w1 hd=>HS.out _ c9 H1 _ HC1.out HX9.out (hHB.dr hd) (by simp)) (fun w1 hd hs=>?_)
     have hH3:=hHB.dr hd;have hG3:=hGA.trans (Grew.dr hd);clear hd hHB hGA
     refine Zt 0 48 ?_ rfl hs ?_ ?_
     rotate_left
     ·rintro wx ⟨x0,x1,x2,x3,x4,x5⟩;go_simp;try with_reducible rfl
     simp only [pt,sA,sS,sZ]
     refine Zt 1 49 ?_ rfl hs ?_ ?_
     rotate_left
     ·rintro wx ⟨x0,x1,x2,x3,x4,x5⟩;go_simp;try with_reducible rfl
     simp only [pt,sA,sS,sZ]
     refine Zt 2 50 ?_ rfl hs ?_ ?_
     rotate_left
     ·rintro wx ⟨x0,x1,x2,x3,x4,x5⟩;go_simp;try with_reducible rfl
     simp only [pt,sA,sS,sZ]
     refine Zt 3 51 ?_ rfl hs ?_ ?_
     rotate_left
     ·rintro wx ⟨x0,x1,x2,x3,x4,x5⟩;go_simp;try with_reducible rfl
     simp only [pt,sA,sS,sZ]
     refine Zt 4 52 ?_ rfl hs ?_ ?_
     rotate_left
     ·rintro wx ⟨x0,x1,x2,x3,x4,x5⟩;go_simp;try with_reducible rfl
     simp only [pt,sA,sS,sZ]
     refine Zt 5 53 ?_ rfl hs ?_ ?_
     rotate_left
     ·rintro wx ⟨x0,x1,x2,x3,x4,x5⟩;go_simp;try with_reducible rfl
     simp only [pt,sA,sS,sZ]
     refine Zt 6 54 ?_ rfl hs ?_ ?_
     rotate_left
     ·rintro wx ⟨x0,x1,x2,x3,x4,x5⟩;go_simp;try with_reducible rfl
     simp only [pt,sA,sS,sZ]
     refine Zt 7 55 ?_ rfl hs ?_ ?_
     rotate_left
     ·rintro wx ⟨x0,x1,x2,x3,x4,x5⟩;go_simp;try with_reducible rfl
     simp only [pt,sA,sS,sZ]
     refine Zt 8 56 ?_ rfl hs ?_ ?_
     rotate_left
     ·rintro wx ⟨x0,x1,x2,x3,x4,x5⟩;go_simp;try with_reducible rfl
     simp only [pt,sA,sS,sZ]
     refine Zt 9 57 ?_ rfl hs ?_ ?_
     rotate_left
     ·rintro wx ⟨x0,x1,x2,x3,x4,x5⟩;go_simp;try with_reducible rfl
     simp only [pt,sA,sS,sZ]
     refine Zt 10 58 ?_ rfl hs ?_ ?_
     rotate_left
     ·rintro wx ⟨x0,x1,x2,x3,x4,x5⟩;go_simp;try with_reducible rfl
     simp only [pt,sA,sS,sZ]
     refine Zt 11 59 ?_ rfl hs ?_ ?_
     rotate_left
     ·rintro wx ⟨x0,x1,x2,x3,x4,x5⟩;go_simp;try with_reducible rfl
     simp only [pt,sA,sS,sZ]
     refine Zt 12 60 ?_ rfl hs ?_ ?_
     rotate_left
     ·rintro wx ⟨x0,x1,x2,x3,x4,x5⟩;go_simp;try with_reducible rfl
     simp only [pt,sA,sS,sZ]
     refine Zt 13 61 ?_ rfl hs ?_ ?_
     rotate_left
     ·rintro wx ⟨x0,x1,x2,x3,x4,x5⟩;go_simp;try with_reducible rfl
     simp only [pt,sA,sS,sZ]
     refine Zt 14 62 ?_ rfl hs ?_ ?_
     rotate_left
     ·rintro wx ⟨x0,x1,x2,x3,x4,x5⟩;go_simp;try with_reducible rfl
     simp only [pt,sA,sS,sZ]
     refine Z_mid 15 rfl (by kernel_rfl) (fun K hK=>?_)
     have ⟨x0,x1,x2,x3,x4,x5⟩:=hs
     go_simp;refine (nordered_any ma 0 mb mf true HC1.out hH3 (by rw [h9];show c.ops+1≤_;omega) (fun _=>by rw [h9];show c.misuse+1≤c.ops+1;omega)).mono ?_;rintro e w4 ⟨G4,ve4,H4,He4,rfl,he4,hc4,hH4,hg4⟩;rw [HOT.out] at he4 hc4
     clear x0 x1 x2 x3 x4 x5
     refine hK _ _ (HS.out _ _ H4 _ hc4 (by exact HX9.out) hH4 (by simp)) (fun hs2=>?_);clear hK K hs;have hs:=hs2;clear hs2
     refine Zt 16 12 ?_ rfl hs ?_ ?_
     rotate_left
     ·rintro wx ⟨x0,x1,x2,x3,x4,x5⟩;go_simp;try with_reducible rfl
     simp only [pt,sA,sS,sZ]
     refine Z_done (by kernel_rfl) ?_ _
     obtain ⟨rfl,rfl⟩:=isErr0 he4
     have HC4:=Lib.hid hc4
     clear he4 hc4
     obtain ⟨hp0,hpP⟩:(0:Int)≤p∧p≤(P:Int) - 1:=of_decide_eq_true HGDE.out.symm
     obtain ⟨i,rfl⟩:=Int.eq_ofNat_of_zero_le hp0
     have hiP:i<P:=by omega
     obtain ⟨gp,cp,A,q,hq,hcp,hPc,hZq,hcells,hcopy⟩:=HC4.out.copyPage HX9.out (i:=i) (by rw [HP9.out];exact hiP)
     obtain ⟨pv,hB⟩:=HC4.out.open_ HX9.out
     have hbok:=hB.ok
     rw [HP9.out] at hPc
     rw [HZ9.out] at hZq
     unfold maxLen at hq hcp
     have HCELL:=Lib.hid (fun (wx:World) (F:HL) (hx:Holds wx (H4++F))=>show wx.cell? ⟨g,k * 5,none⟩=some (.slice (some ⟨gp,0,none⟩) P cp)∧wx.cell? ⟨gp,i,none⟩=some (.slice (some ⟨A,0,none⟩) (Z+28) q) from by
      have:=hcells wx F hx
      rw [HP9.out,HZ9.out] at this
      exact this)
     have hHE:Holds w4 (H4++(G4++(G++((t,.cells #[.int .i64 ma,.int .i64 0,.int .i64 mb,.int .u8 (mf.toNat:Int)] 48)::Fr)))):=hH4.p
     have hGE:=hG3.trans hg4
     obtain ⟨z0,z1,z2,z3,_⟩:w4.cell? ⟨t,0,none⟩=some (.int .i64 ma)∧w4.cell? ⟨t,1,none⟩=some (.int .i64 0)∧w4.cell? ⟨t,2,none⟩=some (.int .i64 mb)∧w4.cell? ⟨t,3,none⟩=some (.int .u8 (mf.toNat:Int))∧True:=⟨hHE.cell (b:=t) (cs:=#[.int .i64 ma,.int .i64 0,.int .i64 mb,.int .u8 (mf.toNat:Int)]) (t:=48) (fz:=(0,0)) (by simp) 0,hHE.cell (b:=t) (cs:=#[.int .i64 ma,.int .i64 0,.int .i64 mb,.int .u8 (mf.toNat:Int)]) (t:=48) (fz:=(0,0)) (by simp) 1,hHE.cell (b:=t) (cs:=#[.int .i64 ma,.int .i64 0,.int .i64 mb,.int .u8 (mf.toNat:Int)]) (t:=48) (fz:=(0,0)) (by simp) 2,hHE.cell (b:=t) (cs:=#[.int .i64 ma,.int .i64 0,.int .i64 mb,.int .u8 (mf.toNat:Int)]) (t:=48) (fz:=(0,0)) (by simp) 3,trivial⟩
     obtain ⟨_,d1,d2,d5,d4,_⟩:=hB.cells w4 _ hHE
     rw [hf] at d5
     obtain ⟨M,hMd⟩:∃ M,M=progMany ⟨ma,0,mb,mf⟩ x raw.length:=⟨_,rfl⟩
     have HMD:=Lib.hid hMd
     have hMe:M=0:=by rw [hMd,HRL.out,← HZe.out];unfold progMany;rw [hf];rfl
     clear hMd
     have hrc:=hcopy w4 _ (.slice (some ⟨rb,ro,none⟩) 0 qr) 0 (raw.take 0) hHE (by have:=HRAW.out w4 hHE.right.right.right.tail;unfold BytesAt at this;rw [HRL.out,← HZe.out] at this;rw [List.map_take];exact ReadsAt.pre this (by omega)) (by rw [HZ9.out];omega)
     rw [HZ9.out] at hrc
     have HCP:=Lib.hid (fun (wx:World) (hx:Holds wx (H4++(G4++(G++((t,.cells #[.int .i64 ma,.int .i64 0,.int .i64 mb,.int .u8 (mf.toNat:Int)] 48)::Fr)))))=>by
      have:=hcopy wx _ (.slice (some ⟨rb,ro,none⟩) 0 qr) 0 (raw.take 0) hx (by have:=HRAW.out wx hx.right.right.right.tail;unfold BytesAt at this;rw [HRL.out,← HZe.out] at this;rw [List.map_take];exact ReadsAt.pre this (by omega)) (by rw [HZ9.out];omega)
      rw [HZ9.out] at this
      exact this)
     have HRD2:=Lib.hid (show c.prog k x (i:Int) raw=(c9.setB k { x.put i raw M with failed:=true },5) by
      rw [HRD.out,if_neg (by simp),if_neg (by rw [HMK.out];simp;exact HPN.out)]
      unfold progEnd
      rw [← HMD.out]
      rw [if_neg (show ¬ ((0:Int)=2) by decide),if_pos (.inr hf)];rfl)
     clear HRD
     clear hrc hcells hcopy hB hH4 hG3 hg4 d3
     obtain rfl:M=0:=hMe
     go_upto_region 15 with fail
     refine Z_begin (fun wx=>wx.cell? ⟨g,k * 5,none⟩=some (.slice (some ⟨gp,0,none⟩) P cp)∧wx.cell? ⟨gp,i,none⟩=some (.slice (some ⟨A,0,none⟩) (Z+28) q)) 10 (by kernel_rfl) (fun w1 hd=>HCELL.out _ _ (hHE.dr hd)) (fun w1 hd hs=>?_)
     have hHF:=hHE.dr hd;have hGF:=hGE.trans (Grew.dr hd);clear hd hHE hGE;obtain ⟨w7,H7,hrun7,hc7,hH7,hg7⟩:=HCP.out _ hHF
     refine Zt 0 91 ?_ rfl hs ?_ ?_
     rotate_left
     ·rintro wx ⟨x0,x1⟩;go_simp;try with_reducible rfl
     simp only [pt,sA,sS,sZ]
     refine Zt 1 92 ?_ rfl hs ?_ ?_
     rotate_left
     ·rintro wx ⟨x0,x1⟩;go_simp;try with_reducible rfl
     simp only [pt,sA,sS,sZ]
     refine Zt 2 93 ?_ rfl hs ?_ ?_
     rotate_left
     ·rintro wx ⟨x0,x1⟩;go_simp;try with_reducible rfl
     simp only [pt,sA,sS,sZ]
     refine Zt 3 94 ?_ rfl hs ?_ ?_
     rotate_left
     ·rintro wx ⟨x0,x1⟩;go_simp;try with_reducible rfl
     simp only [pt,sA,sS,sZ]
     refine Zt 4 95 ?_ rfl hs ?_ ?_
     rotate_left
     ·rintro wx ⟨x0,x1⟩;go_simp;try with_reducible rfl
     simp only [pt,sA,sS,sZ]
     refine Zt 5 96 ?_ rfl hs ?_ ?_
     rotate_left
     ·rintro wx ⟨x0,x1⟩;go_simp;try with_reducible rfl
     simp only [pt,sA,sS,sZ]
     refine Zt 6 97 ?_ rfl hs ?_ ?_
     rotate_left
     ·rintro wx ⟨x0,x1⟩;go_simp;try with_reducible rfl
     simp only [pt,sA,sS,sZ]
     refine Zt 7 98 ?_ rfl hs ?_ ?_
     rotate_left
     ·rintro wx ⟨x0,x1⟩;go_simp;try with_reducible rfl
     simp only [pt,sA,sS,sZ]
     refine Zt 8 99 ?_ rfl hs ?_ ?_
     rotate_left
     ·rintro wx ⟨x0,x1⟩;go_simp;try with_reducible rfl
     simp only [pt,sA,sS,sZ]
     refine Zt 9 100 ?_ rfl hs ?_ ?_
     rotate_left
     ·rintro wx ⟨x0,x1⟩;go_simp;try with_reducible rfl
     simp only [pt,sA,sS,sZ]
     refine Z_last 10 rfl (by kernel_rfl) rfl (fun K hK=>?_)
     have ⟨x0,x1⟩:=hs
     refine step_copy rfl (.tmp 97) (.tmp 100) 38 38 (some 101) rfl rfl _ _ rfl rfl hrun7 ?_
     clear x0 x1
     refine hK _ _ ?_;clear hK K hs
     refine Z_done (by kernel_rfl) ?_ _
     have hG7:=hGF.trans hg7
     have hb7:(c9.setB k { x with pages:=x.pages.set i (raw.take 0++(x.pages.getD i []).drop 0) }).blocks[k]?=some { x with pages:=x.pages.set i (raw.take 0++(x.pages.getD i []).drop 0) }:=by
      have:k<c9.blocks.length:=(List.getElem?_eq_some_iff.1 HX9.out).1
      simp [CM.setB,this]
     obtain ⟨pv7,hB7⟩:=hc7.open_ hb7
     obtain ⟨_,e1',_,e3',_,_,f1',_⟩:=hB7.cells w7 _ hH7
     have hnx:=hB7.ok
     obtain ⟨H8,hc8,hH8⟩:=hB7.setN w7 _ (x.next+1) hH7 (by have:=hnx.2.2.1;show (0:Int)≤x.next+1;have h2:(0:Int)≤x.next:=this;omega) (by show x.next+1≤(c9.P:Int);rw [HP9.out,← HPN.out];omega)
     have hc8':ChipAt b g cap mv (c9.setB k { x with pages:=x.pages.set i (raw.take 0++(x.pages.getD i []).drop 0),next:=x.next+1 }) H8:=by
      have e:(c9.setB k { x with pages:=x.pages.set i (raw.take 0++(x.pages.getD i []).drop 0) }).setB k { x with pages:=x.pages.set i (raw.take 0++(x.pages.getD i []).drop 0),next:=x.next+1 }=c9.setB k { x with pages:=x.pages.set i (raw.take 0++(x.pages.getD i []).drop 0),next:=x.next+1 }:=by simp [CM.setB]
      rw [← e];exact hc8
     have hG8:=hG7.setCell ⟨g,k * 5+1,none⟩ (.int .i64 (x.next+1))
     have hb8:(c9.setB k { x with pages:=x.pages.set i (raw.take 0++(x.pages.getD i []).drop 0),next:=x.next+1 }).blocks[k]?=some { x with pages:=x.pages.set i (raw.take 0++(x.pages.getD i []).drop 0),next:=x.next+1 }:=by
      have:k<c9.blocks.length:=(List.getElem?_eq_some_iff.1 HX9.out).1
      simp [CM.setB,this]
     obtain ⟨pv8,hB8⟩:=hc8'.open_ hb8
     obtain ⟨_,_,_,g3',_⟩:=hB8.cells _ _ hH8
     obtain ⟨_,_,_,_,_,_,_,_,q8,_,_,_,q9⟩:=hc8'.heads hH8
     have hprog:=hc8'.cok
     have y1:(w7.setCell ⟨g,k * 5+1,none⟩ (.int .i64 (x.next+1))).cell? ⟨t,1,none⟩=some (.int .i64 0):=hH8.cell (b:=t) (cs:=#[.int .i64 ma,.int .i64 0,.int .i64 mb,.int .u8 (mf.toNat:Int)]) (t:=48) (fz:=(0,0)) (by simp) 1
     have hxn:x.next≤8:=by have:=hnx.2.2.2.1;have h2:x.next≤(c9.P:Int):=this;rw [HP9.out] at h2;omega
     have hxn0:0≤x.next:=hnx.2.2.1
     obtain ⟨_,_,_,_,_,_,_,_,g4',_⟩:=hB8.cells _ _ hH8
     obtain ⟨H9,hc9,hH9⟩:=hB8.setF _ _ true hH8
     have hc9':ChipAt b g cap mv (c9.setB k { x.put i raw 0 with failed:=true }) H9:=by
      have e:(c9.setB k { x with pages:=x.pages.set i (raw.take 0++(x.pages.getD i []).drop 0),next:=x.next+1 }).setB k { x.put i raw 0 with failed:=true }=c9.setB k { x.put i raw 0 with failed:=true }:=by simp [CM.setB]
      rw [← e];exact hc9
     have HC9:=Lib.hid hc9'
     have HG9:=Lib.hid (hG8.setCell ⟨g,k * 5+3,none⟩ (.bool true))
     have HWR:=Lib.hid (nwrong_any 5 _ _ (by omega) hH9)
     simp only [hf] at e3' g3'
     clear hc7 hc8 hc8' hB7 hB8 hc9 hc9' hH9 hH7 hH8 hHF hGF hg7 hG7 hG8 hrun7 hnx hprog hb7 hb8 HCP HCELL z0 z1 z2 z3 q8 h9
     go_wp2_with fail
     refine HWR.out.mono ?_
     rintro e w9 ⟨ve9,He9,rfl,he9,hH9,hg9⟩
     have HE9:=Lib.hid he9
     clear he9
     go_wp2_with fail
     go_ret
     rw [HRD2.out]
     exact ⟨G4++(G++[(t,.cells #[.int .i64 ma,.int .i64 0,.int .i64 mb,.int .u8 (mf.toNat:Int)] 48)]),_,H9,He9,rfl,HE9.out,HC9.out,hH9.p,HG9.out.trans hg9⟩
    ·have e1:(p == x.next)=false:=by simpa using hpn
     have HPN:=Lib.hid hpn;clear hpn
     have HMK:=Lib.hid hmk
     go_upto_region 5 with fail
     generalize w1.alloc (.cells #[.int .i64 ma,.int .i64 0,.int .i64 mb,.int .u8 (mf.toNat:Int)] 48)=wA at *
     generalize w1.heap.size=t at *
     have HS:=Lib.hid (fun (wx:World) (cx:CM) (Hx F:HL) (hcx:ChipAt b g cap mv cx Hx) (hbx:cx.blocks[k]?=some x) (hx:Holds wx (Hx++F)) (hm:(t,Obj.cells #[.int .i64 ma,.int .i64 0,.int .i64 mb,.int .u8 (mf.toNat:Int)] 48)∈F) =>
      show wx.cell? ⟨t,0,none⟩=some (.int .i64 ma)∧wx.cell? ⟨t,1,none⟩=some (.int .i64 0)∧wx.cell? ⟨t,2,none⟩=some (.int .i64 mb)∧wx.cell? ⟨t,3,none⟩=some (.int .u8 (mf.toNat:Int))∧wx.cell? ⟨g,k * 5+1,none⟩=some (.int .i64 x.next)∧wx.cell? ⟨g,k * 5+4,none⟩=some (.bool false) from by
       obtain ⟨pv,hB⟩:=hcx.open_ hbx
       obtain ⟨_,d1,_,_,d4,_⟩:=hB.cells wx F hx
       rw [hmk] at d4
       exact ⟨hx.cell (List.mem_append_right _ hm) 0,hx.cell (List.mem_append_right _ hm) 1,hx.cell (List.mem_append_right _ hm) 2,hx.cell (List.mem_append_right _ hm) 3,d1,d4⟩)
     clear hmk z0 z1 z2 z3
     refine Z_begin (fun wx=>wx.cell? ⟨t,0,none⟩=some (.int .i64 ma)∧wx.cell? ⟨t,1,none⟩=some (.int .i64 0)∧wx.cell? ⟨t,2,none⟩=some (.int .i64 mb)∧wx.cell? ⟨t,3,none⟩=some (.int .u8 (mf.toNat:Int))∧wx.cell? ⟨g,k * 5+1,none⟩=some (.int .i64 x.next)∧wx.cell? ⟨g,k * 5+4,none⟩=some (.bool false)) 17 (by kernel_rfl) (fun w1 hd=>HS.out _ c9 H1 _ HC1.out HX9.out (hHB.dr hd) (by simp)) (fun w1 hd hs=>?_)
     have hH3:=hHB.dr hd;have hG3:=hGA.trans (Grew.dr hd);clear hd hHB hGA
     refine Zt 0 48 ?_ rfl hs ?_ ?_
     rotate_left
     ·rintro wx ⟨x0,x1,x2,x3,x4,x5⟩;go_simp;try with_reducible rfl
     simp only [pt,sA,sS,sZ]
     refine Zt 1 49 ?_ rfl hs ?_ ?_
     rotate_left
     ·rintro wx ⟨x0,x1,x2,x3,x4,x5⟩;go_simp;try with_reducible rfl
     simp only [pt,sA,sS,sZ]
     refine Zt 2 50 ?_ rfl hs ?_ ?_
     rotate_left
     ·rintro wx ⟨x0,x1,x2,x3,x4,x5⟩;go_simp;try with_reducible rfl
     simp only [pt,sA,sS,sZ]
     refine Zt 3 51 ?_ rfl hs ?_ ?_
     rotate_left
     ·rintro wx ⟨x0,x1,x2,x3,x4,x5⟩;go_simp;try with_reducible rfl
     simp only [pt,sA,sS,sZ]
     refine Zt 4 52 ?_ rfl hs ?_ ?_
     rotate_left
     ·rintro wx ⟨x0,x1,x2,x3,x4,x5⟩;go_simp;try with_reducible rfl
     simp only [pt,sA,sS,sZ]
     refine Zt 5 53 ?_ rfl hs ?_ ?_
     rotate_left
     ·rintro wx ⟨x0,x1,x2,x3,x4,x5⟩;go_simp;try with_reducible rfl
     simp only [pt,sA,sS,sZ]
     refine Zt 6 54 ?_ rfl hs ?_ ?_
     rotate_left
     ·rintro wx ⟨x0,x1,x2,x3,x4,x5⟩;go_simp;try with_reducible rfl
     simp only [pt,sA,sS,sZ]
     refine Zt 7 55 ?_ rfl hs ?_ ?_
     rotate_left
     ·rintro wx ⟨x0,x1,x2,x3,x4,x5⟩;go_simp;try with_reducible rfl
     simp only [pt,sA,sS,sZ]
     refine Zt 8 56 ?_ rfl hs ?_ ?_
     rotate_left
     ·rintro wx ⟨x0,x1,x2,x3,x4,x5⟩;go_simp;try with_reducible rfl
     simp only [pt,sA,sS,sZ]
     refine Zt 9 57 ?_ rfl hs ?_ ?_
     rotate_left
     ·rintro wx ⟨x0,x1,x2,x3,x4,x5⟩;go_simp;try with_reducible rfl
     simp only [pt,sA,sS,sZ]
     refine Zt 10 58 ?_ rfl hs ?_ ?_
     rotate_left
     ·rintro wx ⟨x0,x1,x2,x3,x4,x5⟩;go_simp;try with_reducible rfl
     simp only [pt,sA,sS,sZ]
     refine Zt 11 59 ?_ rfl hs ?_ ?_
     rotate_left
     ·rintro wx ⟨x0,x1,x2,x3,x4,x5⟩;go_simp;try with_reducible rfl
     simp only [pt,sA,sS,sZ]
     refine Zt 12 60 ?_ rfl hs ?_ ?_
     rotate_left
     ·rintro wx ⟨x0,x1,x2,x3,x4,x5⟩;go_simp;try with_reducible rfl
     simp only [pt,sA,sS,sZ]
     refine Zt 13 61 ?_ rfl hs ?_ ?_
     rotate_left
     ·rintro wx ⟨x0,x1,x2,x3,x4,x5⟩;go_simp;try with_reducible rfl
     simp only [pt,sA,sS,sZ]
     refine Zt 14 62 ?_ rfl hs ?_ ?_
     rotate_left
     ·rintro wx ⟨x0,x1,x2,x3,x4,x5⟩;go_simp;try with_reducible rfl
     simp only [pt,sA,sS,sZ]
     refine Z_mid 15 rfl (by kernel_rfl) (fun K hK=>?_)
     have ⟨x0,x1,x2,x3,x4,x5⟩:=hs
     go_simp;refine (nordered_any ma 0 mb mf false HC1.out hH3 (by rw [h9];show c.ops+1≤_;omega) (fun _=>by rw [h9];show c.misuse+1≤c.ops+1;omega)).mono ?_;rintro e w4 ⟨G4,ve4,H4,He4,rfl,he4,hc4,hH4,hg4⟩;rw [HOF.out] at he4 hc4
     clear x0 x1 x2 x3 x4 x5
     refine hK _ _ (HS.out _ _ H4 _ hc4 (by exact HX9.out) hH4 (by simp)) (fun hs2=>?_);clear hK K hs;have hs:=hs2;clear hs2
     refine Zt 16 12 ?_ rfl hs ?_ ?_
     rotate_left
     ·rintro wx ⟨x0,x1,x2,x3,x4,x5⟩;go_simp;try with_reducible rfl
     simp only [pt,sA,sS,sZ]
     refine Z_done (by kernel_rfl) ?_ _
     obtain ⟨b9,s9,rfl,_⟩:=isErrP8 he4 (show (6:Int)≠0 by decide)
     have HE4:=Lib.hid he4
     have HC4:=Lib.hid hc4
     have HRD2:=Lib.hid (show c.prog k x p raw=({ c9 with misuse:=c9.misuse+1 },6) by rw [HRD.out,if_neg (by simp),if_pos (.inr HPN.out)];exact HOF.out)
     clear he4 hc4 HRD
     go_wp2_with fail
     go_ret
     rw [HRD2.out]
     exact ⟨G4++(G++[(t,.cells #[.int .i64 ma,.int .i64 0,.int .i64 mb,.int .u8 (mf.toNat:Int)] 48)]),_,H4,He4,rfl,HE4.out,HC4.out,hH4.p,hG3.trans hg4⟩
   ·skip
    have HMK:=Lib.hid hmk
    go_upto_region 5 with fail
    generalize w1.alloc (.cells #[.int .i64 ma,.int .i64 0,.int .i64 mb,.int .u8 (mf.toNat:Int)] 48)=wA at *
    generalize w1.heap.size=t at *
    have HS:=Lib.hid (fun (wx:World) (cx:CM) (Hx F:HL) (hcx:ChipAt b g cap mv cx Hx) (hbx:cx.blocks[k]?=some x) (hx:Holds wx (Hx++F)) (hm:(t,Obj.cells #[.int .i64 ma,.int .i64 0,.int .i64 mb,.int .u8 (mf.toNat:Int)] 48)∈F) =>
     show wx.cell? ⟨t,0,none⟩=some (.int .i64 ma)∧wx.cell? ⟨t,1,none⟩=some (.int .i64 0)∧wx.cell? ⟨t,2,none⟩=some (.int .i64 mb)∧wx.cell? ⟨t,3,none⟩=some (.int .u8 (mf.toNat:Int))∧wx.cell? ⟨g,k * 5+1,none⟩=some (.int .i64 x.next)∧wx.cell? ⟨g,k * 5+4,none⟩=some (.bool true) from by
      obtain ⟨pv,hB⟩:=hcx.open_ hbx
      obtain ⟨_,d1,_,_,d4,_⟩:=hB.cells wx F hx
      rw [hmk] at d4
      exact ⟨hx.cell (List.mem_append_right _ hm) 0,hx.cell (List.mem_append_right _ hm) 1,hx.cell (List.mem_append_right _ hm) 2,hx.cell (List.mem_append_right _ hm) 3,d1,d4⟩)
    clear hmk z0 z1 z2 z3
    refine Z_begin (fun wx=>wx.cell? ⟨t,0,none⟩=some (.int .i64 ma)∧wx.cell? ⟨t,1,none⟩=some (.int .i64 0)∧wx.cell? ⟨t,2,none⟩=some (.int .i64 mb)∧wx.cell? ⟨t,3,none⟩=some (.int .u8 (mf.toNat:Int))∧wx.cell? ⟨g,k * 5+1,none⟩=some (.int .i64 x.next)∧wx.cell? ⟨g,k * 5+4,none⟩=some (.bool true)) 17 (by kernel_rfl) (fun w1 hd=>HS.out _ c9 H1 _ HC1.out HX9.out (hHB.dr hd) (by simp)) (fun w1 hd hs=>?_)
    have hH3:=hHB.dr hd;have hG3:=hGA.trans (Grew.dr hd);clear hd hHB hGA
    refine Zt 0 48 ?_ rfl hs ?_ ?_
    rotate_left
    ·rintro wx ⟨x0,x1,x2,x3,x4,x5⟩;go_simp;try with_reducible rfl
    simp only [pt,sA,sS,sZ]
    refine Zt 1 49 ?_ rfl hs ?_ ?_
    rotate_left
    ·rintro wx ⟨x0,x1,x2,x3,x4,x5⟩;go_simp;try with_reducible rfl
    simp only [pt,sA,sS,sZ]
    refine Zt 2 50 ?_ rfl hs ?_ ?_
    rotate_left
    ·rintro wx ⟨x0,x1,x2,x3,x4,x5⟩;go_simp;try with_reducible rfl
    simp only [pt,sA,sS,sZ]
    refine Zt 3 51 ?_ rfl hs ?_ ?_
    rotate_left
    ·rintro wx ⟨x0,x1,x2,x3,x4,x5⟩;go_simp;try with_reducible rfl
    simp only [pt,sA,sS,sZ]
    refine Zt 4 52 ?_ rfl hs ?_ ?_
    rotate_left
    ·rintro wx ⟨x0,x1,x2,x3,x4,x5⟩;go_simp;try with_reducible rfl
    simp only [pt,sA,sS,sZ]
    refine Zt 5 53 ?_ rfl hs ?_ ?_
    rotate_left
    ·rintro wx ⟨x0,x1,x2,x3,x4,x5⟩;go_simp;try with_reducible rfl
    simp only [pt,sA,sS,sZ]
    refine Zt 6 54 ?_ rfl hs ?_ ?_
    rotate_left
    ·rintro wx ⟨x0,x1,x2,x3,x4,x5⟩;go_simp;try with_reducible rfl
    simp only [pt,sA,sS,sZ]
    refine Zt 7 55 ?_ rfl hs ?_ ?_
    rotate_left
    ·rintro wx ⟨x0,x1,x2,x3,x4,x5⟩;go_simp;try with_reducible rfl
    simp only [pt,sA,sS,sZ]
    refine Zs 8 56 rfl hs ?_
    simp only [pt,sA,sS,sZ]
    refine Zs 9 57 rfl hs ?_
    simp only [pt,sA,sS,sZ]
    refine Zs 10 58 rfl hs ?_
    simp only [pt,sA,sS,sZ]
    refine Zs 11 59 rfl hs ?_
    simp only [pt,sA,sS,sZ]
    refine Zs 12 60 rfl hs ?_
    simp only [pt,sA,sS,sZ]
    refine Zs 13 61 rfl hs ?_
    simp only [pt,sA,sS,sZ]
    refine Zt 14 62 ?_ rfl hs ?_ ?_
    rotate_left
    ·rintro wx ⟨x0,x1,x2,x3,x4,x5⟩;go_simp;try with_reducible rfl
    simp only [pt,sA,sS,sZ]
    refine Z_mid 15 rfl (by kernel_rfl) (fun K hK=>?_)
    have ⟨x0,x1,x2,x3,x4,x5⟩:=hs
    go_simp;refine (nordered_any ma 0 mb mf false HC1.out hH3 (by rw [h9];show c.ops+1≤_;omega) (fun _=>by rw [h9];show c.misuse+1≤c.ops+1;omega)).mono ?_;rintro e w4 ⟨G4,ve4,H4,He4,rfl,he4,hc4,hH4,hg4⟩;rw [HOF.out] at he4 hc4
    clear x0 x1 x2 x3 x4 x5
    refine hK _ _ (HS.out _ _ H4 _ hc4 (by exact HX9.out) hH4 (by simp)) (fun hs2=>?_);clear hK K hs;have hs:=hs2;clear hs2
    refine Zt 16 12 ?_ rfl hs ?_ ?_
    rotate_left
    ·rintro wx ⟨x0,x1,x2,x3,x4,x5⟩;go_simp;try with_reducible rfl
    simp only [pt,sA,sS,sZ]
    refine Z_done (by kernel_rfl) ?_ _
    obtain ⟨b9,s9,rfl,_⟩:=isErrP8 he4 (show (6:Int)≠0 by decide)
    have HE4:=Lib.hid he4
    have HC4:=Lib.hid hc4
    have HRD2:=Lib.hid (show c.prog k x p raw=({ c9 with misuse:=c9.misuse+1 },6) by rw [HRD.out,if_neg (by simp),if_pos (.inl HMK.out)];exact HOF.out)
    clear he4 hc4 HRD
    go_wp2_with fail
    go_ret
    rw [HRD2.out]
    exact ⟨G4++(G++[(t,.cells #[.int .i64 ma,.int .i64 0,.int .i64 mb,.int .u8 (mf.toNat:Int)] 48)]),_,H4,He4,rfl,HE4.out,HC4.out,hH4.p,hG3.trans hg4⟩
  ·obtain ⟨b9,s9,rfl,_⟩:=isErrP8 he he0
   have HRD2:=Lib.hid (show c.prog k x p raw=(c9,ec) by rw [HRD.out,if_pos he0])
   have HE:=Lib.hid he
   clear he HRD he0 hH1
   go_wp2_with fail
   go_ret
   rw [HRD2.out]
   exact ⟨G++[(w1.heap.size,.cells #[.int .i64 ma,.int .i64 mk,.int .i64 mb,.int .u8 (mf.toNat:Int)] 48)],_,H1,He,rfl,HE.out,HC1.out,HHA.out.p,hGA⟩
end
end Go.Proofs.YtoelopghilbfeaaGreat
