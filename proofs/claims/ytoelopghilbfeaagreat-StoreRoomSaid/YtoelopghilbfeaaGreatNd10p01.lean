/-
  Package nand: Erase, where nothing befalls, of a block that failed.
-/
import Derived.Test.YtoelopghilbfeaaGreatNd10
namespace Go.Proofs.YtoelopghilbfeaaGreat
open Go.RowKit
set_option linter.unusedSimpArgs false
set_option linter.unusedVariables false
section
variable {b g cap:Nat} {mv:Value} {c:CM} {H Fr:HL} {w:World}
set_option maxRecDepth 20000 in
set_option maxHeartbeats 4000000 in
theorem nerase_01 (k:Nat) (x:CB) (h:ChipAt b g cap mv c H) (hH:Holds w (H++Fr)) (hops:c.ops<1000000000000) (hx:c.blocks[k]?=some x) (hf:x.failed=true) (hk0:c.mi.kind=0) :
  Calls Tryz.prog 83 #[.pointer (some ⟨b,0,none⟩),.int .i64 (k:Int)] w (RetChG b g cap mv (c.erase k x) w Fr):=by
 have hth:c.there (k:Int)=true:=by have:=(List.getElem?_eq_some_iff.1 hx).1;unfold CM.there;exact decide_eq_true (by omega)
 have HT:=Lib.hid (nthere_any (w:=w) (k:Int) h hH)
 rw [hth] at HT
 clear hth
 have hp1:=h.cok.1
 have hp8:=h.cok.2.1
 have hZ:=h.cok.2.2.2.1
 have h32:=h.cok.2.2.2.2.2.1
 have hmis:=h.cok.2.2.2.2.2.2.2.2.2.2.1
 have hcap:=h.caps
 unfold maxLen at hcap
 have hbg:=nbegin_any (w:=w) true h hH (by omega)
 have hrd:c.erase k x=if (c.beg true).2.2≠0 then ((c.beg true).1,(c.beg true).2.2) else if x.mark=true then (c.beg true).1.ord (c.beg true).2.1 false else eraseEnd (c.beg true).1 (c.beg true).2.1 k x:=rfl
 have k1:=err_ne
 have k2:=nil_ne
 have HX:=Lib.hid hx
 have HK0:=Lib.hid hk0
 have hbc:=beg_cases8 c true
 obtain ⟨⟨c9,⟨ma,mk,mb,mf⟩,ec⟩,hr9⟩:∃ r,r=c.beg true:=⟨_,rfl⟩
 rw [← hr9] at hbc hrd hbg
 simp only at hbc hrd
 have HBC:=Lib.hid hbc
 have HB9:=Lib.hid hbg
 have HRD:=Lib.hid hrd
 have hwx:x.wear≤c.ops:=(h.cok.2.2.2.2.2.2.2.2.2.2.2.2.2 x (List.mem_of_getElem? hx)).2.2.2.2.2
 have hwx0:0≤x.wear:=(h.cok.2.2.2.2.2.2.2.2.2.2.2.2.2 x (List.mem_of_getElem? hx)).2.2.2.2.1
 clear h hx hk0 hrd hbc hbg hr9
 go_enter Tryz.func83,Tryz.ntmps83
 go_wp2_with fail
 refine HT.out.mono ?_
 rintro e wx ⟨rfl,rfl⟩
 clear HT
 go_wp2_with fail
 refine HB9.out.mono ?_
 rintro e w1 ⟨ve,H1,He,G,rfl,he,hc1,hH1,hg1⟩
 simp only [Mi.agg,cellB] at he hc1 hH1 ⊢
 have HC1:=Lib.hid hc1
 have HHA:=Lib.hid (hH1.alloc (.cells #[.int .i64 ma,.int .i64 mk,.int .i64 mb,.int .u8 (mf.toNat:Int)] 48))
 have hGA:=hg1.alloc (.cells #[.int .i64 ma,.int .i64 mk,.int .i64 mb,.int .u8 (mf.toNat:Int)] 48)
 clear hc1
 by_cases he0:ec=0
 ·subst he0
  obtain ⟨rfl,rfl⟩:=isErr0 he
  obtain ⟨h9,_,hon⟩:(c9,(⟨ma,mk,mb,mf⟩:Mi),(0:Int))=({ c with ops:=c.ops+1 },c.mi,0)∧True∧c.on=true:=by
   rcases HBC.out with ⟨h1,_⟩ | ⟨h1,_,h3⟩
   ·exact absurd rfl h1
   ·exact ⟨h1,trivial,h3⟩
  injection h9 with h9 h9m
  injection h9m with h9m _
  have hmk0:mk=0:=by have:=HK0.out;rw [← h9m] at this;exact this
  subst hmk0
  have HX9:=Lib.hid (show c9.blocks[k]?=some x by rw [h9];exact HX.out)
  have hZ9:c9.Z=c.Z:=by rw [h9]
  have hP9:c9.P=c.P:=by rw [h9]
  have hO9:c9.ops=c.ops+1:=by rw [h9]
  have hM9:c9.misuse=c.misuse:=by rw [h9]
  have hHB:Holds (w1.alloc (.cells #[.int .i64 ma,.int .i64 0,.int .i64 mb,.int .u8 (mf.toNat:Int)] 48)) (H1++(G++((w1.heap.size,.cells #[.int .i64 ma,.int .i64 0,.int .i64 mb,.int .u8 (mf.toNat:Int)] 48)::Fr))):=HHA.out.p
  have d3:=(HC1.out.heads hHB).2.2.2.1
  have hbl9:c9.blocks.length=c.blocks.length:=by rw [h9]
  rw [hbl9] at d3
  have hkl:k<c.blocks.length:=(List.getElem?_eq_some_iff.1 HX.out).1
  obtain ⟨z0,z1,z2,z3,_⟩:=HHA.out.get4
  have HOF:=Lib.hid (show c9.ord ⟨ma,0,mb,mf⟩ false=({ c9 with misuse:=c9.misuse+1 },6) from rfl)
  have HOT:=Lib.hid (show c9.ord ⟨ma,0,mb,mf⟩ true=(c9,0) from rfl)
  have HRD0:=Lib.hid (show c.erase k x=if x.mark=true then c9.ord ⟨ma,0,mb,mf⟩ false else eraseEnd c9 ⟨ma,0,mb,mf⟩ k x by rw [HRD.out,if_neg (by simp)])
  clear he HHA hH1 h9 h9m hon HRD
  cases hmk:x.mark
  ·have HMK:=Lib.hid hmk
   go_upto_region 5 with fail
   generalize w1.alloc (.cells #[.int .i64 ma,.int .i64 0,.int .i64 mb,.int .u8 (mf.toNat:Int)] 48)=wA at *
   generalize w1.heap.size=t at *
   have HS:=Lib.hid (fun (wx:World) (cx:CM) (Hx F:HL) (hcx:ChipAt b g cap mv cx Hx) (hbx:cx.blocks[k]?=some x) (hx:Holds wx (Hx++F)) (hm:(t,Obj.cells #[.int .i64 ma,.int .i64 0,.int .i64 mb,.int .u8 (mf.toNat:Int)] 48)∈F) =>
    show wx.cell? ⟨t,0,none⟩=some (.int .i64 ma)∧wx.cell? ⟨t,1,none⟩=some (.int .i64 0)∧wx.cell? ⟨t,2,none⟩=some (.int .i64 mb)∧wx.cell? ⟨t,3,none⟩=some (.int .u8 (mf.toNat:Int))∧wx.cell? ⟨g,k * 5+4,none⟩=some (.bool false) from by
     obtain ⟨pv,hB⟩:=hcx.open_ hbx
     obtain ⟨_,d1,_,_,d4,_⟩:=hB.cells wx F hx
     rw [hmk] at d4
     exact ⟨hx.cell (List.mem_append_right _ hm) 0,hx.cell (List.mem_append_right _ hm) 1,hx.cell (List.mem_append_right _ hm) 2,hx.cell (List.mem_append_right _ hm) 3,d4⟩)
   clear hmk z0 z1 z2 z3
   refine Z_begin (fun wx=>wx.cell? ⟨t,0,none⟩=some (.int .i64 ma)∧wx.cell? ⟨t,1,none⟩=some (.int .i64 0)∧wx.cell? ⟨t,2,none⟩=some (.int .i64 mb)∧wx.cell? ⟨t,3,none⟩=some (.int .u8 (mf.toNat:Int))∧wx.cell? ⟨g,k * 5+4,none⟩=some (.bool false)) 9 (by kernel_rfl) (fun w1 hd=>HS.out _ c9 H1 _ HC1.out HX9.out (hHB.dr hd) (by simp)) (fun w1 hd hs=>?_)
   have hH3:=hHB.dr hd;have hG3:=hGA.trans (Grew.dr hd);clear hd hHB hGA
   refine Zt 0 28 ?_ rfl hs ?_ ?_
   rotate_left
   ·rintro wx ⟨x0,x1,x2,x3,x4⟩;go_simp;try with_reducible rfl
   simp only [pt,sA,sS,sZ]
   refine Zt 1 29 ?_ rfl hs ?_ ?_
   rotate_left
   ·rintro wx ⟨x0,x1,x2,x3,x4⟩;go_simp;try with_reducible rfl
   simp only [pt,sA,sS,sZ]
   refine Zt 2 30 ?_ rfl hs ?_ ?_
   rotate_left
   ·rintro wx ⟨x0,x1,x2,x3,x4⟩;go_simp;try with_reducible rfl
   simp only [pt,sA,sS,sZ]
   refine Zt 3 31 ?_ rfl hs ?_ ?_
   rotate_left
   ·rintro wx ⟨x0,x1,x2,x3,x4⟩;go_simp;try with_reducible rfl
   simp only [pt,sA,sS,sZ]
   refine Zt 4 32 ?_ rfl hs ?_ ?_
   rotate_left
   ·rintro wx ⟨x0,x1,x2,x3,x4⟩;go_simp;try with_reducible rfl
   simp only [pt,sA,sS,sZ]
   refine Zt 5 33 ?_ rfl hs ?_ ?_
   rotate_left
   ·rintro wx ⟨x0,x1,x2,x3,x4⟩;go_simp;try with_reducible rfl
   simp only [pt,sA,sS,sZ]
   refine Zt 6 34 ?_ rfl hs ?_ ?_
   rotate_left
   ·rintro wx ⟨x0,x1,x2,x3,x4⟩;go_simp;try with_reducible rfl
   simp only [pt,sA,sS,sZ]
   refine Z_mid 7 rfl (by kernel_rfl) (fun K hK=>?_)
   have ⟨x0,x1,x2,x3,x4⟩:=hs
   go_simp;refine (nordered_any ma 0 mb mf true HC1.out hH3 (by rw [hO9];omega) (fun _=>by rw [hO9,hM9];omega)).mono ?_;rintro e w4 ⟨G4,ve4,H4,He4,rfl,he4,hc4,hH4,hg4⟩;rw [HOT.out] at he4 hc4
   clear x0 x1 x2 x3 x4
   refine hK _ _ (HS.out _ _ H4 _ hc4 (by exact HX9.out) hH4 (by simp)) (fun hs2=>?_);clear hK K hs;have hs:=hs2;clear hs2
   refine Zt 8 8 ?_ rfl hs ?_ ?_
   rotate_left
   ·rintro wx ⟨x0,x1,x2,x3,x4⟩;go_simp;try with_reducible rfl
   simp only [pt,sA,sS,sZ]
   refine Z_done (by kernel_rfl) ?_ _
   obtain ⟨rfl,rfl⟩:=isErr0 he4
   have HC4:=Lib.hid hc4
   have HRD2:=Lib.hid (show c.erase k x=(c9.setB k { x with failed:=true },5) by rw [HRD0.out,if_neg (by rw [HMK.out];simp)];unfold eraseEnd;rw [if_neg (show ¬ ((0:Int)=2) by decide),if_pos (.inr hf)])
   clear he4 hc4 HRD0
   have hHE:Holds w4 (H4++(G4++(G++((t,.cells #[.int .i64 ma,.int .i64 0,.int .i64 mb,.int .u8 (mf.toNat:Int)] 48)::Fr)))):=hH4.p
   have hGE:=hG3.trans hg4
   have z1:w4.cell? ⟨t,1,none⟩=some (.int .i64 0):=hHE.cell (b:=t) (cs:=#[.int .i64 ma,.int .i64 0,.int .i64 mb,.int .u8 (mf.toNat:Int)]) (t:=48) (fz:=(0,0)) (by simp) 1
   obtain ⟨pv,hB⟩:=HC4.out.open_ HX9.out
   obtain ⟨_,_,_,d5,_⟩:=hB.cells w4 _ hHE
   rw [hf] at d5
   obtain ⟨_,_,_,_,_,_,_,_,f3',_⟩:=hB.cells w4 _ hHE
   obtain ⟨H9,hc9,hH9⟩:=hB.setF _ _ true hHE
   have HC9:=Lib.hid hc9
   have HG9:=Lib.hid (hGE.setCell ⟨g,k * 5+3,none⟩ (.bool true))
   have HWR:=Lib.hid (nwrong_any 5 _ _ (by omega) hH9)
   clear hH4 hG3 hg4 d3 hB hc9 hH9 hGE hHE
   go_wp2_with fail
   refine HWR.out.mono ?_
   rintro e w9 ⟨ve9,He9,rfl,he9,hH9,hg9⟩
   have HE9:=Lib.hid he9
   clear he9
   go_wp2_with fail
   go_ret
   rw [HRD2.out]
   exact ⟨G4++(G++[(t,.cells #[.int .i64 ma,.int .i64 0,.int .i64 mb,.int .u8 (mf.toNat:Int)] 48)]),_,H9,He9,rfl,HE9.out,HC9.out,hH9.p,HG9.out.trans hg9⟩
  ·have HMK:=Lib.hid hmk
   go_upto_region 5 with fail
   generalize w1.alloc (.cells #[.int .i64 ma,.int .i64 0,.int .i64 mb,.int .u8 (mf.toNat:Int)] 48)=wA at *
   generalize w1.heap.size=t at *
   have HS:=Lib.hid (fun (wx:World) (cx:CM) (Hx F:HL) (hcx:ChipAt b g cap mv cx Hx) (hbx:cx.blocks[k]?=some x) (hx:Holds wx (Hx++F)) (hm:(t,Obj.cells #[.int .i64 ma,.int .i64 0,.int .i64 mb,.int .u8 (mf.toNat:Int)] 48)∈F) =>
    show wx.cell? ⟨t,0,none⟩=some (.int .i64 ma)∧wx.cell? ⟨t,1,none⟩=some (.int .i64 0)∧wx.cell? ⟨t,2,none⟩=some (.int .i64 mb)∧wx.cell? ⟨t,3,none⟩=some (.int .u8 (mf.toNat:Int))∧wx.cell? ⟨g,k * 5+4,none⟩=some (.bool true) from by
     obtain ⟨pv,hB⟩:=hcx.open_ hbx
     obtain ⟨_,d1,_,_,d4,_⟩:=hB.cells wx F hx
     rw [hmk] at d4
     exact ⟨hx.cell (List.mem_append_right _ hm) 0,hx.cell (List.mem_append_right _ hm) 1,hx.cell (List.mem_append_right _ hm) 2,hx.cell (List.mem_append_right _ hm) 3,d4⟩)
   clear hmk z0 z1 z2 z3
   refine Z_begin (fun wx=>wx.cell? ⟨t,0,none⟩=some (.int .i64 ma)∧wx.cell? ⟨t,1,none⟩=some (.int .i64 0)∧wx.cell? ⟨t,2,none⟩=some (.int .i64 mb)∧wx.cell? ⟨t,3,none⟩=some (.int .u8 (mf.toNat:Int))∧wx.cell? ⟨g,k * 5+4,none⟩=some (.bool true)) 9 (by kernel_rfl) (fun w1 hd=>HS.out _ c9 H1 _ HC1.out HX9.out (hHB.dr hd) (by simp)) (fun w1 hd hs=>?_)
   have hH3:=hHB.dr hd;have hG3:=hGA.trans (Grew.dr hd);clear hd hHB hGA
   refine Zt 0 28 ?_ rfl hs ?_ ?_
   rotate_left
   ·rintro wx ⟨x0,x1,x2,x3,x4⟩;go_simp;try with_reducible rfl
   simp only [pt,sA,sS,sZ]
   refine Zt 1 29 ?_ rfl hs ?_ ?_
   rotate_left
   ·rintro wx ⟨x0,x1,x2,x3,x4⟩;go_simp;try with_reducible rfl
   simp only [pt,sA,sS,sZ]
   refine Zt 2 30 ?_ rfl hs ?_ ?_
   rotate_left
   ·rintro wx ⟨x0,x1,x2,x3,x4⟩;go_simp;try with_reducible rfl
   simp only [pt,sA,sS,sZ]
   refine Zt 3 31 ?_ rfl hs ?_ ?_
   rotate_left
   ·rintro wx ⟨x0,x1,x2,x3,x4⟩;go_simp;try with_reducible rfl
   simp only [pt,sA,sS,sZ]
   refine Zt 4 32 ?_ rfl hs ?_ ?_
   rotate_left
   ·rintro wx ⟨x0,x1,x2,x3,x4⟩;go_simp;try with_reducible rfl
   simp only [pt,sA,sS,sZ]
   refine Zt 5 33 ?_ rfl hs ?_ ?_
   rotate_left
   ·rintro wx ⟨x0,x1,x2,x3,x4⟩;go_simp;try with_reducible rfl
   simp only [pt,sA,sS,sZ]
   refine Zt 6 34 ?_ rfl hs ?_ ?_
   rotate_left
   ·rintro wx ⟨x0,x1,x2,x3,x4⟩;go_simp;try with_reducible rfl
   simp only [pt,sA,sS,sZ]
   refine Z_mid 7 rfl (by kernel_rfl) (fun K hK=>?_)
   have ⟨x0,x1,x2,x3,x4⟩:=hs
   go_simp;refine (nordered_any ma 0 mb mf false HC1.out hH3 (by rw [hO9];omega) (fun _=>by rw [hO9,hM9];omega)).mono ?_;rintro e w4 ⟨G4,ve4,H4,He4,rfl,he4,hc4,hH4,hg4⟩;rw [HOF.out] at he4 hc4
   clear x0 x1 x2 x3 x4
   refine hK _ _ (HS.out _ _ H4 _ hc4 (by exact HX9.out) hH4 (by simp)) (fun hs2=>?_);clear hK K hs;have hs:=hs2;clear hs2
   refine Zt 8 8 ?_ rfl hs ?_ ?_
   rotate_left
   ·rintro wx ⟨x0,x1,x2,x3,x4⟩;go_simp;try with_reducible rfl
   simp only [pt,sA,sS,sZ]
   refine Z_done (by kernel_rfl) ?_ _
   obtain ⟨b9,s9,rfl,_⟩:=isErrP8 he4 (show (6:Int)≠0 by decide)
   have HE4:=Lib.hid he4
   have HC4:=Lib.hid hc4
   have HRD2:=Lib.hid (show c.erase k x=({ c9 with misuse:=c9.misuse+1 },6) by rw [HRD0.out,if_pos HMK.out];exact HOF.out)
   clear he4 hc4 HRD0
   go_wp2_with fail
   go_ret
   rw [HRD2.out]
   exact ⟨G4++(G++[(t,.cells #[.int .i64 ma,.int .i64 0,.int .i64 mb,.int .u8 (mf.toNat:Int)] 48)]),_,H4,He4,rfl,HE4.out,HC4.out,hH4.p,hG3.trans hg4⟩
 ·obtain ⟨b9,s9,rfl,_⟩:=isErrP8 he he0
  have HRD2:=Lib.hid (show c.erase k x=(c9,ec) by rw [HRD.out,if_pos he0])
  have HE:=Lib.hid he
  clear he HRD he0 hH1
  go_wp2_with fail
  go_ret
  rw [HRD2.out]
  exact ⟨G++[(w1.heap.size,.cells #[.int .i64 ma,.int .i64 mk,.int .i64 mb,.int .u8 (mf.toNat:Int)] 48)],_,H1,He,rfl,HE.out,HC1.out,HHA.out.p,hGA⟩
end
end Go.Proofs.YtoelopghilbfeaaGreat
