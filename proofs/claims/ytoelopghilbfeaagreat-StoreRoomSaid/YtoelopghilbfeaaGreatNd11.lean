/-
  Package nand: Program and Erase whatever befalls; Mark.
-/
import Derived.Test.YtoelopghilbfeaaGreatNd9p01
import Derived.Test.YtoelopghilbfeaaGreatNd9p10
import Derived.Test.YtoelopghilbfeaaGreatNd9p11
import Derived.Test.YtoelopghilbfeaaGreatNd9p20
import Derived.Test.YtoelopghilbfeaaGreatNd9p21
import Derived.Test.YtoelopghilbfeaaGreatNd10p01
import Derived.Test.YtoelopghilbfeaaGreatNd10p10
import Derived.Test.YtoelopghilbfeaaGreatNd10p11
import Derived.Test.YtoelopghilbfeaaGreatNd10p20
import Derived.Test.YtoelopghilbfeaaGreatNd10p21
namespace Go.Proofs.YtoelopghilbfeaaGreat
open Go.RowKit
set_option linter.unusedSimpArgs false
set_option linter.unusedVariables false
theorem prog_prog0 {c:CM} {k:Nat} {x:CB} {p:Int} {raw:List UInt8} (hf:x.failed=false) (hk:c.mi.kind=0) (hrl:raw.length=c.Z+28) (hpl:∀ q∈x.pages,q.length=c.Z+28):c.prog k x p raw=c.prog0 k x p raw:=by
 unfold CM.prog CM.prog0
 rcases beg_cases c (decide (0≤p∧p≤(c.P:Int) - 1)) with ⟨h1,_⟩ | ⟨h1,_⟩
 ·simp only [h1,ne_eq,not_false_eq_true,if_true]
 ·simp only [h1,ne_eq,not_true,if_false]
  by_cases hm:x.mark=true∨p≠x.next
  ·rw [if_pos hm,if_pos hm]
   unfold CM.ord
   rw [if_neg (by decide),if_neg (by rw [hk];decide)]
  ·rw [if_neg hm,if_neg hm]
   unfold progEnd
   rw [if_neg (by rw [hk];decide),if_neg (by rw [hk,hf];decide)]
   have h2:progMany c.mi x raw.length=raw.length:=by unfold progMany;rw [if_neg (by rw [hf];decide),if_neg (by rw [hk];decide),if_neg (by rw [hk];decide)]
   have h3:(x.pages.getD p.toNat []).drop raw.length=[]:=by
    apply List.drop_eq_nil_of_le
    by_cases hi:p.toNat<x.pages.length
    ·have hgd:x.pages.getD p.toNat []=x.pages[p.toNat]:=by simp [List.getD,hi]
     rw [hgd,hpl _ (List.getElem_mem _),hrl];exact Nat.le_refl _
    ·have hgd:x.pages.getD p.toNat []=[]:=by simp [List.getD,Nat.le_of_not_lt hi]
     rw [hgd];simp
   rw [h2]
   unfold CB.put
   rw [h3,List.take_length,List.append_nil]
theorem erase_erase0 {c:CM} {k:Nat} {x:CB} (hf:x.failed=false) (hk:c.mi.kind=0):c.erase k x=c.erase0 k x:=by
 unfold CM.erase CM.erase0
 rcases beg_cases c true with ⟨h1,_⟩ | ⟨h1,_⟩
 ·simp only [h1,ne_eq,not_false_eq_true,if_true]
 ·simp only [h1,ne_eq,not_true,if_false]
  by_cases hm:x.mark=true
  ·rw [if_pos hm,if_pos hm]
   unfold CM.ord
   rw [if_neg (by decide),if_neg (by rw [hk];decide)]
  ·rw [if_neg hm,if_neg hm]
   unfold eraseEnd
   rw [if_neg (by rw [hk];decide),if_neg (by rw [hk,hf];decide)]
section
variable {b g cap:Nat} {mv:Value} {c:CM} {H Fr:HL} {w:World}
theorem nprogram_full (k:Nat) (x:CB) (p:Int) (rv:Value) (raw:List UInt8) (h:ChipAt b g cap mv c H) (hH:Holds w (H++Fr)) (hops:c.ops<1000000000000) (hx:c.blocks[k]?=some x)
  (hraw:FrBytes Fr rv raw) (hrl:raw.length=c.Z+28) :
  Calls Tryz.prog 49 #[.pointer (some ⟨b,0,none⟩),.int .i64 (k:Int),.int .i64 p,rv] w (RetChG b g cap mv (c.prog k x p raw) w Fr):=by
 cases hf:x.failed
 ·rcases (CM.mi_bd h.cok).1 with h0 | h1 | h2
  ·rw [prog_prog0 hf h0 hrl (h.cok.2.2.2.2.2.2.2.2.2.2.2.2.2 x (List.mem_of_getElem? hx)).2.1]
   exact nprogram_any k x p rv raw h hH hops hx hf h0 hraw hrl
  ·exact nprogram_10 k x p rv raw h hH hops hx hf h1 hraw hrl
  ·exact nprogram_20 k x p rv raw h hH hops hx hf h2 hraw hrl
 ·rcases (CM.mi_bd h.cok).1 with h0 | h1 | h2
  ·exact nprogram_01 k x p rv raw h hH hops hx hf h0 hraw hrl
  ·exact nprogram_11 k x p rv raw h hH hops hx hf h1 hraw hrl
  ·exact nprogram_21 k x p rv raw h hH hops hx hf h2 hraw hrl
theorem nerase_full (k:Nat) (x:CB) (h:ChipAt b g cap mv c H) (hH:Holds w (H++Fr)) (hops:c.ops<1000000000000) (hx:c.blocks[k]?=some x) :
  Calls Tryz.prog 83 #[.pointer (some ⟨b,0,none⟩),.int .i64 (k:Int)] w (RetChG b g cap mv (c.erase k x) w Fr):=by
 cases hf:x.failed
 ·rcases (CM.mi_bd h.cok).1 with h0 | h1 | h2
  ·rw [erase_erase0 hf h0]
   exact nerase_any k x h hH hops hx hf h0
  ·exact nerase_10 k x h hH hops hx hf h1
  ·exact nerase_20 k x h hH hops hx hf h2
 ·rcases (CM.mi_bd h.cok).1 with h0 | h1 | h2
  ·exact nerase_01 k x h hH hops hx hf h0
  ·exact nerase_11 k x h hH hops hx hf h1
  ·exact nerase_21 k x h hH hops hx hf h2
def CM.markE (c:CM) (k:Nat) (x:CB):CM × Int :=
 let r:=c.beg true
 if r.2.2≠0 then (r.1,r.2.2) else if r.2.1.kind=2 then ({ r.1 with on:=false },4) else (r.1.setB k { x with mark:=true },0)
set_option maxRecDepth 20000 in
set_option maxHeartbeats 2000000 in
theorem nmark_any (k:Nat) (x:CB) (h:ChipAt b g cap mv c H) (hH:Holds w (H++Fr)) (hops:c.ops<1000000000000) (hx:c.blocks[k]?=some x) :
  Calls Tryz.prog 92 #[.pointer (some ⟨b,0,none⟩),.int .i64 (k:Int)] w (RetChG b g cap mv (c.markE k x) w Fr):=by
 have hth:c.there (k:Int)=true:=by have:=(List.getElem?_eq_some_iff.1 hx).1;unfold CM.there;exact decide_eq_true (by omega)
 have HT:=Lib.hid (nthere_any (w:=w) (k:Int) h hH)
 rw [hth] at HT
 clear hth
 have h32:=h.cok.2.2.2.2.2.1
 have hcap:=h.caps
 unfold maxLen at hcap
 have hbg:=nbegin_any (w:=w) true h hH (by omega)
 have hrd:c.markE k x=if (c.beg true).2.2≠0 then ((c.beg true).1,(c.beg true).2.2) else if (c.beg true).2.1.kind=2 then ({ (c.beg true).1 with on:=false },4) else ((c.beg true).1.setB k { x with mark:=true },0):=rfl
 have k1:=err_ne
 have k2:=nil_ne
 have HX:=Lib.hid hx
 have hbc:=beg_cases8 c true
 obtain ⟨⟨c9,⟨ma,mk,mb,mf⟩,ec⟩,hr9⟩:∃ r,r=c.beg true:=⟨_,rfl⟩
 rw [← hr9] at hbc hrd hbg
 simp only at hbc hrd
 have HBC:=Lib.hid hbc
 have HB9:=Lib.hid hbg
 have HRD:=Lib.hid hrd
 clear h hx hrd hbc hbg hr9
 go_enter Tryz.func92,Tryz.ntmps92
 go_wp2_with fail
 refine HT.out.mono ?_
 rintro e wx ⟨rfl,rfl⟩
 clear HT
 go_wp2_with fail
 refine HB9.out.mono ?_
 rintro e w1 ⟨ve,H1,He,G,rfl,he,hc1,hH1,hg1⟩
 simp only [Mi.agg,cellB] at he hc1 hH1 ⊢
 have HC1:=Lib.hid hc1
 have HHA:=Lib.hid (hH1.alloc (.cells #[.int .i64 ma,.int .i64 mk,.int .i64 mb,.int .u8 (mf.toNat:Int)] 48))
 have hGA:=hg1.alloc (.cells #[.int .i64 ma,.int .i64 mk,.int .i64 mb,.int .u8 (mf.toNat:Int)] 48)
 clear hc1
 by_cases he0:ec=0
 ·subst he0
  obtain ⟨rfl,rfl⟩:=isErr0 he
  obtain ⟨h9,_,hon⟩:(c9,(⟨ma,mk,mb,mf⟩:Mi),(0:Int))=({ c with ops:=c.ops+1 },c.mi,0)∧True∧c.on=true:=by
   rcases HBC.out with ⟨h1,_⟩ | ⟨h1,_,h3⟩
   ·exact absurd rfl h1
   ·exact ⟨h1,trivial,h3⟩
  injection h9 with h9 h9m
  have HX9:=Lib.hid (show c9.blocks[k]?=some x by rw [h9];exact HX.out)
  have hHB:Holds (w1.alloc (.cells #[.int .i64 ma,.int .i64 mk,.int .i64 mb,.int .u8 (mf.toNat:Int)] 48)) (H1++(G++((w1.heap.size,.cells #[.int .i64 ma,.int .i64 mk,.int .i64 mb,.int .u8 (mf.toNat:Int)] 48)::Fr))):=HHA.out.p
  have d3:=(HC1.out.heads hHB).2.2.2.1
  have hbl9:c9.blocks.length=c.blocks.length:=by rw [h9]
  rw [hbl9] at d3
  have hkl:k<c.blocks.length:=(List.getElem?_eq_some_iff.1 HX.out).1
  obtain ⟨z0,z1,z2,z3,_⟩:=HHA.out.get4
  have HRD0:=Lib.hid (show c.markE k x=if mk=2 then ({ c9 with on:=false },4) else (c9.setB k { x with mark:=true },0) by rw [HRD.out,if_neg (by simp)])
  clear he HHA hH1 h9 h9m hon HRD
  by_cases hk2:mk=2
  ·subst hk2
   have HRD2:=Lib.hid (show c.markE k x=({ c9 with on:=false },4) by rw [HRD0.out,if_pos rfl])
   have HDK:=Lib.hid (ndark_any HC1.out hHB)
   clear hHB HRD0
   go_wp2_with fail
   refine HDK.out.mono ?_
   rintro e w9 ⟨ve9,H9,He9,rfl,he9,hc9,hH9,hg9⟩
   have HE9:=Lib.hid he9
   have HC9:=Lib.hid hc9
   clear he9 hc9
   go_wp2_with fail
   go_ret
   rw [HRD2.out]
   exact ⟨G++[(w1.heap.size,.cells #[.int .i64 ma,.int .i64 2,.int .i64 mb,.int .u8 (mf.toNat:Int)] 48)],_,H9,He9,rfl,HE9.out,HC9.out,hH9.p,hGA.trans hg9⟩
  ·have hk2':(mk == 2)=false:=by simpa using hk2
   have HRD2:=Lib.hid (show c.markE k x=(c9.setB k { x with mark:=true },0) by rw [HRD0.out,if_neg hk2])
   obtain ⟨pv,hB⟩:=HC1.out.open_ HX9.out
   have d4:=(hB.cells _ _ hHB).2.2.2.2.1
   have f4:=(hB.cells _ _ hHB).2.2.2.2.2.2.2.2.2
   obtain ⟨H9,hc9,hH9⟩:=hB.setM _ _ true hHB
   have HC9:=Lib.hid hc9
   have HH9:=Lib.hid hH9
   have hG9:=hGA.setCell ⟨g,k * 5+4,none⟩ (.bool true)
   clear hB hc9 hH9 hHB HRD0 hk2
   go_wp2_with fail
   go_ret
   rw [HRD2.out]
   exact ⟨G++[(w1.heap.size,.cells #[.int .i64 ma,.int .i64 mk,.int .i64 mb,.int .u8 (mf.toNat:Int)] 48)],.nilIface,H9,[],rfl,IsErr.none,HC9.out,HH9.out.p,hG9⟩
 ·obtain ⟨b9,s9,rfl,_⟩:=isErrP8 he he0
  have HRD2:=Lib.hid (show c.markE k x=(c9,ec) by rw [HRD.out,if_pos he0])
  have HE:=Lib.hid he
  clear he HRD he0 hH1
  go_wp2_with fail
  go_ret
  rw [HRD2.out]
  exact ⟨G++[(w1.heap.size,.cells #[.int .i64 ma,.int .i64 mk,.int .i64 mb,.int .u8 (mf.toNat:Int)] 48)],_,H1,He,rfl,HE.out,HC1.out,HHA.out.p,hGA⟩
end
end Go.Proofs.YtoelopghilbfeaaGreat
