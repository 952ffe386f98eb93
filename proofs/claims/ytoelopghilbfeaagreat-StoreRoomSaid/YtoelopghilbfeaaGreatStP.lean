/-
  Package store, plain: a chip without pages.
-/
import Derived.Test.YtoelopghilbfeaaGreatL16A
import Derived.Test.YtoelopghilbfeaaGreatHd4
import Derived.Test.YtoelopghilbfeaaGreatNd4
namespace Go.Proofs.YtoelopghilbfeaaGreat
open Go.RowKit
set_option linter.unusedSimpArgs false
set_option linter.unusedVariables false
theorem lookI_blank {s:SM} {c:CM} {k:Int} (h1:c.nextOf k=0) (h2:c.markOf k=false):lookI s c k=(s,c,0):=by
 have hA:lookA s c k=(s,c,0):=by unfold lookA;rw [if_neg (by omega)]
 unfold lookI
 rw [hA,if_neg (by simp)]
 unfold lookB
 rw [if_neg (by simp [h2])]
theorem lookAll_blank {c:CM} (h:∀ k:Nat,c.nextOf k=0∧c.markOf k=false) (n:Nat):∀ (k:Nat) (s:SM),lookAll n k s c=(s,c,0):=by
 induction n with
 |zero=>intro k s;rfl
 |succ n ih =>
  intro k s
  rw [lookAll,lookI_blank (h k).1 (h k).2,if_neg (by simp)]
  exact ih (k+1) s
theorem newS_blank {c:CM} (h:∀ k:Nat,c.nextOf k=0∧c.markOf k=false):newS c=(SM.fresh c.blocks.length c.P c.Z,c,0):=lookAll_blank h _ _ _
theorem new_blk {B P Z:Nat} {marks:List Int} {ms:List Mi} {k:Int} {x:CB} (h:(CM.new B P Z marks ms).blk k=some x):x=CB.new P Z (marks.contains k):=by
 obtain ⟨i,rfl,hi,hx,_⟩:=CM.blk_some h
 have hi2:i<B:=by simpa [CM.new] using hi
 have h2:(CM.new B P Z marks ms).blocks[i]?=some (CB.new P Z (marks.contains (i:Int))):=by
  show ((List.range B).map fun k:Nat=>CB.new P Z (marks.contains (k:Int)))[i]?=_
  rw [List.getElem?_map,List.getElem?_range hi2]
  rfl
 rw [h2] at hx
 injection hx with hx
 exact hx.symm
theorem new_next (B P Z:Nat) (marks:List Int) (ms:List Mi) (k:Int):(CM.new B P Z marks ms).nextOf k=0:=by
 unfold CM.nextOf
 cases h:(CM.new B P Z marks ms).blk k with
 |none=>rfl
 |some x=>rw [new_blk h];rfl
theorem new_mark0 (B P Z:Nat) (ms:List Mi) (k:Int):(CM.new B P Z [] ms).markOf k=false:=by
 unfold CM.markOf
 cases h:(CM.new B P Z [] ms).blk k with
 |none=>rfl
 |some x=>rw [new_blk h];rfl
end Go.Proofs.YtoelopghilbfeaaGreat
