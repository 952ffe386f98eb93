/-
  Chapter 16, plain: a new model over a new store.
-/
import Derived.Test.YtoelopghilbfeaaGreatMo6
namespace Go.Proofs.YtoelopghilbfeaaGreat
open Go.RowKit
set_option linter.unusedSimpArgs false
set_option linter.unusedVariables false
theorem newPlan (marks:List Int) (ms:List Mi):planB ((CM.new 16 4 128 marks ms).blocks.length:Int) (CM.new 16 4 128 marks ms).P (CM.new 16 4 128 marks ms).Z=true:=by
 have e:(CM.new 16 4 128 marks ms).blocks.length=(CM.new 16 4 128 [] []).blocks.length:=by simp [CM.new]
 rw [e]
 exact aw_plan'
theorem scI_new (marks:List Int) (ms:List Mi) :
  (newS (CM.new 16 4 128 marks ms)).2=(CM.new 16 4 128 marks ms,0)∧ScI (fun _=>Pg.zero) 0 (newS (CM.new 16 4 128 marks ms)).1 (CM.new 16 4 128 marks ms):=by
 obtain ⟨h1,h2,h3,h4,h5,h6⟩:=new_start marks ms (newPlan marks ms)
 refine ⟨h1,h2,h5,rfl,fun _=>h3,fun n hn=>?_,fun n v hn hv=>?_,fun _ n hn _=>?_,fun n=>Int.le_refl _⟩
 ·exact absurd (show false=true from hn) (by simp)
 ·exfalso
  have hz:(CM.new 16 4 128 marks ms).vAt (n / 4) (n % 4)=none:=by
   cases hb:(CM.new 16 4 128 marks ms).blocks[n / 4]? with
   |none=>exact vAt_none hb _
   |some x =>
    rw [vAt_of hb]
    obtain ⟨_,rfl⟩:=new_at hb
    exact pgV_rep 4 156 255 _ rfl (by omega) _
  rw [hz] at hv
  exact absurd hv (by simp)
 ·have:=h6 (n / 4) (n % 4) (by omega) (by omega)
  have e:((n / 4:Nat):Int) * 4+(n % 4:Nat)=n:=by omega
  rw [e] at this
  exact this
end Go.Proofs.YtoelopghilbfeaaGreat
