/-
  cmp.Less: the worked walk of the kit (toy So, at int), turned to uint64.
-/
import Derived.Test.YtinfbpldgobmfaaProg
import Derived.Sort.Walk0
import Derived.Sort.WalkB12
namespace Go.Proofs.Ytinfbpldgobmfaa
open Go.RowKit Go.Sort
set_option linter.unusedVariables false
set_option linter.unusedSimpArgs false

abbrev encU : Int → Value := fun x => Value.int .u64 x
set_option maxHeartbeats 1000000 in
theorem U64.cmp_isNaN_int (x : Int) (w : World) : Calls Try.prog 103 #[.int .u64 x] w fun e w' => e = .returned (.bool false) ∧ w' = w := by
  go_enter Try.func103, Try.ntmps103
  go_wp2
  go_ret
  exact ⟨by simp, rfl⟩

set_option maxHeartbeats 1000000 in
theorem U64.cmp_Less_int (x y : Int) (w : World) : Calls Try.prog 85 #[.int .u64 x, .int .u64 y] w fun e w' => e = .returned (.bool (Sort.ltInt x y)) ∧ w' = w := by
  go_enter Try.func85, Try.ntmps85
  go_wp2_with (go_at_call 103; refine (U64.cmp_isNaN_int _ _).mono ?_; rintro e w' ⟨rfl, rfl⟩)
  go_ret
  exact ⟨rfl, rfl⟩


end Go.Proofs.Ytinfbpldgobmfaa
