/-
  cmp.Less: the worked walk of the kit (toy So, at int), turned to uint64.
-/
import Derived.Test.YtnophehonkojaaaProg
import Derived.Sort.Walk0
import Derived.Sort.WalkB12
namespace Go.Proofs.Ytnophehonkojaaa
open Go.RowKit Go.Sort
set_option linter.unusedVariables false
set_option linter.unusedSimpArgs false

abbrev encU : Int → Value := fun x => Value.int .u64 x
set_option maxHeartbeats 1000000 in
theorem U64.cmp_isNaN_int (x : Int) (w : World) : Calls Try.prog 41 #[.int .u64 x] w fun e w' => e = .returned (.bool false) ∧ w' = w := by
  go_enter Try.func41, Try.ntmps41
  go_wp2
  go_ret
  exact ⟨by simp, rfl⟩

end Go.Proofs.Ytnophehonkojaaa
