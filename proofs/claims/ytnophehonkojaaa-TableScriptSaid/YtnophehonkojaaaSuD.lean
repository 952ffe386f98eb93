/-
  order2Ordered, medianOrdered, medianAdjacentOrdered: the worked walk of the kit (toy So, at int), turned to uint64.
-/
import Derived.Test.YtnophehonkojaaaProg
import Derived.Test.YtnophehonkojaaaSu0
import Derived.Sort.WalkD2
namespace Go.Proofs.Ytnophehonkojaaa
open Go.RowKit Go.Sort
set_option linter.unusedVariables false
set_option linter.unusedSimpArgs false

theorem holds_asideU {w : World} {blk off sb so n t : Nat} {d : Array Int} (h : Holds (Value.int .u64) w blk off d) (hne : sb ≠ blk) : Holds (Value.int .u64) (putRow (Value.int .i64) (Sort.ahead w n) sb so (one t)) blk off d := fun j hj =>
  ⟨by rw [cell?_putRow_other _ _ _ _ _ _ (Or.inl (Ne.symm hne))]; exact (h j hj).1, by rw [frozen?_putRow]; exact (h j hj).2⟩

end Go.Proofs.Ytnophehonkojaaa
