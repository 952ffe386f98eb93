/-
  What the arguments that come in are, for the walks.
-/
import Derived.Test.YteaeahhjkagbdaaRows
import Derived.Test.YteaeahhjkagbdaaMem
import Derived.WalkKit
import Derived.ProofKit
import Derived.OpenShut
import Derived.ShutString
import Derived.ChangeOld
import Derived.Below
namespace Go.Proofs.Yteaeahhjkagbdaa
open Go.ChangeShapes Go.WideShapes Go.ChangeAt Go.RowKit

theorem own : ownKnob Try.prog.godebug = none := by kernel_rfl
theorem laidOut : laidOutB Try.prog = true := by kernel_rfl
end Go.Proofs.Yteaeahhjkagbdaa
