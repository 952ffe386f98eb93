/-
  Lemmas.
-/
import Derived.Test.YtalnifciidblkaaGreatDoorWL17S
namespace Go.Proofs.YtalnifciidblkaaGreatDoor
open _root_.Go.Proofs.Tryz
open Go.RowKit
set_option linter.unusedSimpArgs false
set_option linter.unusedVariables false
set_option maxRecDepth 100000
set_option maxHeartbeats 8000000
section
variable{s:SM}{c:CM}{nm:List UInt8}{N:Int}
end
end Go.Proofs.YtalnifciidblkaaGreatDoor
