/-
  Lemmas.
-/
import Derived.Test.YtalnifciidblkaaGreatDoorG23
import Derived.Test.YtalnifciidblkaaGreatDoorG32
import Derived.Test.YtalnifciidblkaaGreatDoorG28
namespace Go.Proofs.YtalnifciidblkaaGreatDoor
open _root_.Go.Proofs.Tryz
open Go.RowKit
set_option linter.unusedSimpArgs false
set_option linter.unusedVariables false
set_option maxRecDepth 100000
set_option maxHeartbeats 8000000
theorem mG{α β:Type}{x:α×β}{b:β}(h:x.2=b):x=(x.1,b):=by cases x;cases h;rfl
def aR:List UInt8:=[115,104,101,108,102]
theorem uj.nil:uj (.slice none 0 0) [] []:=⟨[],[],[],rfl,au.nil _ _,rfl,fun x hx=>absurd hx (by simp),fun w _ i h=>absurd h (by simp)⟩
end Go.Proofs.YtalnifciidblkaaGreatDoor
