/-
  No cell of these rows narrows 'for every input' (looked for: loops, veiled, ifaces, maps, wideKeys, modest, calm, conditions, laid).
  DERIVED. THE GIVEN ROWS OF THIS SEAT. 4 by the template 'for every input the law returns true; each argument reads behind the call as it read before'; 0 by the template 'total and deterministic' (their statements: YtndalabilfdgkaaTotals.lean).
  GIVEN WITH THE SEED: the statements are not yours to turn. If you find one false, say at which input.
  Laid BY PROGRAM, IN A SANDBOX (cutbox-rows.mjs): the forced cells as the released guide's own fill.sh prints them over the translation fd501a59b7e04863… (all of the seat's roots in one cut). By AI agents, Wed Nov 11 2026. No macro, syntax, notation, axiom, sorry.
-/
import Derived.Test.YtndalabilfdgkaaChecked
import GoSem.Claim
import GoSem.ClaimJoined
import GoSem.ClaimMapViews
import Derived.JoinedTies
import Derived.KernelRfl
namespace Go.Proofs.Ytndalabilfdgkaa
/- THE CELL 'sum', in the pinned program and in every row, IS THE sha256 OF THE DUMP (.gsa) THAT YtndalabilfdgkaaProg.lean LOADS. Nothing in Lean hashes anything: it is a label: what it is worth is what the hold of that sum in a sandbox is worth. -/
noncomputable def Try.pinned : Pinned := { name := "ytndalabilfdgkaa", sum := "fd501a59b7e04863b16aaef2fe9b1bf1e3a952c73b0a30fc9654ae19b051495e", checked := Try.checked }
namespace Rows
def none {H : Type} : Left H := { results := [], args := [] }

/-- 'scullerylaw8.NandKeeps': WHATEVER THE INPUT: true; the input reads as it did. -/
def nandKeepsSpec : ChangeSpec := { name := "nandKeeps", fn := fun _ => fun
  | [d1, d2] => { results := [.lit (.bool true)], args := [d1, d2] }
  | _ => none }
def nandKeepsRow : OpenClaim := { program := "ytndalabilfdgkaa", sum := "fd501a59b7e04863b16aaef2fe9b1bf1e3a952c73b0a30fc9654ae19b051495e", func := "scullery/scullerylaw8.NandKeeps", spec := "nandKeeps", inPlace := ["internal/bytealg.MakeNoZero"], unfollowed := true, recurses := true, apart := false }
def NandKeepsSaid : Prop := nandKeepsRow.holds Try.pinned (OpenSpec.ofChange nandKeepsSpec)

/-- ITS FALSE NEIGHBOUR: 'it returns false'. Refute it at one input. -/
def nandKeepsWrong : ChangeSpec := { name := "nandKeeps", fn := fun _ => fun
  | [d1, d2] => { results := [.lit (.bool false)], args := [d1, d2] }
  | _ => none }
def NandKeepsWrongFalsely : Prop := nandKeepsRow.holds Try.pinned (OpenSpec.ofChange nandKeepsWrong)

/-- 'scullerylaw8.NandOrder': WHATEVER THE INPUT: true; the input reads as it did. -/
def nandOrderSpec : ChangeSpec := { name := "nandOrder", fn := fun _ => fun
  | [d1, d2, d3] => { results := [.lit (.bool true)], args := [d1, d2, d3] }
  | _ => none }
def nandOrderRow : OpenClaim := { program := "ytndalabilfdgkaa", sum := "fd501a59b7e04863b16aaef2fe9b1bf1e3a952c73b0a30fc9654ae19b051495e", func := "scullery/scullerylaw8.NandOrder", spec := "nandOrder", inPlace := ["internal/bytealg.MakeNoZero"], unfollowed := true, recurses := true, apart := false }
def NandOrderSaid : Prop := nandOrderRow.holds Try.pinned (OpenSpec.ofChange nandOrderSpec)

/-- ITS FALSE NEIGHBOUR: 'it returns false'. Refute it at one input. -/
def nandOrderWrong : ChangeSpec := { name := "nandOrder", fn := fun _ => fun
  | [d1, d2, d3] => { results := [.lit (.bool false)], args := [d1, d2, d3] }
  | _ => none }
def NandOrderWrongFalsely : Prop := nandOrderRow.holds Try.pinned (OpenSpec.ofChange nandOrderWrong)

/-- 'scullerylaw8.NandDark': WHATEVER THE INPUT: true; the input reads as it did. -/
def nandDarkSpec : ChangeSpec := { name := "nandDark", fn := fun _ => fun
  | [d1, d2, d3, d4] => { results := [.lit (.bool true)], args := [d1, d2, d3, d4] }
  | _ => none }
def nandDarkRow : OpenClaim := { program := "ytndalabilfdgkaa", sum := "fd501a59b7e04863b16aaef2fe9b1bf1e3a952c73b0a30fc9654ae19b051495e", func := "scullery/scullerylaw8.NandDark", spec := "nandDark", inPlace := ["internal/bytealg.MakeNoZero"], unfollowed := true, recurses := true, apart := false }
def NandDarkSaid : Prop := nandDarkRow.holds Try.pinned (OpenSpec.ofChange nandDarkSpec)

/-- ITS FALSE NEIGHBOUR: 'it returns false'. Refute it at one input. -/
def nandDarkWrong : ChangeSpec := { name := "nandDark", fn := fun _ => fun
  | [d1, d2, d3, d4] => { results := [.lit (.bool false)], args := [d1, d2, d3, d4] }
  | _ => none }
def NandDarkWrongFalsely : Prop := nandDarkRow.holds Try.pinned (OpenSpec.ofChange nandDarkWrong)

/-- 'scullerylaw8.NandFails': WHATEVER THE INPUT: true; the input reads as it did. -/
def nandFailsSpec : ChangeSpec := { name := "nandFails", fn := fun _ => fun
  | [d1, d2, d3] => { results := [.lit (.bool true)], args := [d1, d2, d3] }
  | _ => none }
def nandFailsRow : OpenClaim := { program := "ytndalabilfdgkaa", sum := "fd501a59b7e04863b16aaef2fe9b1bf1e3a952c73b0a30fc9654ae19b051495e", func := "scullery/scullerylaw8.NandFails", spec := "nandFails", inPlace := ["internal/bytealg.MakeNoZero"], unfollowed := true, recurses := true, apart := false }
def NandFailsSaid : Prop := nandFailsRow.holds Try.pinned (OpenSpec.ofChange nandFailsSpec)

/-- ITS FALSE NEIGHBOUR: 'it returns false'. Refute it at one input. -/
def nandFailsWrong : ChangeSpec := { name := "nandFails", fn := fun _ => fun
  | [d1, d2, d3] => { results := [.lit (.bool false)], args := [d1, d2, d3] }
  | _ => none }
def NandFailsWrongFalsely : Prop := nandFailsRow.holds Try.pinned (OpenSpec.ofChange nandFailsWrong)

/- THE SECOND FORM. 'bulk': how many values and letters a reading holds, each counted each time it is reached (what is shared counts as often as it is met; a slice's spare places count too). A statement '..UptoSaid' is the law's where the arguments, and the package variables that the reading takes, are together of bulk at most 1048576: NARROWER than '..Said'. Prove '..Said' where nothing that the law and all that it calls make is longer than what came in: it says more and counts as full. Else prove '..UptoSaid'. A law counts once. -/
mutual
def uptoBulk {H : Type} : DataW H → Nat
  | .lit (.string bytes) => bytes.length + 1
  | .lit _ => 1
  | .nil => 1
  | .ptr d => uptoBulk d + 1
  | .slice elems spare => uptoBulkAll elems + uptoBulkAll spare + 1
  | .agg parts => uptoBulkAll parts + 1
  | .iface _ d => uptoBulk d + 1
  | .map entries => uptoBulkEntries entries + 1
  | .held _ => 1
def uptoBulkAll {H : Type} : List (DataW H) → Nat
  | [] => 0
  | d :: r => uptoBulk d + uptoBulkAll r
def uptoBulkEntries {H : Type} : List (Lit × DataW H) → Nat
  | [] => 0
  | x :: r => uptoBulkEntry x + uptoBulkEntries r
def uptoBulkEntry {H : Type} : Lit × DataW H → Nat
  | (.string bytes, d) => bytes.length + uptoBulk d + 1
  | (_, d) => uptoBulk d + 1
 end
def uptoSmall : (H : Type) → List (DataW H) → Bool := fun _ ds => decide (uptoBulkAll ds ≤ 1048576)
def OpenSpec.upto (s : _root_.Go.ChangeSpec) : _root_.Go.OpenSpec := { _root_.Go.OpenSpec.ofChange s with cond := some uptoSmall }

/-- 'scullerylaw8.NandKeeps', WHERE WHAT IT READS IS OF BULK AT MOST 1048576: true; the input reads as it did. -/
def nandKeepsUptoRow : OpenClaim := { program := "ytndalabilfdgkaa", sum := "fd501a59b7e04863b16aaef2fe9b1bf1e3a952c73b0a30fc9654ae19b051495e", func := "scullery/scullerylaw8.NandKeeps", spec := "nandKeeps", inPlace := ["internal/bytealg.MakeNoZero"], unfollowed := true, recurses := true, apart := false, narrowed := true }
def NandKeepsUptoSaid : Prop := nandKeepsUptoRow.holds Try.pinned (OpenSpec.upto nandKeepsSpec)

/-- 'scullerylaw8.NandOrder', WHERE WHAT IT READS IS OF BULK AT MOST 1048576: true; the input reads as it did. -/
def nandOrderUptoRow : OpenClaim := { program := "ytndalabilfdgkaa", sum := "fd501a59b7e04863b16aaef2fe9b1bf1e3a952c73b0a30fc9654ae19b051495e", func := "scullery/scullerylaw8.NandOrder", spec := "nandOrder", inPlace := ["internal/bytealg.MakeNoZero"], unfollowed := true, recurses := true, apart := false, narrowed := true }
def NandOrderUptoSaid : Prop := nandOrderUptoRow.holds Try.pinned (OpenSpec.upto nandOrderSpec)

/-- 'scullerylaw8.NandDark', WHERE WHAT IT READS IS OF BULK AT MOST 1048576: true; the input reads as it did. -/
def nandDarkUptoRow : OpenClaim := { program := "ytndalabilfdgkaa", sum := "fd501a59b7e04863b16aaef2fe9b1bf1e3a952c73b0a30fc9654ae19b051495e", func := "scullery/scullerylaw8.NandDark", spec := "nandDark", inPlace := ["internal/bytealg.MakeNoZero"], unfollowed := true, recurses := true, apart := false, narrowed := true }
def NandDarkUptoSaid : Prop := nandDarkUptoRow.holds Try.pinned (OpenSpec.upto nandDarkSpec)

/-- 'scullerylaw8.NandFails', WHERE WHAT IT READS IS OF BULK AT MOST 1048576: true; the input reads as it did. -/
def nandFailsUptoRow : OpenClaim := { program := "ytndalabilfdgkaa", sum := "fd501a59b7e04863b16aaef2fe9b1bf1e3a952c73b0a30fc9654ae19b051495e", func := "scullery/scullerylaw8.NandFails", spec := "nandFails", inPlace := ["internal/bytealg.MakeNoZero"], unfollowed := true, recurses := true, apart := false, narrowed := true }
def NandFailsUptoSaid : Prop := nandFailsUptoRow.holds Try.pinned (OpenSpec.upto nandFailsSpec)

end Rows
end Go.Proofs.Ytndalabilfdgkaa
