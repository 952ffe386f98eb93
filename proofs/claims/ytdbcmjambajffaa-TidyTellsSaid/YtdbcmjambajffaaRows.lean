/-
  No cell of these rows narrows 'for every input' (looked for: loops, veiled, ifaces, maps, wideKeys, modest, calm, conditions, laid).
  DERIVED. THE GIVEN ROWS OF THIS SEAT. 4 by the template 'for every input the law returns true; each argument reads behind the call as it read before'; 0 by the template 'total and deterministic' (their statements: YtdbcmjambajffaaTotals.lean).
  GIVEN WITH THE SEED: the statements are not yours to turn. If you find one false, say at which input.
  Laid BY PROGRAM, IN A SANDBOX (cutbox-rows.mjs): the forced cells as the released guide's own fill.sh prints them over the translation a467120f5354a0f6… (all of the seat's roots in one cut). By AI agents, Wed Nov 11 2026. No macro, syntax, notation, axiom, sorry.
-/
import Derived.Test.YtdbcmjambajffaaChecked
import GoSem.Claim
import GoSem.ClaimJoined
import GoSem.ClaimMapViews
import Derived.JoinedTies
import Derived.KernelRfl
namespace Go.Proofs.Ytdbcmjambajffaa
/- THE CELL 'sum', in the pinned program and in every row, IS THE sha256 OF THE DUMP (.gsa) THAT YtdbcmjambajffaaProg.lean LOADS. Nothing in Lean hashes anything: it is a label: what it is worth is what the hold of that sum in a sandbox is worth. -/
noncomputable def Try.pinned : Pinned := { name := "ytdbcmjambajffaa", sum := "a467120f5354a0f650a685514b74837b862a024aeec2e4751380b03afb4c8b71", checked := Try.checked }
namespace Rows
def none {H : Type} : Left H := { results := [], args := [] }

/-- 'scullerylaw22.TidyTells': WHATEVER THE INPUT: true; the input reads as it did. -/
def tidyTellsSpec : ChangeSpec := { name := "tidyTells", fn := fun _ => fun
  | [d1, d2, d3, d4, d5, d6] => { results := [.lit (.bool true)], args := [d1, d2, d3, d4, d5, d6] }
  | _ => none }
def tidyTellsRow : OpenClaim := { program := "ytdbcmjambajffaa", sum := "a467120f5354a0f650a685514b74837b862a024aeec2e4751380b03afb4c8b71", func := "scullery/scullerylaw22.TidyTells", spec := "tidyTells", recurses := true, apart := false }
def TidyTellsSaid : Prop := tidyTellsRow.holds Try.pinned (OpenSpec.ofChange tidyTellsSpec)

/-- ITS FALSE NEIGHBOUR: 'it returns false'. Refute it at one input. -/
def tidyTellsWrong : ChangeSpec := { name := "tidyTells", fn := fun _ => fun
  | [d1, d2, d3, d4, d5, d6] => { results := [.lit (.bool false)], args := [d1, d2, d3, d4, d5, d6] }
  | _ => none }
def TidyTellsWrongFalsely : Prop := tidyTellsRow.holds Try.pinned (OpenSpec.ofChange tidyTellsWrong)

/-- 'scullerylaw22.TidyRounds': WHATEVER THE INPUT: true; the input reads as it did. -/
def tidyRoundsSpec : ChangeSpec := { name := "tidyRounds", fn := fun _ => fun
  | [d1, d2, d3] => { results := [.lit (.bool true)], args := [d1, d2, d3] }
  | _ => none }
def tidyRoundsRow : OpenClaim := { program := "ytdbcmjambajffaa", sum := "a467120f5354a0f650a685514b74837b862a024aeec2e4751380b03afb4c8b71", func := "scullery/scullerylaw22.TidyRounds", spec := "tidyRounds", recurses := true, apart := false }
def TidyRoundsSaid : Prop := tidyRoundsRow.holds Try.pinned (OpenSpec.ofChange tidyRoundsSpec)

/-- ITS FALSE NEIGHBOUR: 'it returns false'. Refute it at one input. -/
def tidyRoundsWrong : ChangeSpec := { name := "tidyRounds", fn := fun _ => fun
  | [d1, d2, d3] => { results := [.lit (.bool false)], args := [d1, d2, d3] }
  | _ => none }
def TidyRoundsWrongFalsely : Prop := tidyRoundsRow.holds Try.pinned (OpenSpec.ofChange tidyRoundsWrong)

/-- 'scullerylaw22.TidyOver': WHATEVER THE INPUT: true; the input reads as it did. -/
def tidyOverSpec : ChangeSpec := { name := "tidyOver", fn := fun _ => fun
  | [d1, d2, d3] => { results := [.lit (.bool true)], args := [d1, d2, d3] }
  | _ => none }
def tidyOverRow : OpenClaim := { program := "ytdbcmjambajffaa", sum := "a467120f5354a0f650a685514b74837b862a024aeec2e4751380b03afb4c8b71", func := "scullery/scullerylaw22.TidyOver", spec := "tidyOver", recurses := true, apart := false }
def TidyOverSaid : Prop := tidyOverRow.holds Try.pinned (OpenSpec.ofChange tidyOverSpec)

/-- ITS FALSE NEIGHBOUR: 'it returns false'. Refute it at one input. -/
def tidyOverWrong : ChangeSpec := { name := "tidyOver", fn := fun _ => fun
  | [d1, d2, d3] => { results := [.lit (.bool false)], args := [d1, d2, d3] }
  | _ => none }
def TidyOverWrongFalsely : Prop := tidyOverRow.holds Try.pinned (OpenSpec.ofChange tidyOverWrong)

/-- 'scullerylaw22.TidyRuns': WHATEVER THE INPUT: true; the input reads as it did. -/
def tidyRunsSpec : ChangeSpec := { name := "tidyRuns", fn := fun _ => fun
  | [d1, d2] => { results := [.lit (.bool true)], args := [d1, d2] }
  | _ => none }
def tidyRunsRow : OpenClaim := { program := "ytdbcmjambajffaa", sum := "a467120f5354a0f650a685514b74837b862a024aeec2e4751380b03afb4c8b71", func := "scullery/scullerylaw22.TidyRuns", spec := "tidyRuns", recurses := true, apart := false }
def TidyRunsSaid : Prop := tidyRunsRow.holds Try.pinned (OpenSpec.ofChange tidyRunsSpec)

/-- ITS FALSE NEIGHBOUR: 'it returns false'. Refute it at one input. -/
def tidyRunsWrong : ChangeSpec := { name := "tidyRuns", fn := fun _ => fun
  | [d1, d2] => { results := [.lit (.bool false)], args := [d1, d2] }
  | _ => none }
def TidyRunsWrongFalsely : Prop := tidyRunsRow.holds Try.pinned (OpenSpec.ofChange tidyRunsWrong)

/- THE SECOND FORM. 'bulk': how many values and letters a reading holds, each counted each time it is reached (what is shared counts as often as it is met; a slice's spare places count too). A statement '..UptoSaid' is the law's where the arguments, and the package variables that the reading takes, are together of bulk at most 1048576: NARROWER than '..Said'. Prove '..Said' where nothing that the law and all that it calls make is longer than what came in: it says more and counts as full. Else prove '..UptoSaid'. A law counts once. -/
mutual
def uptoBulk {H : Type} : DataW H → Nat
  | .lit (.string bytes) => bytes.length + 1
  | .lit _ => 1
  | .nil => 1
  | .ptr d => uptoBulk d + 1
  | .slice elems spare => uptoBulkAll elems + uptoBulkAll spare + 1
  | .agg parts => uptoBulkAll parts + 1
  | .iface _ d => uptoBulk d + 1
  | .map entries => uptoBulkEntries entries + 1
  | .held _ => 1
def uptoBulkAll {H : Type} : List (DataW H) → Nat
  | [] => 0
  | d :: r => uptoBulk d + uptoBulkAll r
def uptoBulkEntries {H : Type} : List (Lit × DataW H) → Nat
  | [] => 0
  | x :: r => uptoBulkEntry x + uptoBulkEntries r
def uptoBulkEntry {H : Type} : Lit × DataW H → Nat
  | (.string bytes, d) => bytes.length + uptoBulk d + 1
  | (_, d) => uptoBulk d + 1
 end
def uptoSmall : (H : Type) → List (DataW H) → Bool := fun _ ds => decide (uptoBulkAll ds ≤ 1048576)
def OpenSpec.upto (s : _root_.Go.ChangeSpec) : _root_.Go.OpenSpec := { _root_.Go.OpenSpec.ofChange s with cond := some uptoSmall }

/-- 'scullerylaw22.TidyTells', WHERE WHAT IT READS IS OF BULK AT MOST 1048576: true; the input reads as it did. -/
def tidyTellsUptoRow : OpenClaim := { program := "ytdbcmjambajffaa", sum := "a467120f5354a0f650a685514b74837b862a024aeec2e4751380b03afb4c8b71", func := "scullery/scullerylaw22.TidyTells", spec := "tidyTells", recurses := true, apart := false, narrowed := true }
def TidyTellsUptoSaid : Prop := tidyTellsUptoRow.holds Try.pinned (OpenSpec.upto tidyTellsSpec)

/-- 'scullerylaw22.TidyRounds', WHERE WHAT IT READS IS OF BULK AT MOST 1048576: true; the input reads as it did. -/
def tidyRoundsUptoRow : OpenClaim := { program := "ytdbcmjambajffaa", sum := "a467120f5354a0f650a685514b74837b862a024aeec2e4751380b03afb4c8b71", func := "scullery/scullerylaw22.TidyRounds", spec := "tidyRounds", recurses := true, apart := false, narrowed := true }
def TidyRoundsUptoSaid : Prop := tidyRoundsUptoRow.holds Try.pinned (OpenSpec.upto tidyRoundsSpec)

/-- 'scullerylaw22.TidyOver', WHERE WHAT IT READS IS OF BULK AT MOST 1048576: true; the input reads as it did. -/
def tidyOverUptoRow : OpenClaim := { program := "ytdbcmjambajffaa", sum := "a467120f5354a0f650a685514b74837b862a024aeec2e4751380b03afb4c8b71", func := "scullery/scullerylaw22.TidyOver", spec := "tidyOver", recurses := true, apart := false, narrowed := true }
def TidyOverUptoSaid : Prop := tidyOverUptoRow.holds Try.pinned (OpenSpec.upto tidyOverSpec)

/-- 'scullerylaw22.TidyRuns', WHERE WHAT IT READS IS OF BULK AT MOST 1048576: true; the input reads as it did. -/
def tidyRunsUptoRow : OpenClaim := { program := "ytdbcmjambajffaa", sum := "a467120f5354a0f650a685514b74837b862a024aeec2e4751380b03afb4c8b71", func := "scullery/scullerylaw22.TidyRuns", spec := "tidyRuns", recurses := true, apart := false, narrowed := true }
def TidyRunsUptoSaid : Prop := tidyRunsUptoRow.holds Try.pinned (OpenSpec.upto tidyRunsSpec)

end Rows
end Go.Proofs.Ytdbcmjambajffaa
