/-
  No cell of these rows narrows 'for every input' (looked for: loops, veiled, ifaces, maps, wideKeys, modest, calm, conditions, laid).
  DERIVED. THE GIVEN ROWS OF THIS SEAT. 5 by the template 'for every input the law returns true; each argument reads behind the call as it read before'; 0 by the template 'total and deterministic' (their statements: YtinfbpldgobmfaaTotals.lean).
  GIVEN WITH THE SEED: the statements are not yours to turn. If you find one false, say at which input.
  Laid BY PROGRAM, IN A SANDBOX (cutbox-rows.mjs): the forced cells as the released guide's own fill.sh prints them over the translation db6cfdb1d239b0ae… (all of the seat's roots in one cut). By AI agents, Wed Nov 11 2026. No macro, syntax, notation, axiom, sorry.
-/
import Derived.Test.YtinfbpldgobmfaaChecked
import GoSem.Claim
import GoSem.ClaimJoined
import GoSem.ClaimMapViews
import Derived.JoinedTies
import Derived.KernelRfl
namespace Go.Proofs.Ytinfbpldgobmfaa
/- THE CELL 'sum', in the pinned program and in every row, IS THE sha256 OF THE DUMP (.gsa) THAT YtinfbpldgobmfaaProg.lean LOADS. Nothing in Lean hashes anything: it is a label: what it is worth is what the hold of that sum in a sandbox is worth. -/
noncomputable def Try.pinned : Pinned := { name := "ytinfbpldgobmfaa", sum := "db6cfdb1d239b0ae2d5ec673c850f5a248ce3eb13c1b81a05ed80c4d34ba5b3a", checked := Try.checked }
namespace Rows
def none {H : Type} : Left H := { results := [], args := [] }

/-- 'scullerylaw18.IdealLists': WHATEVER THE INPUT: true; the input reads as it did. -/
def idealListsSpec : ChangeSpec := { name := "idealLists", fn := fun _ => fun
  | [d1, d2, d3] => { results := [.lit (.bool true)], args := [d1, d2, d3] }
  | _ => none }
def idealListsRow : OpenClaim := { program := "ytinfbpldgobmfaa", sum := "db6cfdb1d239b0ae2d5ec673c850f5a248ce3eb13c1b81a05ed80c4d34ba5b3a", func := "scullery/scullerylaw18.IdealLists", spec := "idealLists", unfollowed := true, recurses := true, apart := false }
def IdealListsSaid : Prop := idealListsRow.holds Try.pinned (OpenSpec.ofChange idealListsSpec)

/-- ITS FALSE NEIGHBOUR: 'it returns false'. Refute it at one input. -/
def idealListsWrong : ChangeSpec := { name := "idealLists", fn := fun _ => fun
  | [d1, d2, d3] => { results := [.lit (.bool false)], args := [d1, d2, d3] }
  | _ => none }
def IdealListsWrongFalsely : Prop := idealListsRow.holds Try.pinned (OpenSpec.ofChange idealListsWrong)

/-- 'scullerylaw18.IdealFixes': WHATEVER THE INPUT: true; the input reads as it did. -/
def idealFixesSpec : ChangeSpec := { name := "idealFixes", fn := fun _ => fun
  | [d1, d2, d3, d4] => { results := [.lit (.bool true)], args := [d1, d2, d3, d4] }
  | _ => none }
def idealFixesRow : OpenClaim := { program := "ytinfbpldgobmfaa", sum := "db6cfdb1d239b0ae2d5ec673c850f5a248ce3eb13c1b81a05ed80c4d34ba5b3a", func := "scullery/scullerylaw18.IdealFixes", spec := "idealFixes", unfollowed := true, recurses := true, apart := false }
def IdealFixesSaid : Prop := idealFixesRow.holds Try.pinned (OpenSpec.ofChange idealFixesSpec)

/-- ITS FALSE NEIGHBOUR: 'it returns false'. Refute it at one input. -/
def idealFixesWrong : ChangeSpec := { name := "idealFixes", fn := fun _ => fun
  | [d1, d2, d3, d4] => { results := [.lit (.bool false)], args := [d1, d2, d3, d4] }
  | _ => none }
def IdealFixesWrongFalsely : Prop := idealFixesRow.holds Try.pinned (OpenSpec.ofChange idealFixesWrong)

/-- 'scullerylaw18.IdealScript': WHATEVER THE INPUT: true; the input reads as it did. -/
def idealScriptSpec : ChangeSpec := { name := "idealScript", fn := fun _ => fun
  | [d1, d2] => { results := [.lit (.bool true)], args := [d1, d2] }
  | _ => none }
def idealScriptRow : OpenClaim := { program := "ytinfbpldgobmfaa", sum := "db6cfdb1d239b0ae2d5ec673c850f5a248ce3eb13c1b81a05ed80c4d34ba5b3a", func := "scullery/scullerylaw18.IdealScript", spec := "idealScript", unfollowed := true, recurses := true, apart := false }
def IdealScriptSaid : Prop := idealScriptRow.holds Try.pinned (OpenSpec.ofChange idealScriptSpec)

/-- ITS FALSE NEIGHBOUR: 'it returns false'. Refute it at one input. -/
def idealScriptWrong : ChangeSpec := { name := "idealScript", fn := fun _ => fun
  | [d1, d2] => { results := [.lit (.bool false)], args := [d1, d2] }
  | _ => none }
def IdealScriptWrongFalsely : Prop := idealScriptRow.holds Try.pinned (OpenSpec.ofChange idealScriptWrong)

/-- 'scullerylaw18.IdealNone': WHATEVER THE INPUT: true; the input reads as it did. -/
def idealNoneSpec : ChangeSpec := { name := "idealNone", fn := fun _ => fun
  | [d1, d2] => { results := [.lit (.bool true)], args := [d1, d2] }
  | _ => none }
def idealNoneRow : OpenClaim := { program := "ytinfbpldgobmfaa", sum := "db6cfdb1d239b0ae2d5ec673c850f5a248ce3eb13c1b81a05ed80c4d34ba5b3a", func := "scullery/scullerylaw18.IdealNone", spec := "idealNone", unfollowed := true, recurses := true, apart := false }
def IdealNoneSaid : Prop := idealNoneRow.holds Try.pinned (OpenSpec.ofChange idealNoneSpec)

/-- ITS FALSE NEIGHBOUR: 'it returns false'. Refute it at one input. -/
def idealNoneWrong : ChangeSpec := { name := "idealNone", fn := fun _ => fun
  | [d1, d2] => { results := [.lit (.bool false)], args := [d1, d2] }
  | _ => none }
def IdealNoneWrongFalsely : Prop := idealNoneRow.holds Try.pinned (OpenSpec.ofChange idealNoneWrong)

/-- 'scullerylaw18.IdealDoubts': WHATEVER THE INPUT: true; the input reads as it did. -/
def idealDoubtsSpec : ChangeSpec := { name := "idealDoubts", fn := fun _ => fun
  | [d1, d2, d3, d4] => { results := [.lit (.bool true)], args := [d1, d2, d3, d4] }
  | _ => none }
def idealDoubtsRow : OpenClaim := { program := "ytinfbpldgobmfaa", sum := "db6cfdb1d239b0ae2d5ec673c850f5a248ce3eb13c1b81a05ed80c4d34ba5b3a", func := "scullery/scullerylaw18.IdealDoubts", spec := "idealDoubts", unfollowed := true, recurses := true, apart := false }
def IdealDoubtsSaid : Prop := idealDoubtsRow.holds Try.pinned (OpenSpec.ofChange idealDoubtsSpec)

/-- ITS FALSE NEIGHBOUR: 'it returns false'. Refute it at one input. -/
def idealDoubtsWrong : ChangeSpec := { name := "idealDoubts", fn := fun _ => fun
  | [d1, d2, d3, d4] => { results := [.lit (.bool false)], args := [d1, d2, d3, d4] }
  | _ => none }
def IdealDoubtsWrongFalsely : Prop := idealDoubtsRow.holds Try.pinned (OpenSpec.ofChange idealDoubtsWrong)

/- THE SECOND FORM. 'bulk': how many values and letters a reading holds, each counted each time it is reached (what is shared counts as often as it is met; a slice's spare places count too). A statement '..UptoSaid' is the law's where the arguments, and the package variables that the reading takes, are together of bulk at most 1048576: NARROWER than '..Said'. Prove '..Said' where nothing that the law and all that it calls make is longer than what came in: it says more and counts as full. Else prove '..UptoSaid'. A law counts once. -/
mutual
def uptoBulk {H : Type} : DataW H → Nat
  | .lit (.string bytes) => bytes.length + 1
  | .lit _ => 1
  | .nil => 1
  | .ptr d => uptoBulk d + 1
  | .slice elems spare => uptoBulkAll elems + uptoBulkAll spare + 1
  | .agg parts => uptoBulkAll parts + 1
  | .iface _ d => uptoBulk d + 1
  | .map entries => uptoBulkEntries entries + 1
  | .held _ => 1
def uptoBulkAll {H : Type} : List (DataW H) → Nat
  | [] => 0
  | d :: r => uptoBulk d + uptoBulkAll r
def uptoBulkEntries {H : Type} : List (Lit × DataW H) → Nat
  | [] => 0
  | x :: r => uptoBulkEntry x + uptoBulkEntries r
def uptoBulkEntry {H : Type} : Lit × DataW H → Nat
  | (.string bytes, d) => bytes.length + uptoBulk d + 1
  | (_, d) => uptoBulk d + 1
 end
def uptoSmall : (H : Type) → List (DataW H) → Bool := fun _ ds => decide (uptoBulkAll ds ≤ 1048576)
def OpenSpec.upto (s : _root_.Go.ChangeSpec) : _root_.Go.OpenSpec := { _root_.Go.OpenSpec.ofChange s with cond := some uptoSmall }

/-- 'scullerylaw18.IdealLists', WHERE WHAT IT READS IS OF BULK AT MOST 1048576: true; the input reads as it did. -/
def idealListsUptoRow : OpenClaim := { program := "ytinfbpldgobmfaa", sum := "db6cfdb1d239b0ae2d5ec673c850f5a248ce3eb13c1b81a05ed80c4d34ba5b3a", func := "scullery/scullerylaw18.IdealLists", spec := "idealLists", unfollowed := true, recurses := true, apart := false, narrowed := true }
def IdealListsUptoSaid : Prop := idealListsUptoRow.holds Try.pinned (OpenSpec.upto idealListsSpec)

/-- 'scullerylaw18.IdealFixes', WHERE WHAT IT READS IS OF BULK AT MOST 1048576: true; the input reads as it did. -/
def idealFixesUptoRow : OpenClaim := { program := "ytinfbpldgobmfaa", sum := "db6cfdb1d239b0ae2d5ec673c850f5a248ce3eb13c1b81a05ed80c4d34ba5b3a", func := "scullery/scullerylaw18.IdealFixes", spec := "idealFixes", unfollowed := true, recurses := true, apart := false, narrowed := true }
def IdealFixesUptoSaid : Prop := idealFixesUptoRow.holds Try.pinned (OpenSpec.upto idealFixesSpec)

/-- 'scullerylaw18.IdealScript', WHERE WHAT IT READS IS OF BULK AT MOST 1048576: true; the input reads as it did. -/
def idealScriptUptoRow : OpenClaim := { program := "ytinfbpldgobmfaa", sum := "db6cfdb1d239b0ae2d5ec673c850f5a248ce3eb13c1b81a05ed80c4d34ba5b3a", func := "scullery/scullerylaw18.IdealScript", spec := "idealScript", unfollowed := true, recurses := true, apart := false, narrowed := true }
def IdealScriptUptoSaid : Prop := idealScriptUptoRow.holds Try.pinned (OpenSpec.upto idealScriptSpec)

/-- 'scullerylaw18.IdealNone', WHERE WHAT IT READS IS OF BULK AT MOST 1048576: true; the input reads as it did. -/
def idealNoneUptoRow : OpenClaim := { program := "ytinfbpldgobmfaa", sum := "db6cfdb1d239b0ae2d5ec673c850f5a248ce3eb13c1b81a05ed80c4d34ba5b3a", func := "scullery/scullerylaw18.IdealNone", spec := "idealNone", unfollowed := true, recurses := true, apart := false, narrowed := true }
def IdealNoneUptoSaid : Prop := idealNoneUptoRow.holds Try.pinned (OpenSpec.upto idealNoneSpec)

/-- 'scullerylaw18.IdealDoubts', WHERE WHAT IT READS IS OF BULK AT MOST 1048576: true; the input reads as it did. -/
def idealDoubtsUptoRow : OpenClaim := { program := "ytinfbpldgobmfaa", sum := "db6cfdb1d239b0ae2d5ec673c850f5a248ce3eb13c1b81a05ed80c4d34ba5b3a", func := "scullery/scullerylaw18.IdealDoubts", spec := "idealDoubts", unfollowed := true, recurses := true, apart := false, narrowed := true }
def IdealDoubtsUptoSaid : Prop := idealDoubtsUptoRow.holds Try.pinned (OpenSpec.upto idealDoubtsSpec)

end Rows
end Go.Proofs.Ytinfbpldgobmfaa
