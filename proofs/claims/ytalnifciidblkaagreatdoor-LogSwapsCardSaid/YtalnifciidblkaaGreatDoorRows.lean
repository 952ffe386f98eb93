/-
  NARROWER THAN 'FOR EVERY INPUT', by the rows' own cells (each row's printed sentence says how): LogRefuses: laid · LogSwaps: laid · LogScript: laid · LogLoads: laid · LogChecks: laid · LogTorn: laid.
  DERIVED. THE GIVEN ROWS OF THIS SEAT. 6 by the template 'for every input the law returns true; each argument reads behind the call as it read before'; 0 by the template 'total and deterministic' (their statements: YtalnifciidblkaaGreatDoorTotals.lean).
  GIVEN WITH THE SEED: the statements are not yours to turn. If you find one false, say at which input.
  Laid BY PROGRAM, IN A SANDBOX (cutbox-rows.mjs): the forced cells as the released guide's own fill.sh prints them over the translation f3f895bb4a21e67f… (all of the seat's roots in one cut). By AI agents, Wed Nov 11 2026. No macro, syntax, notation, axiom, sorry.
-/
import Derived.Test.YtalnifciidblkaaGreatDoorChecked
import GoSem.PinnedTables
import GoSem.Claim
import GoSem.ClaimJoined
import GoSem.ClaimMapViews
import Derived.JoinedTies
import Derived.KernelRfl
namespace Go.Proofs.YtalnifciidblkaaGreatDoor
/- THE CELL 'sum', in the pinned program and in every row, IS THE sha256 OF THE DUMP (.gsa) THAT YtalnifciidblkaaGreatDoorProg.lean LOADS. Nothing in Lean hashes anything: it is a label: what it is worth is what the hold of that sum in a sandbox is worth. -/
noncomputable def Tryz.pinned : Pinned := { name := "ytalnifciidblkaagreatdoor", sum := "f3f895bb4a21e67f4a446a3cdbbc0cd2f21fdfc2df67559d3651e2f0e415f5fd", checked := Tryz.checked }
namespace Rows
def none {H : Type} : Left H := { results := [], args := [] }

/- WHAT THE LISTED PACKAGE-LEVEL VARIABLES READ AS WHEN THE CALL BEGINS. Each datum BY PROGRAM (the guide's laid-datum.mjs) off the statement by which the dump's own 'gosem.cut.vars' lays the variable. In a bare row this is a premise. The card (YtalnifciidblkaaGreatDoorCards.lean) ties it to the program's text. -/
def laid_unicode_utf8_acceptRanges {H : Type} : DataW H := .agg [.agg [.lit (.int .u8 128), .lit (.int .u8 191)], .agg [.lit (.int .u8 160), .lit (.int .u8 191)], .agg [.lit (.int .u8 128), .lit (.int .u8 159)], .agg [.lit (.int .u8 144), .lit (.int .u8 191)], .agg [.lit (.int .u8 128), .lit (.int .u8 143)], .agg [.lit (.int .u8 0), .lit (.int .u8 0)], .agg [.lit (.int .u8 0), .lit (.int .u8 0)], .agg [.lit (.int .u8 0), .lit (.int .u8 0)], .agg [.lit (.int .u8 0), .lit (.int .u8 0)], .agg [.lit (.int .u8 0), .lit (.int .u8 0)], .agg [.lit (.int .u8 0), .lit (.int .u8 0)], .agg [.lit (.int .u8 0), .lit (.int .u8 0)], .agg [.lit (.int .u8 0), .lit (.int .u8 0)], .agg [.lit (.int .u8 0), .lit (.int .u8 0)], .agg [.lit (.int .u8 0), .lit (.int .u8 0)], .agg [.lit (.int .u8 0), .lit (.int .u8 0)]]
/-- One of Go's own tables, pinned by name: the form's constant. -/
def laid_unicode_utf8_first : DataW Unit := Go.Pinned.utf8First

/-- 'scullerylaw17.LogRefuses': WHATEVER THE INPUT: true; the input reads as it did. -/
def logRefusesSpec : ChangeSpec := { name := "logRefuses", fn := fun _ => fun
  | [d1, d2, d3, d4] => { results := [.lit (.bool true)], args := [d1, d2, d3, d4] }
  | _ => none }
def logRefusesRow : OpenClaim := { program := "ytalnifciidblkaagreatdoor", sum := "f3f895bb4a21e67f4a446a3cdbbc0cd2f21fdfc2df67559d3651e2f0e415f5fd", func := "scullery/scullerylaw17.LogRefuses", spec := "logRefuses", inPlace := ["internal/bytealg.MakeNoZero"], unfollowed := true, recurses := true, named := ["unicode/utf8.first", "unicode/utf8.acceptRanges"], apart := false, laid := [("unicode/utf8.acceptRanges", laid_unicode_utf8_acceptRanges), ("unicode/utf8.first", laid_unicode_utf8_first)] }
def LogRefusesSaid : Prop := logRefusesRow.holds Tryz.pinned (OpenSpec.ofChange logRefusesSpec)

/-- ITS FALSE NEIGHBOUR: 'it returns false'. Refute it at one input. -/
def logRefusesWrong : ChangeSpec := { name := "logRefuses", fn := fun _ => fun
  | [d1, d2, d3, d4] => { results := [.lit (.bool false)], args := [d1, d2, d3, d4] }
  | _ => none }
def LogRefusesWrongFalsely : Prop := logRefusesRow.holds Tryz.pinned (OpenSpec.ofChange logRefusesWrong)

/-- 'scullerylaw17.LogSwaps': WHATEVER THE INPUT: true; the input reads as it did. -/
def logSwapsSpec : ChangeSpec := { name := "logSwaps", fn := fun _ => fun
  | [d1, d2, d3] => { results := [.lit (.bool true)], args := [d1, d2, d3] }
  | _ => none }
def logSwapsRow : OpenClaim := { program := "ytalnifciidblkaagreatdoor", sum := "f3f895bb4a21e67f4a446a3cdbbc0cd2f21fdfc2df67559d3651e2f0e415f5fd", func := "scullery/scullerylaw17.LogSwaps", spec := "logSwaps", inPlace := ["internal/bytealg.MakeNoZero"], unfollowed := true, recurses := true, named := ["unicode/utf8.first", "unicode/utf8.acceptRanges"], apart := false, laid := [("unicode/utf8.acceptRanges", laid_unicode_utf8_acceptRanges), ("unicode/utf8.first", laid_unicode_utf8_first)] }
def LogSwapsSaid : Prop := logSwapsRow.holds Tryz.pinned (OpenSpec.ofChange logSwapsSpec)

/-- ITS FALSE NEIGHBOUR: 'it returns false'. Refute it at one input. -/
def logSwapsWrong : ChangeSpec := { name := "logSwaps", fn := fun _ => fun
  | [d1, d2, d3] => { results := [.lit (.bool false)], args := [d1, d2, d3] }
  | _ => none }
def LogSwapsWrongFalsely : Prop := logSwapsRow.holds Tryz.pinned (OpenSpec.ofChange logSwapsWrong)

/-- 'scullerylaw17.LogScript': WHATEVER THE INPUT: true; the input reads as it did. -/
def logScriptSpec : ChangeSpec := { name := "logScript", fn := fun _ => fun
  | [d1, d2] => { results := [.lit (.bool true)], args := [d1, d2] }
  | _ => none }
def logScriptRow : OpenClaim := { program := "ytalnifciidblkaagreatdoor", sum := "f3f895bb4a21e67f4a446a3cdbbc0cd2f21fdfc2df67559d3651e2f0e415f5fd", func := "scullery/scullerylaw17.LogScript", spec := "logScript", inPlace := ["internal/bytealg.MakeNoZero"], unfollowed := true, recurses := true, named := ["unicode/utf8.first", "unicode/utf8.acceptRanges"], apart := false, laid := [("unicode/utf8.acceptRanges", laid_unicode_utf8_acceptRanges), ("unicode/utf8.first", laid_unicode_utf8_first)] }
def LogScriptSaid : Prop := logScriptRow.holds Tryz.pinned (OpenSpec.ofChange logScriptSpec)

/-- ITS FALSE NEIGHBOUR: 'it returns false'. Refute it at one input. -/
def logScriptWrong : ChangeSpec := { name := "logScript", fn := fun _ => fun
  | [d1, d2] => { results := [.lit (.bool false)], args := [d1, d2] }
  | _ => none }
def LogScriptWrongFalsely : Prop := logScriptRow.holds Tryz.pinned (OpenSpec.ofChange logScriptWrong)

/-- 'scullerylaw17.LogLoads': WHATEVER THE INPUT: true; the input reads as it did. -/
def logLoadsSpec : ChangeSpec := { name := "logLoads", fn := fun _ => fun
  | [d] => { results := [.lit (.bool true)], args := [d] }
  | _ => none }
def logLoadsRow : OpenClaim := { program := "ytalnifciidblkaagreatdoor", sum := "f3f895bb4a21e67f4a446a3cdbbc0cd2f21fdfc2df67559d3651e2f0e415f5fd", func := "scullery/scullerylaw17.LogLoads", spec := "logLoads", inPlace := ["internal/bytealg.MakeNoZero"], unfollowed := true, recurses := true, named := ["unicode/utf8.first", "unicode/utf8.acceptRanges"], apart := false, laid := [("unicode/utf8.acceptRanges", laid_unicode_utf8_acceptRanges), ("unicode/utf8.first", laid_unicode_utf8_first)] }
def LogLoadsSaid : Prop := logLoadsRow.holds Tryz.pinned (OpenSpec.ofChange logLoadsSpec)

/-- ITS FALSE NEIGHBOUR: 'it returns false'. Refute it at one input. -/
def logLoadsWrong : ChangeSpec := { name := "logLoads", fn := fun _ => fun
  | [d] => { results := [.lit (.bool false)], args := [d] }
  | _ => none }
def LogLoadsWrongFalsely : Prop := logLoadsRow.holds Tryz.pinned (OpenSpec.ofChange logLoadsWrong)

/-- 'scullerylaw17.LogChecks': WHATEVER THE INPUT: true; the input reads as it did. -/
def logChecksSpec : ChangeSpec := { name := "logChecks", fn := fun _ => fun
  | [d1, d2, d3] => { results := [.lit (.bool true)], args := [d1, d2, d3] }
  | _ => none }
def logChecksRow : OpenClaim := { program := "ytalnifciidblkaagreatdoor", sum := "f3f895bb4a21e67f4a446a3cdbbc0cd2f21fdfc2df67559d3651e2f0e415f5fd", func := "scullery/scullerylaw17.LogChecks", spec := "logChecks", inPlace := ["internal/bytealg.MakeNoZero"], unfollowed := true, recurses := true, named := ["unicode/utf8.first", "unicode/utf8.acceptRanges"], apart := false, laid := [("unicode/utf8.acceptRanges", laid_unicode_utf8_acceptRanges), ("unicode/utf8.first", laid_unicode_utf8_first)] }
def LogChecksSaid : Prop := logChecksRow.holds Tryz.pinned (OpenSpec.ofChange logChecksSpec)

/-- ITS FALSE NEIGHBOUR: 'it returns false'. Refute it at one input. -/
def logChecksWrong : ChangeSpec := { name := "logChecks", fn := fun _ => fun
  | [d1, d2, d3] => { results := [.lit (.bool false)], args := [d1, d2, d3] }
  | _ => none }
def LogChecksWrongFalsely : Prop := logChecksRow.holds Tryz.pinned (OpenSpec.ofChange logChecksWrong)

/-- 'scullerylaw17.LogTorn': WHATEVER THE INPUT: true; the input reads as it did. -/
def logTornSpec : ChangeSpec := { name := "logTorn", fn := fun _ => fun
  | [d1, d2, d3, d4] => { results := [.lit (.bool true)], args := [d1, d2, d3, d4] }
  | _ => none }
def logTornRow : OpenClaim := { program := "ytalnifciidblkaagreatdoor", sum := "f3f895bb4a21e67f4a446a3cdbbc0cd2f21fdfc2df67559d3651e2f0e415f5fd", func := "scullery/scullerylaw17.LogTorn", spec := "logTorn", inPlace := ["internal/bytealg.MakeNoZero"], unfollowed := true, recurses := true, named := ["unicode/utf8.first", "unicode/utf8.acceptRanges"], apart := false, laid := [("unicode/utf8.acceptRanges", laid_unicode_utf8_acceptRanges), ("unicode/utf8.first", laid_unicode_utf8_first)] }
def LogTornSaid : Prop := logTornRow.holds Tryz.pinned (OpenSpec.ofChange logTornSpec)

/-- ITS FALSE NEIGHBOUR: 'it returns false'. Refute it at one input. -/
def logTornWrong : ChangeSpec := { name := "logTorn", fn := fun _ => fun
  | [d1, d2, d3, d4] => { results := [.lit (.bool false)], args := [d1, d2, d3, d4] }
  | _ => none }
def LogTornWrongFalsely : Prop := logTornRow.holds Tryz.pinned (OpenSpec.ofChange logTornWrong)

/- THE SECOND FORM. 'bulk': how many values and letters a reading holds, each counted each time it is reached (what is shared counts as often as it is met; a slice's spare places count too). A statement '..UptoSaid' is the law's where the arguments, and the package variables that the reading takes, are together of bulk at most 1048576: NARROWER than '..Said'. Prove '..Said' where nothing that the law and all that it calls make is longer than what came in: it says more and counts as full. Else prove '..UptoSaid'. A law counts once. -/
mutual
def uptoBulk {H : Type} : DataW H → Nat
  | .lit (.string bytes) => bytes.length + 1
  | .lit _ => 1
  | .nil => 1
  | .ptr d => uptoBulk d + 1
  | .slice elems spare => uptoBulkAll elems + uptoBulkAll spare + 1
  | .agg parts => uptoBulkAll parts + 1
  | .iface _ d => uptoBulk d + 1
  | .map entries => uptoBulkEntries entries + 1
  | .held _ => 1
def uptoBulkAll {H : Type} : List (DataW H) → Nat
  | [] => 0
  | d :: r => uptoBulk d + uptoBulkAll r
def uptoBulkEntries {H : Type} : List (Lit × DataW H) → Nat
  | [] => 0
  | x :: r => uptoBulkEntry x + uptoBulkEntries r
def uptoBulkEntry {H : Type} : Lit × DataW H → Nat
  | (.string bytes, d) => bytes.length + uptoBulk d + 1
  | (_, d) => uptoBulk d + 1
 end
def uptoSmall : (H : Type) → List (DataW H) → Bool := fun _ ds => decide (uptoBulkAll ds ≤ 1048576)
def OpenSpec.upto (s : _root_.Go.ChangeSpec) : _root_.Go.OpenSpec := { _root_.Go.OpenSpec.ofChange s with cond := some uptoSmall }

/-- 'scullerylaw17.LogRefuses', WHERE WHAT IT READS IS OF BULK AT MOST 1048576: true; the input reads as it did. -/
def logRefusesUptoRow : OpenClaim := { program := "ytalnifciidblkaagreatdoor", sum := "f3f895bb4a21e67f4a446a3cdbbc0cd2f21fdfc2df67559d3651e2f0e415f5fd", func := "scullery/scullerylaw17.LogRefuses", spec := "logRefuses", inPlace := ["internal/bytealg.MakeNoZero"], unfollowed := true, recurses := true, named := ["unicode/utf8.first", "unicode/utf8.acceptRanges"], apart := false, laid := [("unicode/utf8.acceptRanges", laid_unicode_utf8_acceptRanges), ("unicode/utf8.first", laid_unicode_utf8_first)], narrowed := true }
def LogRefusesUptoSaid : Prop := logRefusesUptoRow.holds Tryz.pinned (OpenSpec.upto logRefusesSpec)

/-- 'scullerylaw17.LogSwaps', WHERE WHAT IT READS IS OF BULK AT MOST 1048576: true; the input reads as it did. -/
def logSwapsUptoRow : OpenClaim := { program := "ytalnifciidblkaagreatdoor", sum := "f3f895bb4a21e67f4a446a3cdbbc0cd2f21fdfc2df67559d3651e2f0e415f5fd", func := "scullery/scullerylaw17.LogSwaps", spec := "logSwaps", inPlace := ["internal/bytealg.MakeNoZero"], unfollowed := true, recurses := true, named := ["unicode/utf8.first", "unicode/utf8.acceptRanges"], apart := false, laid := [("unicode/utf8.acceptRanges", laid_unicode_utf8_acceptRanges), ("unicode/utf8.first", laid_unicode_utf8_first)], narrowed := true }
def LogSwapsUptoSaid : Prop := logSwapsUptoRow.holds Tryz.pinned (OpenSpec.upto logSwapsSpec)

/-- 'scullerylaw17.LogScript', WHERE WHAT IT READS IS OF BULK AT MOST 1048576: true; the input reads as it did. -/
def logScriptUptoRow : OpenClaim := { program := "ytalnifciidblkaagreatdoor", sum := "f3f895bb4a21e67f4a446a3cdbbc0cd2f21fdfc2df67559d3651e2f0e415f5fd", func := "scullery/scullerylaw17.LogScript", spec := "logScript", inPlace := ["internal/bytealg.MakeNoZero"], unfollowed := true, recurses := true, named := ["unicode/utf8.first", "unicode/utf8.acceptRanges"], apart := false, laid := [("unicode/utf8.acceptRanges", laid_unicode_utf8_acceptRanges), ("unicode/utf8.first", laid_unicode_utf8_first)], narrowed := true }
def LogScriptUptoSaid : Prop := logScriptUptoRow.holds Tryz.pinned (OpenSpec.upto logScriptSpec)

/-- 'scullerylaw17.LogLoads', WHERE WHAT IT READS IS OF BULK AT MOST 1048576: true; the input reads as it did. -/
def logLoadsUptoRow : OpenClaim := { program := "ytalnifciidblkaagreatdoor", sum := "f3f895bb4a21e67f4a446a3cdbbc0cd2f21fdfc2df67559d3651e2f0e415f5fd", func := "scullery/scullerylaw17.LogLoads", spec := "logLoads", inPlace := ["internal/bytealg.MakeNoZero"], unfollowed := true, recurses := true, named := ["unicode/utf8.first", "unicode/utf8.acceptRanges"], apart := false, laid := [("unicode/utf8.acceptRanges", laid_unicode_utf8_acceptRanges), ("unicode/utf8.first", laid_unicode_utf8_first)], narrowed := true }
def LogLoadsUptoSaid : Prop := logLoadsUptoRow.holds Tryz.pinned (OpenSpec.upto logLoadsSpec)

/-- 'scullerylaw17.LogChecks', WHERE WHAT IT READS IS OF BULK AT MOST 1048576: true; the input reads as it did. -/
def logChecksUptoRow : OpenClaim := { program := "ytalnifciidblkaagreatdoor", sum := "f3f895bb4a21e67f4a446a3cdbbc0cd2f21fdfc2df67559d3651e2f0e415f5fd", func := "scullery/scullerylaw17.LogChecks", spec := "logChecks", inPlace := ["internal/bytealg.MakeNoZero"], unfollowed := true, recurses := true, named := ["unicode/utf8.first", "unicode/utf8.acceptRanges"], apart := false, laid := [("unicode/utf8.acceptRanges", laid_unicode_utf8_acceptRanges), ("unicode/utf8.first", laid_unicode_utf8_first)], narrowed := true }
def LogChecksUptoSaid : Prop := logChecksUptoRow.holds Tryz.pinned (OpenSpec.upto logChecksSpec)

/-- 'scullerylaw17.LogTorn', WHERE WHAT IT READS IS OF BULK AT MOST 1048576: true; the input reads as it did. -/
def logTornUptoRow : OpenClaim := { program := "ytalnifciidblkaagreatdoor", sum := "f3f895bb4a21e67f4a446a3cdbbc0cd2f21fdfc2df67559d3651e2f0e415f5fd", func := "scullery/scullerylaw17.LogTorn", spec := "logTorn", inPlace := ["internal/bytealg.MakeNoZero"], unfollowed := true, recurses := true, named := ["unicode/utf8.first", "unicode/utf8.acceptRanges"], apart := false, laid := [("unicode/utf8.acceptRanges", laid_unicode_utf8_acceptRanges), ("unicode/utf8.first", laid_unicode_utf8_first)], narrowed := true }
def LogTornUptoSaid : Prop := logTornUptoRow.holds Tryz.pinned (OpenSpec.upto logTornSpec)

end Rows
end Go.Proofs.YtalnifciidblkaaGreatDoor
