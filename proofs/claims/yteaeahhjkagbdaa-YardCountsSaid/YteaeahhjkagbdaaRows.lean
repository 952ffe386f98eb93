/-
  No cell of these rows narrows 'for every input' (looked for: loops, veiled, ifaces, maps, wideKeys, modest, calm, conditions, laid).
  DERIVED. THE GIVEN ROWS OF THIS SEAT. 11 by the template 'for every input the law returns true; each argument reads behind the call as it read before'; 0 by the template 'total and deterministic' (their statements: YteaeahhjkagbdaaTotals.lean).
  GIVEN WITH THE SEED: the statements are not yours to turn. If you find one false, say at which input.
  Laid BY PROGRAM, IN A SANDBOX (cutbox-rows.mjs): the forced cells as the released guide's own fill.sh prints them over the translation 82c2ec63f8c23367… (all of the seat's roots in one cut). By AI agents, Wed Nov 11 2026. No macro, syntax, notation, axiom, sorry.
-/
import Derived.Test.YteaeahhjkagbdaaChecked
import GoSem.Claim
import GoSem.ClaimJoined
import GoSem.ClaimMapViews
import Derived.JoinedTies
import Derived.KernelRfl
namespace Go.Proofs.Yteaeahhjkagbdaa
/- THE CELL 'sum', in the pinned program and in every row, IS THE sha256 OF THE DUMP (.gsa) THAT YteaeahhjkagbdaaProg.lean LOADS. Nothing in Lean hashes anything: it is a label: what it is worth is what the hold of that sum in a sandbox is worth. -/
noncomputable def Try.pinned : Pinned := { name := "yteaeahhjkagbdaa", sum := "82c2ec63f8c2336727f230df94e77f6affdd38d58d7f010cc56f770f4ea1c1e0", checked := Try.checked }
namespace Rows
def none {H : Type} : Left H := { results := [], args := [] }

/-- 'scullerylaw21.BlockScript': WHATEVER THE INPUT: true; the input reads as it did. -/
def blockScriptSpec : ChangeSpec := { name := "blockScript", fn := fun _ => fun
  | [d1, d2, d3] => { results := [.lit (.bool true)], args := [d1, d2, d3] }
  | _ => none }
def blockScriptRow : OpenClaim := { program := "yteaeahhjkagbdaa", sum := "82c2ec63f8c2336727f230df94e77f6affdd38d58d7f010cc56f770f4ea1c1e0", func := "scullery/scullerylaw21.BlockScript", spec := "blockScript", apart := false }
def BlockScriptSaid : Prop := blockScriptRow.holds Try.pinned (OpenSpec.ofChange blockScriptSpec)

/-- ITS FALSE NEIGHBOUR: 'it returns false'. Refute it at one input. -/
def blockScriptWrong : ChangeSpec := { name := "blockScript", fn := fun _ => fun
  | [d1, d2, d3] => { results := [.lit (.bool false)], args := [d1, d2, d3] }
  | _ => none }
def BlockScriptWrongFalsely : Prop := blockScriptRow.holds Try.pinned (OpenSpec.ofChange blockScriptWrong)

/-- 'scullerylaw21.BlockFixes': WHATEVER THE INPUT: true; the input reads as it did. -/
def blockFixesSpec : ChangeSpec := { name := "blockFixes", fn := fun _ => fun
  | [d1, d2, d3, d4, d5] => { results := [.lit (.bool true)], args := [d1, d2, d3, d4, d5] }
  | _ => none }
def blockFixesRow : OpenClaim := { program := "yteaeahhjkagbdaa", sum := "82c2ec63f8c2336727f230df94e77f6affdd38d58d7f010cc56f770f4ea1c1e0", func := "scullery/scullerylaw21.BlockFixes", spec := "blockFixes", apart := false }
def BlockFixesSaid : Prop := blockFixesRow.holds Try.pinned (OpenSpec.ofChange blockFixesSpec)

/-- ITS FALSE NEIGHBOUR: 'it returns false'. Refute it at one input. -/
def blockFixesWrong : ChangeSpec := { name := "blockFixes", fn := fun _ => fun
  | [d1, d2, d3, d4, d5] => { results := [.lit (.bool false)], args := [d1, d2, d3, d4, d5] }
  | _ => none }
def BlockFixesWrongFalsely : Prop := blockFixesRow.holds Try.pinned (OpenSpec.ofChange blockFixesWrong)

/-- 'scullerylaw21.BlockApart': WHATEVER THE INPUT: true; the input reads as it did. -/
def blockApartSpec : ChangeSpec := { name := "blockApart", fn := fun _ => fun
  | [d] => { results := [.lit (.bool true)], args := [d] }
  | _ => none }
def blockApartRow : OpenClaim := { program := "yteaeahhjkagbdaa", sum := "82c2ec63f8c2336727f230df94e77f6affdd38d58d7f010cc56f770f4ea1c1e0", func := "scullery/scullerylaw21.BlockApart", spec := "blockApart", apart := false }
def BlockApartSaid : Prop := blockApartRow.holds Try.pinned (OpenSpec.ofChange blockApartSpec)

/-- ITS FALSE NEIGHBOUR: 'it returns false'. Refute it at one input. -/
def blockApartWrong : ChangeSpec := { name := "blockApart", fn := fun _ => fun
  | [d] => { results := [.lit (.bool false)], args := [d] }
  | _ => none }
def BlockApartWrongFalsely : Prop := blockApartRow.holds Try.pinned (OpenSpec.ofChange blockApartWrong)

/-- 'scullerylaw21.BlockLast': WHATEVER THE INPUT: true; the input reads as it did. -/
def blockLastSpec : ChangeSpec := { name := "blockLast", fn := fun _ => fun
  | [d1, d2, d3] => { results := [.lit (.bool true)], args := [d1, d2, d3] }
  | _ => none }
def blockLastRow : OpenClaim := { program := "yteaeahhjkagbdaa", sum := "82c2ec63f8c2336727f230df94e77f6affdd38d58d7f010cc56f770f4ea1c1e0", func := "scullery/scullerylaw21.BlockLast", spec := "blockLast", apart := false }
def BlockLastSaid : Prop := blockLastRow.holds Try.pinned (OpenSpec.ofChange blockLastSpec)

/-- ITS FALSE NEIGHBOUR: 'it returns false'. Refute it at one input. -/
def blockLastWrong : ChangeSpec := { name := "blockLast", fn := fun _ => fun
  | [d1, d2, d3] => { results := [.lit (.bool false)], args := [d1, d2, d3] }
  | _ => none }
def BlockLastWrongFalsely : Prop := blockLastRow.holds Try.pinned (OpenSpec.ofChange blockLastWrong)

/-- 'scullerylaw9.DiskApart': WHATEVER THE INPUT: true; the input reads as it did. -/
def diskApartSpec : ChangeSpec := { name := "diskApart", fn := fun _ => fun
  | [d1, d2] => { results := [.lit (.bool true)], args := [d1, d2] }
  | _ => none }
def diskApartRow : OpenClaim := { program := "yteaeahhjkagbdaa", sum := "82c2ec63f8c2336727f230df94e77f6affdd38d58d7f010cc56f770f4ea1c1e0", func := "scullery/scullerylaw9.DiskApart", spec := "diskApart", apart := false }
def DiskApartSaid : Prop := diskApartRow.holds Try.pinned (OpenSpec.ofChange diskApartSpec)

/-- ITS FALSE NEIGHBOUR: 'it returns false'. Refute it at one input. -/
def diskApartWrong : ChangeSpec := { name := "diskApart", fn := fun _ => fun
  | [d1, d2] => { results := [.lit (.bool false)], args := [d1, d2] }
  | _ => none }
def DiskApartWrongFalsely : Prop := diskApartRow.holds Try.pinned (OpenSpec.ofChange diskApartWrong)

/-- 'scullerylaw9.DiskFlushes': WHATEVER THE INPUT: true; the input reads as it did. -/
def diskFlushesSpec : ChangeSpec := { name := "diskFlushes", fn := fun _ => fun
  | [d1, d2] => { results := [.lit (.bool true)], args := [d1, d2] }
  | _ => none }
def diskFlushesRow : OpenClaim := { program := "yteaeahhjkagbdaa", sum := "82c2ec63f8c2336727f230df94e77f6affdd38d58d7f010cc56f770f4ea1c1e0", func := "scullery/scullerylaw9.DiskFlushes", spec := "diskFlushes", apart := false }
def DiskFlushesSaid : Prop := diskFlushesRow.holds Try.pinned (OpenSpec.ofChange diskFlushesSpec)

/-- ITS FALSE NEIGHBOUR: 'it returns false'. Refute it at one input. -/
def diskFlushesWrong : ChangeSpec := { name := "diskFlushes", fn := fun _ => fun
  | [d1, d2] => { results := [.lit (.bool false)], args := [d1, d2] }
  | _ => none }
def DiskFlushesWrongFalsely : Prop := diskFlushesRow.holds Try.pinned (OpenSpec.ofChange diskFlushesWrong)

/-- 'scullerylaw9.DiskScript': WHATEVER THE INPUT: true; the input reads as it did. -/
def diskScriptSpec : ChangeSpec := { name := "diskScript", fn := fun _ => fun
  | [d1, d2, d3, d4] => { results := [.lit (.bool true)], args := [d1, d2, d3, d4] }
  | _ => none }
def diskScriptRow : OpenClaim := { program := "yteaeahhjkagbdaa", sum := "82c2ec63f8c2336727f230df94e77f6affdd38d58d7f010cc56f770f4ea1c1e0", func := "scullery/scullerylaw9.DiskScript", spec := "diskScript", apart := false }
def DiskScriptSaid : Prop := diskScriptRow.holds Try.pinned (OpenSpec.ofChange diskScriptSpec)

/-- ITS FALSE NEIGHBOUR: 'it returns false'. Refute it at one input. -/
def diskScriptWrong : ChangeSpec := { name := "diskScript", fn := fun _ => fun
  | [d1, d2, d3, d4] => { results := [.lit (.bool false)], args := [d1, d2, d3, d4] }
  | _ => none }
def DiskScriptWrongFalsely : Prop := diskScriptRow.holds Try.pinned (OpenSpec.ofChange diskScriptWrong)

/-- 'scullerylaw9.DiskKeeps': WHATEVER THE INPUT: true; the input reads as it did. -/
def diskKeepsSpec : ChangeSpec := { name := "diskKeeps", fn := fun _ => fun
  | [d1, d2, d3] => { results := [.lit (.bool true)], args := [d1, d2, d3] }
  | _ => none }
def diskKeepsRow : OpenClaim := { program := "yteaeahhjkagbdaa", sum := "82c2ec63f8c2336727f230df94e77f6affdd38d58d7f010cc56f770f4ea1c1e0", func := "scullery/scullerylaw9.DiskKeeps", spec := "diskKeeps", apart := false }
def DiskKeepsSaid : Prop := diskKeepsRow.holds Try.pinned (OpenSpec.ofChange diskKeepsSpec)

/-- ITS FALSE NEIGHBOUR: 'it returns false'. Refute it at one input. -/
def diskKeepsWrong : ChangeSpec := { name := "diskKeeps", fn := fun _ => fun
  | [d1, d2, d3] => { results := [.lit (.bool false)], args := [d1, d2, d3] }
  | _ => none }
def DiskKeepsWrongFalsely : Prop := diskKeepsRow.holds Try.pinned (OpenSpec.ofChange diskKeepsWrong)

/-- 'scullerylaw11.YardWashes': WHATEVER THE INPUT: true; the input reads as it did. -/
def yardWashesSpec : ChangeSpec := { name := "yardWashes", fn := fun _ => fun
  | [d1, d2, d3, d4] => { results := [.lit (.bool true)], args := [d1, d2, d3, d4] }
  | _ => none }
def yardWashesRow : OpenClaim := { program := "yteaeahhjkagbdaa", sum := "82c2ec63f8c2336727f230df94e77f6affdd38d58d7f010cc56f770f4ea1c1e0", func := "scullery/scullerylaw11.YardWashes", spec := "yardWashes", apart := false }
def YardWashesSaid : Prop := yardWashesRow.holds Try.pinned (OpenSpec.ofChange yardWashesSpec)

/-- ITS FALSE NEIGHBOUR: 'it returns false'. Refute it at one input. -/
def yardWashesWrong : ChangeSpec := { name := "yardWashes", fn := fun _ => fun
  | [d1, d2, d3, d4] => { results := [.lit (.bool false)], args := [d1, d2, d3, d4] }
  | _ => none }
def YardWashesWrongFalsely : Prop := yardWashesRow.holds Try.pinned (OpenSpec.ofChange yardWashesWrong)

/-- 'scullerylaw11.YardLives': WHATEVER THE INPUT: true; the input reads as it did. -/
def yardLivesSpec : ChangeSpec := { name := "yardLives", fn := fun _ => fun
  | [d1, d2, d3, d4] => { results := [.lit (.bool true)], args := [d1, d2, d3, d4] }
  | _ => none }
def yardLivesRow : OpenClaim := { program := "yteaeahhjkagbdaa", sum := "82c2ec63f8c2336727f230df94e77f6affdd38d58d7f010cc56f770f4ea1c1e0", func := "scullery/scullerylaw11.YardLives", spec := "yardLives", apart := false }
def YardLivesSaid : Prop := yardLivesRow.holds Try.pinned (OpenSpec.ofChange yardLivesSpec)

/-- ITS FALSE NEIGHBOUR: 'it returns false'. Refute it at one input. -/
def yardLivesWrong : ChangeSpec := { name := "yardLives", fn := fun _ => fun
  | [d1, d2, d3, d4] => { results := [.lit (.bool false)], args := [d1, d2, d3, d4] }
  | _ => none }
def YardLivesWrongFalsely : Prop := yardLivesRow.holds Try.pinned (OpenSpec.ofChange yardLivesWrong)

/-- 'scullerylaw11.YardCounts': WHATEVER THE INPUT: true; the input reads as it did. -/
def yardCountsSpec : ChangeSpec := { name := "yardCounts", fn := fun _ => fun
  | [d] => { results := [.lit (.bool true)], args := [d] }
  | _ => none }
def yardCountsRow : OpenClaim := { program := "yteaeahhjkagbdaa", sum := "82c2ec63f8c2336727f230df94e77f6affdd38d58d7f010cc56f770f4ea1c1e0", func := "scullery/scullerylaw11.YardCounts", spec := "yardCounts", apart := false }
def YardCountsSaid : Prop := yardCountsRow.holds Try.pinned (OpenSpec.ofChange yardCountsSpec)

/-- ITS FALSE NEIGHBOUR: 'it returns false'. Refute it at one input. -/
def yardCountsWrong : ChangeSpec := { name := "yardCounts", fn := fun _ => fun
  | [d] => { results := [.lit (.bool false)], args := [d] }
  | _ => none }
def YardCountsWrongFalsely : Prop := yardCountsRow.holds Try.pinned (OpenSpec.ofChange yardCountsWrong)

/- THE SECOND FORM. 'bulk': how many values and letters a reading holds, each counted each time it is reached (what is shared counts as often as it is met; a slice's spare places count too). A statement '..UptoSaid' is the law's where the arguments, and the package variables that the reading takes, are together of bulk at most 1048576: NARROWER than '..Said'. Prove '..Said' where nothing that the law and all that it calls make is longer than what came in: it says more and counts as full. Else prove '..UptoSaid'. A law counts once. -/
mutual
def uptoBulk {H : Type} : DataW H → Nat
  | .lit (.string bytes) => bytes.length + 1
  | .lit _ => 1
  | .nil => 1
  | .ptr d => uptoBulk d + 1
  | .slice elems spare => uptoBulkAll elems + uptoBulkAll spare + 1
  | .agg parts => uptoBulkAll parts + 1
  | .iface _ d => uptoBulk d + 1
  | .map entries => uptoBulkEntries entries + 1
  | .held _ => 1
def uptoBulkAll {H : Type} : List (DataW H) → Nat
  | [] => 0
  | d :: r => uptoBulk d + uptoBulkAll r
def uptoBulkEntries {H : Type} : List (Lit × DataW H) → Nat
  | [] => 0
  | x :: r => uptoBulkEntry x + uptoBulkEntries r
def uptoBulkEntry {H : Type} : Lit × DataW H → Nat
  | (.string bytes, d) => bytes.length + uptoBulk d + 1
  | (_, d) => uptoBulk d + 1
 end
def uptoSmall : (H : Type) → List (DataW H) → Bool := fun _ ds => decide (uptoBulkAll ds ≤ 1048576)
def OpenSpec.upto (s : _root_.Go.ChangeSpec) : _root_.Go.OpenSpec := { _root_.Go.OpenSpec.ofChange s with cond := some uptoSmall }

/-- 'scullerylaw21.BlockScript', WHERE WHAT IT READS IS OF BULK AT MOST 1048576: true; the input reads as it did. -/
def blockScriptUptoRow : OpenClaim := { program := "yteaeahhjkagbdaa", sum := "82c2ec63f8c2336727f230df94e77f6affdd38d58d7f010cc56f770f4ea1c1e0", func := "scullery/scullerylaw21.BlockScript", spec := "blockScript", apart := false, narrowed := true }
def BlockScriptUptoSaid : Prop := blockScriptUptoRow.holds Try.pinned (OpenSpec.upto blockScriptSpec)

/-- 'scullerylaw21.BlockFixes', WHERE WHAT IT READS IS OF BULK AT MOST 1048576: true; the input reads as it did. -/
def blockFixesUptoRow : OpenClaim := { program := "yteaeahhjkagbdaa", sum := "82c2ec63f8c2336727f230df94e77f6affdd38d58d7f010cc56f770f4ea1c1e0", func := "scullery/scullerylaw21.BlockFixes", spec := "blockFixes", apart := false, narrowed := true }
def BlockFixesUptoSaid : Prop := blockFixesUptoRow.holds Try.pinned (OpenSpec.upto blockFixesSpec)

/-- 'scullerylaw21.BlockApart', WHERE WHAT IT READS IS OF BULK AT MOST 1048576: true; the input reads as it did. -/
def blockApartUptoRow : OpenClaim := { program := "yteaeahhjkagbdaa", sum := "82c2ec63f8c2336727f230df94e77f6affdd38d58d7f010cc56f770f4ea1c1e0", func := "scullery/scullerylaw21.BlockApart", spec := "blockApart", apart := false, narrowed := true }
def BlockApartUptoSaid : Prop := blockApartUptoRow.holds Try.pinned (OpenSpec.upto blockApartSpec)

/-- 'scullerylaw21.BlockLast', WHERE WHAT IT READS IS OF BULK AT MOST 1048576: true; the input reads as it did. -/
def blockLastUptoRow : OpenClaim := { program := "yteaeahhjkagbdaa", sum := "82c2ec63f8c2336727f230df94e77f6affdd38d58d7f010cc56f770f4ea1c1e0", func := "scullery/scullerylaw21.BlockLast", spec := "blockLast", apart := false, narrowed := true }
def BlockLastUptoSaid : Prop := blockLastUptoRow.holds Try.pinned (OpenSpec.upto blockLastSpec)

/-- 'scullerylaw9.DiskApart', WHERE WHAT IT READS IS OF BULK AT MOST 1048576: true; the input reads as it did. -/
def diskApartUptoRow : OpenClaim := { program := "yteaeahhjkagbdaa", sum := "82c2ec63f8c2336727f230df94e77f6affdd38d58d7f010cc56f770f4ea1c1e0", func := "scullery/scullerylaw9.DiskApart", spec := "diskApart", apart := false, narrowed := true }
def DiskApartUptoSaid : Prop := diskApartUptoRow.holds Try.pinned (OpenSpec.upto diskApartSpec)

/-- 'scullerylaw9.DiskFlushes', WHERE WHAT IT READS IS OF BULK AT MOST 1048576: true; the input reads as it did. -/
def diskFlushesUptoRow : OpenClaim := { program := "yteaeahhjkagbdaa", sum := "82c2ec63f8c2336727f230df94e77f6affdd38d58d7f010cc56f770f4ea1c1e0", func := "scullery/scullerylaw9.DiskFlushes", spec := "diskFlushes", apart := false, narrowed := true }
def DiskFlushesUptoSaid : Prop := diskFlushesUptoRow.holds Try.pinned (OpenSpec.upto diskFlushesSpec)

/-- 'scullerylaw9.DiskScript', WHERE WHAT IT READS IS OF BULK AT MOST 1048576: true; the input reads as it did. -/
def diskScriptUptoRow : OpenClaim := { program := "yteaeahhjkagbdaa", sum := "82c2ec63f8c2336727f230df94e77f6affdd38d58d7f010cc56f770f4ea1c1e0", func := "scullery/scullerylaw9.DiskScript", spec := "diskScript", apart := false, narrowed := true }
def DiskScriptUptoSaid : Prop := diskScriptUptoRow.holds Try.pinned (OpenSpec.upto diskScriptSpec)

/-- 'scullerylaw9.DiskKeeps', WHERE WHAT IT READS IS OF BULK AT MOST 1048576: true; the input reads as it did. -/
def diskKeepsUptoRow : OpenClaim := { program := "yteaeahhjkagbdaa", sum := "82c2ec63f8c2336727f230df94e77f6affdd38d58d7f010cc56f770f4ea1c1e0", func := "scullery/scullerylaw9.DiskKeeps", spec := "diskKeeps", apart := false, narrowed := true }
def DiskKeepsUptoSaid : Prop := diskKeepsUptoRow.holds Try.pinned (OpenSpec.upto diskKeepsSpec)

/-- 'scullerylaw11.YardWashes', WHERE WHAT IT READS IS OF BULK AT MOST 1048576: true; the input reads as it did. -/
def yardWashesUptoRow : OpenClaim := { program := "yteaeahhjkagbdaa", sum := "82c2ec63f8c2336727f230df94e77f6affdd38d58d7f010cc56f770f4ea1c1e0", func := "scullery/scullerylaw11.YardWashes", spec := "yardWashes", apart := false, narrowed := true }
def YardWashesUptoSaid : Prop := yardWashesUptoRow.holds Try.pinned (OpenSpec.upto yardWashesSpec)

/-- 'scullerylaw11.YardLives', WHERE WHAT IT READS IS OF BULK AT MOST 1048576: true; the input reads as it did. -/
def yardLivesUptoRow : OpenClaim := { program := "yteaeahhjkagbdaa", sum := "82c2ec63f8c2336727f230df94e77f6affdd38d58d7f010cc56f770f4ea1c1e0", func := "scullery/scullerylaw11.YardLives", spec := "yardLives", apart := false, narrowed := true }
def YardLivesUptoSaid : Prop := yardLivesUptoRow.holds Try.pinned (OpenSpec.upto yardLivesSpec)

/-- 'scullerylaw11.YardCounts', WHERE WHAT IT READS IS OF BULK AT MOST 1048576: true; the input reads as it did. -/
def yardCountsUptoRow : OpenClaim := { program := "yteaeahhjkagbdaa", sum := "82c2ec63f8c2336727f230df94e77f6affdd38d58d7f010cc56f770f4ea1c1e0", func := "scullery/scullerylaw11.YardCounts", spec := "yardCounts", apart := false, narrowed := true }
def YardCountsUptoSaid : Prop := yardCountsUptoRow.holds Try.pinned (OpenSpec.upto yardCountsSpec)

end Rows
end Go.Proofs.Yteaeahhjkagbdaa
