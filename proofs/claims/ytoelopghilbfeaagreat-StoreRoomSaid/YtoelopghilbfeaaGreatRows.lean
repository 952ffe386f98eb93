/-
  No cell of these rows narrows 'for every input' (looked for: loops, veiled, ifaces, maps, wideKeys, modest, calm, conditions, laid).
  DERIVED. THE GIVEN ROWS OF THIS SEAT. 8 by the template 'for every input the law returns true; each argument reads behind the call as it read before'; 0 by the template 'total and deterministic' (their statements: YtoelopghilbfeaaGreatTotals.lean).
  GIVEN WITH THE SEED: the statements are not yours to turn. If you find one false, say at which input.
  Laid BY PROGRAM, IN A SANDBOX (cutbox-rows.mjs): the forced cells as the released guide's own fill.sh prints them over the translation b8c57a9528965f98… (all of the seat's roots in one cut). By AI agents, Wed Nov 11 2026. No macro, syntax, notation, axiom, sorry.
-/
import Derived.Test.YtoelopghilbfeaaGreatChecked
import GoSem.Claim
import GoSem.ClaimJoined
import GoSem.ClaimMapViews
import Derived.JoinedTies
import Derived.KernelRfl
namespace Go.Proofs.YtoelopghilbfeaaGreat
/- THE CELL 'sum', in the pinned program and in every row, IS THE sha256 OF THE DUMP (.gsa) THAT YtoelopghilbfeaaGreatProg.lean LOADS. Nothing in Lean hashes anything: it is a label: what it is worth is what the hold of that sum in a sandbox is worth. -/
noncomputable def Tryz.pinned : Pinned := { name := "ytoelopghilbfeaagreat", sum := "b8c57a9528965f9862039e37c7d22e0f62ae2e831e483d9b6ba0524783e525d4", checked := Tryz.checked }
namespace Rows
def none {H : Type} : Left H := { results := [], args := [] }

/-- 'scullerylaw16.StoreSpreads': WHATEVER THE INPUT: true; the input reads as it did. -/
def storeSpreadsSpec : ChangeSpec := { name := "storeSpreads", fn := fun _ => fun
  | [d1, d2] => { results := [.lit (.bool true)], args := [d1, d2] }
  | _ => none }
def storeSpreadsRow : OpenClaim := { program := "ytoelopghilbfeaagreat", sum := "b8c57a9528965f9862039e37c7d22e0f62ae2e831e483d9b6ba0524783e525d4", func := "scullery/scullerylaw16.StoreSpreads", spec := "storeSpreads", inPlace := ["internal/bytealg.MakeNoZero"], unfollowed := true, recurses := true, apart := false }
def StoreSpreadsSaid : Prop := storeSpreadsRow.holds Tryz.pinned (OpenSpec.ofChange storeSpreadsSpec)

/-- ITS FALSE NEIGHBOUR: 'it returns false'. Refute it at one input. -/
def storeSpreadsWrong : ChangeSpec := { name := "storeSpreads", fn := fun _ => fun
  | [d1, d2] => { results := [.lit (.bool false)], args := [d1, d2] }
  | _ => none }
def StoreSpreadsWrongFalsely : Prop := storeSpreadsRow.holds Tryz.pinned (OpenSpec.ofChange storeSpreadsWrong)

/-- 'scullerylaw16.StoreBad': WHATEVER THE INPUT: true; the input reads as it did. -/
def storeBadSpec : ChangeSpec := { name := "storeBad", fn := fun _ => fun
  | [d1, d2, d3] => { results := [.lit (.bool true)], args := [d1, d2, d3] }
  | _ => none }
def storeBadRow : OpenClaim := { program := "ytoelopghilbfeaagreat", sum := "b8c57a9528965f9862039e37c7d22e0f62ae2e831e483d9b6ba0524783e525d4", func := "scullery/scullerylaw16.StoreBad", spec := "storeBad", inPlace := ["internal/bytealg.MakeNoZero"], unfollowed := true, recurses := true, apart := false }
def StoreBadSaid : Prop := storeBadRow.holds Tryz.pinned (OpenSpec.ofChange storeBadSpec)

/-- ITS FALSE NEIGHBOUR: 'it returns false'. Refute it at one input. -/
def storeBadWrong : ChangeSpec := { name := "storeBad", fn := fun _ => fun
  | [d1, d2, d3] => { results := [.lit (.bool false)], args := [d1, d2, d3] }
  | _ => none }
def StoreBadWrongFalsely : Prop := storeBadRow.holds Tryz.pinned (OpenSpec.ofChange storeBadWrong)

/-- 'scullerylaw16.StoreKeeps': WHATEVER THE INPUT: true; the input reads as it did. -/
def storeKeepsSpec : ChangeSpec := { name := "storeKeeps", fn := fun _ => fun
  | [d1, d2] => { results := [.lit (.bool true)], args := [d1, d2] }
  | _ => none }
def storeKeepsRow : OpenClaim := { program := "ytoelopghilbfeaagreat", sum := "b8c57a9528965f9862039e37c7d22e0f62ae2e831e483d9b6ba0524783e525d4", func := "scullery/scullerylaw16.StoreKeeps", spec := "storeKeeps", inPlace := ["internal/bytealg.MakeNoZero"], unfollowed := true, recurses := true, apart := false }
def StoreKeepsSaid : Prop := storeKeepsRow.holds Tryz.pinned (OpenSpec.ofChange storeKeepsSpec)

/-- ITS FALSE NEIGHBOUR: 'it returns false'. Refute it at one input. -/
def storeKeepsWrong : ChangeSpec := { name := "storeKeeps", fn := fun _ => fun
  | [d1, d2] => { results := [.lit (.bool false)], args := [d1, d2] }
  | _ => none }
def StoreKeepsWrongFalsely : Prop := storeKeepsRow.holds Tryz.pinned (OpenSpec.ofChange storeKeepsWrong)

/-- 'scullerylaw16.StoreScript': WHATEVER THE INPUT: true; the input reads as it did. -/
def storeScriptSpec : ChangeSpec := { name := "storeScript", fn := fun _ => fun
  | [d1, d2, d3] => { results := [.lit (.bool true)], args := [d1, d2, d3] }
  | _ => none }
def storeScriptRow : OpenClaim := { program := "ytoelopghilbfeaagreat", sum := "b8c57a9528965f9862039e37c7d22e0f62ae2e831e483d9b6ba0524783e525d4", func := "scullery/scullerylaw16.StoreScript", spec := "storeScript", inPlace := ["internal/bytealg.MakeNoZero"], unfollowed := true, recurses := true, apart := false }
def StoreScriptSaid : Prop := storeScriptRow.holds Tryz.pinned (OpenSpec.ofChange storeScriptSpec)

/-- ITS FALSE NEIGHBOUR: 'it returns false'. Refute it at one input. -/
def storeScriptWrong : ChangeSpec := { name := "storeScript", fn := fun _ => fun
  | [d1, d2, d3] => { results := [.lit (.bool false)], args := [d1, d2, d3] }
  | _ => none }
def StoreScriptWrongFalsely : Prop := storeScriptRow.holds Tryz.pinned (OpenSpec.ofChange storeScriptWrong)

/-- 'scullerylaw16.StorePlaces': WHATEVER THE INPUT: true; the input reads as it did. -/
def storePlacesSpec : ChangeSpec := { name := "storePlaces", fn := fun _ => fun
  | [d1, d2] => { results := [.lit (.bool true)], args := [d1, d2] }
  | _ => none }
def storePlacesRow : OpenClaim := { program := "ytoelopghilbfeaagreat", sum := "b8c57a9528965f9862039e37c7d22e0f62ae2e831e483d9b6ba0524783e525d4", func := "scullery/scullerylaw16.StorePlaces", spec := "storePlaces", inPlace := ["internal/bytealg.MakeNoZero"], unfollowed := true, recurses := true, apart := false }
def StorePlacesSaid : Prop := storePlacesRow.holds Tryz.pinned (OpenSpec.ofChange storePlacesSpec)

/-- ITS FALSE NEIGHBOUR: 'it returns false'. Refute it at one input. -/
def storePlacesWrong : ChangeSpec := { name := "storePlaces", fn := fun _ => fun
  | [d1, d2] => { results := [.lit (.bool false)], args := [d1, d2] }
  | _ => none }
def StorePlacesWrongFalsely : Prop := storePlacesRow.holds Tryz.pinned (OpenSpec.ofChange storePlacesWrong)

/-- 'scullerylaw16.StoreSealed': WHATEVER THE INPUT: true; the input reads as it did. -/
def storeSealedSpec : ChangeSpec := { name := "storeSealed", fn := fun _ => fun
  | [d1, d2, d3] => { results := [.lit (.bool true)], args := [d1, d2, d3] }
  | _ => none }
def storeSealedRow : OpenClaim := { program := "ytoelopghilbfeaagreat", sum := "b8c57a9528965f9862039e37c7d22e0f62ae2e831e483d9b6ba0524783e525d4", func := "scullery/scullerylaw16.StoreSealed", spec := "storeSealed", inPlace := ["internal/bytealg.MakeNoZero"], unfollowed := true, recurses := true, apart := false }
def StoreSealedSaid : Prop := storeSealedRow.holds Tryz.pinned (OpenSpec.ofChange storeSealedSpec)

/-- ITS FALSE NEIGHBOUR: 'it returns false'. Refute it at one input. -/
def storeSealedWrong : ChangeSpec := { name := "storeSealed", fn := fun _ => fun
  | [d1, d2, d3] => { results := [.lit (.bool false)], args := [d1, d2, d3] }
  | _ => none }
def StoreSealedWrongFalsely : Prop := storeSealedRow.holds Tryz.pinned (OpenSpec.ofChange storeSealedWrong)

/-- 'scullerylaw16.StoreNone': WHATEVER THE INPUT: true; the input reads as it did. -/
def storeNoneSpec : ChangeSpec := { name := "storeNone", fn := fun _ => fun
  | [d1, d2] => { results := [.lit (.bool true)], args := [d1, d2] }
  | _ => none }
def storeNoneRow : OpenClaim := { program := "ytoelopghilbfeaagreat", sum := "b8c57a9528965f9862039e37c7d22e0f62ae2e831e483d9b6ba0524783e525d4", func := "scullery/scullerylaw16.StoreNone", spec := "storeNone", inPlace := ["internal/bytealg.MakeNoZero"], unfollowed := true, recurses := true, apart := false }
def StoreNoneSaid : Prop := storeNoneRow.holds Tryz.pinned (OpenSpec.ofChange storeNoneSpec)

/-- ITS FALSE NEIGHBOUR: 'it returns false'. Refute it at one input. -/
def storeNoneWrong : ChangeSpec := { name := "storeNone", fn := fun _ => fun
  | [d1, d2] => { results := [.lit (.bool false)], args := [d1, d2] }
  | _ => none }
def StoreNoneWrongFalsely : Prop := storeNoneRow.holds Tryz.pinned (OpenSpec.ofChange storeNoneWrong)

/-- 'scullerylaw16.StoreRoom': WHATEVER THE INPUT: true; the input reads as it did. -/
def storeRoomSpec : ChangeSpec := { name := "storeRoom", fn := fun _ => fun
  | [d1, d2] => { results := [.lit (.bool true)], args := [d1, d2] }
  | _ => none }
def storeRoomRow : OpenClaim := { program := "ytoelopghilbfeaagreat", sum := "b8c57a9528965f9862039e37c7d22e0f62ae2e831e483d9b6ba0524783e525d4", func := "scullery/scullerylaw16.StoreRoom", spec := "storeRoom", inPlace := ["internal/bytealg.MakeNoZero"], unfollowed := true, recurses := true, apart := false }
def StoreRoomSaid : Prop := storeRoomRow.holds Tryz.pinned (OpenSpec.ofChange storeRoomSpec)

/-- ITS FALSE NEIGHBOUR: 'it returns false'. Refute it at one input. -/
def storeRoomWrong : ChangeSpec := { name := "storeRoom", fn := fun _ => fun
  | [d1, d2] => { results := [.lit (.bool false)], args := [d1, d2] }
  | _ => none }
def StoreRoomWrongFalsely : Prop := storeRoomRow.holds Tryz.pinned (OpenSpec.ofChange storeRoomWrong)

/- THE SECOND FORM. 'bulk': how many values and letters a reading holds, each counted each time it is reached (what is shared counts as often as it is met; a slice's spare places count too). A statement '..UptoSaid' is the law's where the arguments, and the package variables that the reading takes, are together of bulk at most 1048576: NARROWER than '..Said'. Prove '..Said' where nothing that the law and all that it calls make is longer than what came in: it says more and counts as full. Else prove '..UptoSaid'. A law counts once. -/
mutual
def uptoBulk {H : Type} : DataW H → Nat
  | .lit (.string bytes) => bytes.length + 1
  | .lit _ => 1
  | .nil => 1
  | .ptr d => uptoBulk d + 1
  | .slice elems spare => uptoBulkAll elems + uptoBulkAll spare + 1
  | .agg parts => uptoBulkAll parts + 1
  | .iface _ d => uptoBulk d + 1
  | .map entries => uptoBulkEntries entries + 1
  | .held _ => 1
def uptoBulkAll {H : Type} : List (DataW H) → Nat
  | [] => 0
  | d :: r => uptoBulk d + uptoBulkAll r
def uptoBulkEntries {H : Type} : List (Lit × DataW H) → Nat
  | [] => 0
  | x :: r => uptoBulkEntry x + uptoBulkEntries r
def uptoBulkEntry {H : Type} : Lit × DataW H → Nat
  | (.string bytes, d) => bytes.length + uptoBulk d + 1
  | (_, d) => uptoBulk d + 1
 end
def uptoSmall : (H : Type) → List (DataW H) → Bool := fun _ ds => decide (uptoBulkAll ds ≤ 1048576)
def OpenSpec.upto (s : _root_.Go.ChangeSpec) : _root_.Go.OpenSpec := { _root_.Go.OpenSpec.ofChange s with cond := some uptoSmall }

/-- 'scullerylaw16.StoreSpreads', WHERE WHAT IT READS IS OF BULK AT MOST 1048576: true; the input reads as it did. -/
def storeSpreadsUptoRow : OpenClaim := { program := "ytoelopghilbfeaagreat", sum := "b8c57a9528965f9862039e37c7d22e0f62ae2e831e483d9b6ba0524783e525d4", func := "scullery/scullerylaw16.StoreSpreads", spec := "storeSpreads", inPlace := ["internal/bytealg.MakeNoZero"], unfollowed := true, recurses := true, apart := false, narrowed := true }
def StoreSpreadsUptoSaid : Prop := storeSpreadsUptoRow.holds Tryz.pinned (OpenSpec.upto storeSpreadsSpec)

/-- 'scullerylaw16.StoreBad', WHERE WHAT IT READS IS OF BULK AT MOST 1048576: true; the input reads as it did. -/
def storeBadUptoRow : OpenClaim := { program := "ytoelopghilbfeaagreat", sum := "b8c57a9528965f9862039e37c7d22e0f62ae2e831e483d9b6ba0524783e525d4", func := "scullery/scullerylaw16.StoreBad", spec := "storeBad", inPlace := ["internal/bytealg.MakeNoZero"], unfollowed := true, recurses := true, apart := false, narrowed := true }
def StoreBadUptoSaid : Prop := storeBadUptoRow.holds Tryz.pinned (OpenSpec.upto storeBadSpec)

/-- 'scullerylaw16.StoreKeeps', WHERE WHAT IT READS IS OF BULK AT MOST 1048576: true; the input reads as it did. -/
def storeKeepsUptoRow : OpenClaim := { program := "ytoelopghilbfeaagreat", sum := "b8c57a9528965f9862039e37c7d22e0f62ae2e831e483d9b6ba0524783e525d4", func := "scullery/scullerylaw16.StoreKeeps", spec := "storeKeeps", inPlace := ["internal/bytealg.MakeNoZero"], unfollowed := true, recurses := true, apart := false, narrowed := true }
def StoreKeepsUptoSaid : Prop := storeKeepsUptoRow.holds Tryz.pinned (OpenSpec.upto storeKeepsSpec)

/-- 'scullerylaw16.StoreScript', WHERE WHAT IT READS IS OF BULK AT MOST 1048576: true; the input reads as it did. -/
def storeScriptUptoRow : OpenClaim := { program := "ytoelopghilbfeaagreat", sum := "b8c57a9528965f9862039e37c7d22e0f62ae2e831e483d9b6ba0524783e525d4", func := "scullery/scullerylaw16.StoreScript", spec := "storeScript", inPlace := ["internal/bytealg.MakeNoZero"], unfollowed := true, recurses := true, apart := false, narrowed := true }
def StoreScriptUptoSaid : Prop := storeScriptUptoRow.holds Tryz.pinned (OpenSpec.upto storeScriptSpec)

/-- 'scullerylaw16.StorePlaces', WHERE WHAT IT READS IS OF BULK AT MOST 1048576: true; the input reads as it did. -/
def storePlacesUptoRow : OpenClaim := { program := "ytoelopghilbfeaagreat", sum := "b8c57a9528965f9862039e37c7d22e0f62ae2e831e483d9b6ba0524783e525d4", func := "scullery/scullerylaw16.StorePlaces", spec := "storePlaces", inPlace := ["internal/bytealg.MakeNoZero"], unfollowed := true, recurses := true, apart := false, narrowed := true }
def StorePlacesUptoSaid : Prop := storePlacesUptoRow.holds Tryz.pinned (OpenSpec.upto storePlacesSpec)

/-- 'scullerylaw16.StoreSealed', WHERE WHAT IT READS IS OF BULK AT MOST 1048576: true; the input reads as it did. -/
def storeSealedUptoRow : OpenClaim := { program := "ytoelopghilbfeaagreat", sum := "b8c57a9528965f9862039e37c7d22e0f62ae2e831e483d9b6ba0524783e525d4", func := "scullery/scullerylaw16.StoreSealed", spec := "storeSealed", inPlace := ["internal/bytealg.MakeNoZero"], unfollowed := true, recurses := true, apart := false, narrowed := true }
def StoreSealedUptoSaid : Prop := storeSealedUptoRow.holds Tryz.pinned (OpenSpec.upto storeSealedSpec)

/-- 'scullerylaw16.StoreNone', WHERE WHAT IT READS IS OF BULK AT MOST 1048576: true; the input reads as it did. -/
def storeNoneUptoRow : OpenClaim := { program := "ytoelopghilbfeaagreat", sum := "b8c57a9528965f9862039e37c7d22e0f62ae2e831e483d9b6ba0524783e525d4", func := "scullery/scullerylaw16.StoreNone", spec := "storeNone", inPlace := ["internal/bytealg.MakeNoZero"], unfollowed := true, recurses := true, apart := false, narrowed := true }
def StoreNoneUptoSaid : Prop := storeNoneUptoRow.holds Tryz.pinned (OpenSpec.upto storeNoneSpec)

/-- 'scullerylaw16.StoreRoom', WHERE WHAT IT READS IS OF BULK AT MOST 1048576: true; the input reads as it did. -/
def storeRoomUptoRow : OpenClaim := { program := "ytoelopghilbfeaagreat", sum := "b8c57a9528965f9862039e37c7d22e0f62ae2e831e483d9b6ba0524783e525d4", func := "scullery/scullerylaw16.StoreRoom", spec := "storeRoom", inPlace := ["internal/bytealg.MakeNoZero"], unfollowed := true, recurses := true, apart := false, narrowed := true }
def StoreRoomUptoSaid : Prop := storeRoomUptoRow.holds Tryz.pinned (OpenSpec.upto storeRoomSpec)

end Rows
end Go.Proofs.YtoelopghilbfeaaGreat
