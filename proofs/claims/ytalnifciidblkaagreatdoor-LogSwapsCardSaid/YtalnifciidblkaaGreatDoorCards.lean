/-
  DERIVED. GIVEN WITH THE SEED: THE CARDS: each row of YtalnifciidblkaaGreatDoorRows.lean that lists a variable, with what it lists TIED to the program's text (the seventh form; the later family's looks); each row that meets fmt, with fmt's text TOLD by the authors' own Lean function (tested against real Go, not proved from fmt's source: count such statements apart). THE CARD IS WHAT COUNTS. Prove the row's statement (the work); the ties are given (YtalnifciidblkaaGreatDoorTie.lean); close each card by the builder's one call (the guide's Derived/Test/ToyasCard.lean, 'card_holds'). Laid BY PROGRAM, IN A SANDBOX (cutbox-door.mjs). By AI agents, Wed Nov 11 2026. No macro, syntax, notation, axiom, sorry.
-/
import Derived.Test.YtalnifciidblkaaGreatDoorRows
import GoSem.ClaimSeven
namespace Go.Proofs.YtalnifciidblkaaGreatDoor
namespace Rows

/-- THE TIED CARD OF 'scullerylaw17.LogRefuses'. -/
def logRefusesCard : Claim7 := { stood := { row := logRefusesRow, standIns := [], harness := (true, "79a7dd9590514200b518c3bbc5d5b4ee932f443178269afdd89765bc055c0421"), looks := true }, kinds := [], alts := [], laidByText := true, laidKinds := [.data, .pinned], laidTests := true, laidLooks := .later }
def LogRefusesCardSaid : Prop := Claim7.holds Tryz.pinned (.plain (OpenSpec.ofChange logRefusesSpec)) logRefusesCard

/-- THE TIED CARD OF 'scullerylaw17.LogSwaps'. -/
def logSwapsCard : Claim7 := { stood := { row := logSwapsRow, standIns := [], harness := (true, "79a7dd9590514200b518c3bbc5d5b4ee932f443178269afdd89765bc055c0421"), looks := true }, kinds := [], alts := [], laidByText := true, laidKinds := [.data, .pinned], laidTests := true, laidLooks := .later }
def LogSwapsCardSaid : Prop := Claim7.holds Tryz.pinned (.plain (OpenSpec.ofChange logSwapsSpec)) logSwapsCard

/-- THE TIED CARD OF 'scullerylaw17.LogScript'. -/
def logScriptCard : Claim7 := { stood := { row := logScriptRow, standIns := [], harness := (true, "79a7dd9590514200b518c3bbc5d5b4ee932f443178269afdd89765bc055c0421"), looks := true }, kinds := [], alts := [], laidByText := true, laidKinds := [.data, .pinned], laidTests := true, laidLooks := .later }
def LogScriptCardSaid : Prop := Claim7.holds Tryz.pinned (.plain (OpenSpec.ofChange logScriptSpec)) logScriptCard

/-- THE TIED CARD OF 'scullerylaw17.LogLoads'. -/
def logLoadsCard : Claim7 := { stood := { row := logLoadsRow, standIns := [], harness := (true, "79a7dd9590514200b518c3bbc5d5b4ee932f443178269afdd89765bc055c0421"), looks := true }, kinds := [], alts := [], laidByText := true, laidKinds := [.data, .pinned], laidTests := true, laidLooks := .later }
def LogLoadsCardSaid : Prop := Claim7.holds Tryz.pinned (.plain (OpenSpec.ofChange logLoadsSpec)) logLoadsCard

/-- THE TIED CARD OF 'scullerylaw17.LogChecks'. -/
def logChecksCard : Claim7 := { stood := { row := logChecksRow, standIns := [], harness := (true, "79a7dd9590514200b518c3bbc5d5b4ee932f443178269afdd89765bc055c0421"), looks := true }, kinds := [], alts := [], laidByText := true, laidKinds := [.data, .pinned], laidTests := true, laidLooks := .later }
def LogChecksCardSaid : Prop := Claim7.holds Tryz.pinned (.plain (OpenSpec.ofChange logChecksSpec)) logChecksCard

/-- THE TIED CARD OF 'scullerylaw17.LogTorn'. -/
def logTornCard : Claim7 := { stood := { row := logTornRow, standIns := [], harness := (true, "79a7dd9590514200b518c3bbc5d5b4ee932f443178269afdd89765bc055c0421"), looks := true }, kinds := [], alts := [], laidByText := true, laidKinds := [.data, .pinned], laidTests := true, laidLooks := .later }
def LogTornCardSaid : Prop := Claim7.holds Tryz.pinned (.plain (OpenSpec.ofChange logTornSpec)) logTornCard

/-- THE SECOND FORM's CARD OF 'scullerylaw17.LogRefuses'. -/
def logRefusesUptoCard : Claim7 := { stood := { row := logRefusesUptoRow, standIns := [], harness := (true, "79a7dd9590514200b518c3bbc5d5b4ee932f443178269afdd89765bc055c0421"), looks := true }, kinds := [], alts := [], laidByText := true, laidKinds := [.data, .pinned], laidTests := true, laidLooks := .later }
def LogRefusesUptoCardSaid : Prop := Claim7.holds Tryz.pinned (.plain (OpenSpec.upto logRefusesSpec)) logRefusesUptoCard

/-- THE SECOND FORM's CARD OF 'scullerylaw17.LogSwaps'. -/
def logSwapsUptoCard : Claim7 := { stood := { row := logSwapsUptoRow, standIns := [], harness := (true, "79a7dd9590514200b518c3bbc5d5b4ee932f443178269afdd89765bc055c0421"), looks := true }, kinds := [], alts := [], laidByText := true, laidKinds := [.data, .pinned], laidTests := true, laidLooks := .later }
def LogSwapsUptoCardSaid : Prop := Claim7.holds Tryz.pinned (.plain (OpenSpec.upto logSwapsSpec)) logSwapsUptoCard

/-- THE SECOND FORM's CARD OF 'scullerylaw17.LogScript'. -/
def logScriptUptoCard : Claim7 := { stood := { row := logScriptUptoRow, standIns := [], harness := (true, "79a7dd9590514200b518c3bbc5d5b4ee932f443178269afdd89765bc055c0421"), looks := true }, kinds := [], alts := [], laidByText := true, laidKinds := [.data, .pinned], laidTests := true, laidLooks := .later }
def LogScriptUptoCardSaid : Prop := Claim7.holds Tryz.pinned (.plain (OpenSpec.upto logScriptSpec)) logScriptUptoCard

/-- THE SECOND FORM's CARD OF 'scullerylaw17.LogLoads'. -/
def logLoadsUptoCard : Claim7 := { stood := { row := logLoadsUptoRow, standIns := [], harness := (true, "79a7dd9590514200b518c3bbc5d5b4ee932f443178269afdd89765bc055c0421"), looks := true }, kinds := [], alts := [], laidByText := true, laidKinds := [.data, .pinned], laidTests := true, laidLooks := .later }
def LogLoadsUptoCardSaid : Prop := Claim7.holds Tryz.pinned (.plain (OpenSpec.upto logLoadsSpec)) logLoadsUptoCard

/-- THE SECOND FORM's CARD OF 'scullerylaw17.LogChecks'. -/
def logChecksUptoCard : Claim7 := { stood := { row := logChecksUptoRow, standIns := [], harness := (true, "79a7dd9590514200b518c3bbc5d5b4ee932f443178269afdd89765bc055c0421"), looks := true }, kinds := [], alts := [], laidByText := true, laidKinds := [.data, .pinned], laidTests := true, laidLooks := .later }
def LogChecksUptoCardSaid : Prop := Claim7.holds Tryz.pinned (.plain (OpenSpec.upto logChecksSpec)) logChecksUptoCard

/-- THE SECOND FORM's CARD OF 'scullerylaw17.LogTorn'. -/
def logTornUptoCard : Claim7 := { stood := { row := logTornUptoRow, standIns := [], harness := (true, "79a7dd9590514200b518c3bbc5d5b4ee932f443178269afdd89765bc055c0421"), looks := true }, kinds := [], alts := [], laidByText := true, laidKinds := [.data, .pinned], laidTests := true, laidLooks := .later }
def LogTornUptoCardSaid : Prop := Claim7.holds Tryz.pinned (.plain (OpenSpec.upto logTornSpec)) logTornUptoCard
end Rows
end Go.Proofs.YtalnifciidblkaaGreatDoor
