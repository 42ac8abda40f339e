/-
  DERIVED. GIVEN WITH THE SEED: THE CARDS: each row of YtedhidchlfhegaaGreatDoorRows.lean that lists a variable, with what it lists TIED to the program's text (the seventh form; the later family's looks); each row that meets fmt, with fmt's text TOLD by the authors' own Lean function (tested against real Go, not proved from fmt's source: count such statements apart). THE CARD IS WHAT COUNTS. Prove the row's statement (the work); the ties are given (YtedhidchlfhegaaGreatDoorTie.lean); close each card by the builder's one call (the guide's Derived/Test/ToyasCard.lean, 'card_holds'). Laid BY PROGRAM, IN A SANDBOX (cutbox-door.mjs). By AI agents, Wed Nov 11 2026. No macro, syntax, notation, axiom, sorry.
-/
import Derived.Test.YtedhidchlfhegaaGreatDoorRows
import GoSem.ClaimSeven
namespace Go.Proofs.YtedhidchlfhegaaGreatDoor
namespace Rows

/-- THE TIED CARD OF 'cotterellaw16.RunDoes'. -/
def runDoesCard : Claim7 := { stood := { row := runDoesRow, standIns := [], harness := (true, "7584ab9972c6d7b723d0c7743e5a5789871bb8469b39d9715066f09ec015f1d4"), looks := false }, kinds := [], alts := [], laidByText := true, laidKinds := [.data], laidTests := true, laidLooks := .later }
def RunDoesCardSaid : Prop := Claim7.holds Tryz.pinned (.plain (OpenSpec.ofChange runDoesSpec)) runDoesCard

/-- THE TIED CARD OF 'cotterellaw16.RunLines'. -/
def runLinesCard : Claim7 := { stood := { row := runLinesRow, standIns := [], harness := (true, "7584ab9972c6d7b723d0c7743e5a5789871bb8469b39d9715066f09ec015f1d4"), looks := false }, kinds := [], alts := [], laidByText := true, laidKinds := [.data], laidTests := true, laidLooks := .later }
def RunLinesCardSaid : Prop := Claim7.holds Tryz.pinned (.plain (OpenSpec.ofChange runLinesSpec)) runLinesCard

/-- THE TIED CARD OF 'cotterellaw16.RunReplay'. -/
def runReplayCard : Claim7 := { stood := { row := runReplayRow, standIns := [], harness := (true, "7584ab9972c6d7b723d0c7743e5a5789871bb8469b39d9715066f09ec015f1d4"), looks := false }, kinds := [], alts := [], laidByText := true, laidKinds := [.data], laidTests := true, laidLooks := .later }
def RunReplayCardSaid : Prop := Claim7.holds Tryz.pinned (.plain (OpenSpec.ofChange runReplaySpec)) runReplayCard

/-- THE TIED CARD OF 'cotterellaw16.RunSplits'. -/
def runSplitsCard : Claim7 := { stood := { row := runSplitsRow, standIns := [], harness := (true, "7584ab9972c6d7b723d0c7743e5a5789871bb8469b39d9715066f09ec015f1d4"), looks := false }, kinds := [], alts := [], laidByText := true, laidKinds := [.data], laidTests := true, laidLooks := .later }
def RunSplitsCardSaid : Prop := Claim7.holds Tryz.pinned (.plain (OpenSpec.ofChange runSplitsSpec)) runSplitsCard

/-- THE SECOND FORM's CARD OF 'cotterellaw16.RunDoes'. -/
def runDoesUptoCard : Claim7 := { stood := { row := runDoesUptoRow, standIns := [], harness := (true, "7584ab9972c6d7b723d0c7743e5a5789871bb8469b39d9715066f09ec015f1d4"), looks := false }, kinds := [], alts := [], laidByText := true, laidKinds := [.data], laidTests := true, laidLooks := .later }
def RunDoesUptoCardSaid : Prop := Claim7.holds Tryz.pinned (.plain (OpenSpec.upto runDoesSpec)) runDoesUptoCard

/-- THE SECOND FORM's CARD OF 'cotterellaw16.RunLines'. -/
def runLinesUptoCard : Claim7 := { stood := { row := runLinesUptoRow, standIns := [], harness := (true, "7584ab9972c6d7b723d0c7743e5a5789871bb8469b39d9715066f09ec015f1d4"), looks := false }, kinds := [], alts := [], laidByText := true, laidKinds := [.data], laidTests := true, laidLooks := .later }
def RunLinesUptoCardSaid : Prop := Claim7.holds Tryz.pinned (.plain (OpenSpec.upto runLinesSpec)) runLinesUptoCard

/-- THE SECOND FORM's CARD OF 'cotterellaw16.RunReplay'. -/
def runReplayUptoCard : Claim7 := { stood := { row := runReplayUptoRow, standIns := [], harness := (true, "7584ab9972c6d7b723d0c7743e5a5789871bb8469b39d9715066f09ec015f1d4"), looks := false }, kinds := [], alts := [], laidByText := true, laidKinds := [.data], laidTests := true, laidLooks := .later }
def RunReplayUptoCardSaid : Prop := Claim7.holds Tryz.pinned (.plain (OpenSpec.upto runReplaySpec)) runReplayUptoCard

/-- THE SECOND FORM's CARD OF 'cotterellaw16.RunSplits'. -/
def runSplitsUptoCard : Claim7 := { stood := { row := runSplitsUptoRow, standIns := [], harness := (true, "7584ab9972c6d7b723d0c7743e5a5789871bb8469b39d9715066f09ec015f1d4"), looks := false }, kinds := [], alts := [], laidByText := true, laidKinds := [.data], laidTests := true, laidLooks := .later }
def RunSplitsUptoCardSaid : Prop := Claim7.holds Tryz.pinned (.plain (OpenSpec.upto runSplitsSpec)) runSplitsUptoCard
end Rows
end Go.Proofs.YtedhidchlfhegaaGreatDoor
