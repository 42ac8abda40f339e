/-
  DERIVED. GIVEN WITH THE SEED: THE CARDS: each row of YtiadkommiljbpaaGreatDoorRows.lean that lists a variable, with what it lists TIED to the program's text (the seventh form; the later family's looks); each row that meets fmt, with fmt's text TOLD by the authors' own Lean function (tested against real Go, not proved from fmt's source: count such statements apart). THE CARD IS WHAT COUNTS. Prove the row's statement (the work); the ties are given (YtiadkommiljbpaaGreatDoorTie.lean); close each card by the builder's one call (the guide's Derived/Test/ToyasCard.lean, 'card_holds'). Laid BY PROGRAM, IN A SANDBOX (cutbox-door.mjs). By AI agents, Wed Nov 11 2026. No macro, syntax, notation, axiom, sorry.
-/
import Derived.Test.YtiadkommiljbpaaGreatDoorRows
import GoSem.ClaimSeven
namespace Go.Proofs.YtiadkommiljbpaaGreatDoor
namespace Rows

/-- THE TIED CARD OF 'cotterellaw15.StepDoes'. -/
def stepDoesCard : Claim7 := { stood := { row := stepDoesRow, standIns := [], harness := (true, "e2afd7b464e6cfdb0eccaa02f16ea6b549570c64dd9866fc30eb4782607302d1"), looks := false }, kinds := [], alts := [], laidByText := true, laidKinds := [.data], laidTests := true, laidLooks := .later }
def StepDoesCardSaid : Prop := Claim7.holds Tryz.pinned (.plain (OpenSpec.ofChange stepDoesSpec)) stepDoesCard

/-- THE TIED CARD OF 'cotterellaw15.StepNew'. -/
def stepNewCard : Claim7 := { stood := { row := stepNewRow, standIns := [], harness := (true, "e2afd7b464e6cfdb0eccaa02f16ea6b549570c64dd9866fc30eb4782607302d1"), looks := false }, kinds := [], alts := [], laidByText := true, laidKinds := [.data], laidTests := true, laidLooks := .later }
def StepNewCardSaid : Prop := Claim7.holds Tryz.pinned (.plain (OpenSpec.ofChange stepNewSpec)) stepNewCard

/-- THE TIED CARD OF 'cotterellaw15.StepPrecise'. -/
def stepPreciseCard : Claim7 := { stood := { row := stepPreciseRow, standIns := [], harness := (true, "e2afd7b464e6cfdb0eccaa02f16ea6b549570c64dd9866fc30eb4782607302d1"), looks := false }, kinds := [], alts := [], laidByText := true, laidKinds := [.data], laidTests := true, laidLooks := .later }
def StepPreciseCardSaid : Prop := Claim7.holds Tryz.pinned (.plain (OpenSpec.ofChange stepPreciseSpec)) stepPreciseCard

/-- THE SECOND FORM's CARD OF 'cotterellaw15.StepDoes'. -/
def stepDoesUptoCard : Claim7 := { stood := { row := stepDoesUptoRow, standIns := [], harness := (true, "e2afd7b464e6cfdb0eccaa02f16ea6b549570c64dd9866fc30eb4782607302d1"), looks := false }, kinds := [], alts := [], laidByText := true, laidKinds := [.data], laidTests := true, laidLooks := .later }
def StepDoesUptoCardSaid : Prop := Claim7.holds Tryz.pinned (.plain (OpenSpec.upto stepDoesSpec)) stepDoesUptoCard

/-- THE SECOND FORM's CARD OF 'cotterellaw15.StepNew'. -/
def stepNewUptoCard : Claim7 := { stood := { row := stepNewUptoRow, standIns := [], harness := (true, "e2afd7b464e6cfdb0eccaa02f16ea6b549570c64dd9866fc30eb4782607302d1"), looks := false }, kinds := [], alts := [], laidByText := true, laidKinds := [.data], laidTests := true, laidLooks := .later }
def StepNewUptoCardSaid : Prop := Claim7.holds Tryz.pinned (.plain (OpenSpec.upto stepNewSpec)) stepNewUptoCard

/-- THE SECOND FORM's CARD OF 'cotterellaw15.StepPrecise'. -/
def stepPreciseUptoCard : Claim7 := { stood := { row := stepPreciseUptoRow, standIns := [], harness := (true, "e2afd7b464e6cfdb0eccaa02f16ea6b549570c64dd9866fc30eb4782607302d1"), looks := false }, kinds := [], alts := [], laidByText := true, laidKinds := [.data], laidTests := true, laidLooks := .later }
def StepPreciseUptoCardSaid : Prop := Claim7.holds Tryz.pinned (.plain (OpenSpec.upto stepPreciseSpec)) stepPreciseUptoCard
end Rows
end Go.Proofs.YtiadkommiljbpaaGreatDoor
