/-
  DERIVED. GIVEN WITH THE SEED: THE CARDS: each row of YtpofngmiepljeaaDoorRows.lean that lists a variable, with what it lists TIED to the program's text (the seventh form; the later family's looks); each row that meets fmt, with fmt's text TOLD by the authors' own Lean function (tested against real Go, not proved from fmt's source: count such statements apart). THE CARD IS WHAT COUNTS. Prove the row's statement (the work); the ties are given (YtpofngmiepljeaaDoorTie.lean); close each card by the builder's one call (the guide's Derived/Test/ToyasCard.lean, 'card_holds'). Laid BY PROGRAM, IN A SANDBOX (cutbox-door.mjs). By AI agents, Wed Nov 11 2026. No macro, syntax, notation, axiom, sorry.
-/
import Derived.Test.YtpofngmiepljeaaDoorRows
import GoSem.ClaimSeven
namespace Go.Proofs.YtpofngmiepljeaaDoor
namespace Rows

/-- THE TIED CARD OF 'cotterellaw15.StepChanges'. -/
def stepChangesCard : Claim7 := { stood := { row := stepChangesRow, standIns := [], harness := (true, "814c6e333e56da3e1be3c093d99ff35346a9c6e39bad1085986ccdc4bef1567d"), looks := false }, kinds := [], alts := [], laidByText := true, laidKinds := [.data], laidTests := true, laidLooks := .later }
def StepChangesCardSaid : Prop := Claim7.holds Tryd.pinned (.plain (OpenSpec.ofChange stepChangesSpec)) stepChangesCard

/-- THE TIED CARD OF 'cotterellaw15.StepShadow'. -/
def stepShadowCard : Claim7 := { stood := { row := stepShadowRow, standIns := [], harness := (true, "814c6e333e56da3e1be3c093d99ff35346a9c6e39bad1085986ccdc4bef1567d"), looks := false }, kinds := [], alts := [], laidByText := true, laidKinds := [.data], laidTests := true, laidLooks := .later }
def StepShadowCardSaid : Prop := Claim7.holds Tryd.pinned (.plain (OpenSpec.ofChange stepShadowSpec)) stepShadowCard

/-- THE SECOND FORM's CARD OF 'cotterellaw15.StepChanges'. -/
def stepChangesUptoCard : Claim7 := { stood := { row := stepChangesUptoRow, standIns := [], harness := (true, "814c6e333e56da3e1be3c093d99ff35346a9c6e39bad1085986ccdc4bef1567d"), looks := false }, kinds := [], alts := [], laidByText := true, laidKinds := [.data], laidTests := true, laidLooks := .later }
def StepChangesUptoCardSaid : Prop := Claim7.holds Tryd.pinned (.plain (OpenSpec.upto stepChangesSpec)) stepChangesUptoCard

/-- THE SECOND FORM's CARD OF 'cotterellaw15.StepShadow'. -/
def stepShadowUptoCard : Claim7 := { stood := { row := stepShadowUptoRow, standIns := [], harness := (true, "814c6e333e56da3e1be3c093d99ff35346a9c6e39bad1085986ccdc4bef1567d"), looks := false }, kinds := [], alts := [], laidByText := true, laidKinds := [.data], laidTests := true, laidLooks := .later }
def StepShadowUptoCardSaid : Prop := Claim7.holds Tryd.pinned (.plain (OpenSpec.upto stepShadowSpec)) stepShadowUptoCard
end Rows
end Go.Proofs.YtpofngmiepljeaaDoor
