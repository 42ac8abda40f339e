/-
  DERIVED. GIVEN WITH THE SEED: THE CARDS: each row of YtedhidchlfhegaaDoorRows.lean that lists a variable, with what it lists TIED to the program's text (the seventh form; the later family's looks); each row that meets fmt, with fmt's text TOLD by the authors' own Lean function (tested against real Go, not proved from fmt's source: count such statements apart). THE CARD IS WHAT COUNTS. Prove the row's statement (the work); the ties are given (YtedhidchlfhegaaDoorTie.lean); close each card by the builder's one call (the guide's Derived/Test/ToyasCard.lean, 'card_holds'). Laid BY PROGRAM, IN A SANDBOX (cutbox-door.mjs). By AI agents, Wed Nov 11 2026. No macro, syntax, notation, axiom, sorry.
-/
import Derived.Test.YtedhidchlfhegaaDoorRows
import GoSem.ClaimSeven
namespace Go.Proofs.YtedhidchlfhegaaDoor
namespace Rows

/-- THE TIED CARD OF 'cotterellaw16.RunFirst'. -/
def runFirstCard : Claim7 := { stood := { row := runFirstRow, standIns := [], harness := (true, "f4a5f5700d11c7a0e245a343eee32bff5bcddace9893a8c733a02cb3bcf06103"), looks := false }, kinds := [], alts := [], laidByText := true, laidKinds := [.data], laidTests := true, laidLooks := .later }
def RunFirstCardSaid : Prop := Claim7.holds Tryd.pinned (.plain (OpenSpec.ofChange runFirstSpec)) runFirstCard

/-- THE SECOND FORM's CARD OF 'cotterellaw16.RunFirst'. -/
def runFirstUptoCard : Claim7 := { stood := { row := runFirstUptoRow, standIns := [], harness := (true, "f4a5f5700d11c7a0e245a343eee32bff5bcddace9893a8c733a02cb3bcf06103"), looks := false }, kinds := [], alts := [], laidByText := true, laidKinds := [.data], laidTests := true, laidLooks := .later }
def RunFirstUptoCardSaid : Prop := Claim7.holds Tryd.pinned (.plain (OpenSpec.upto runFirstSpec)) runFirstUptoCard
end Rows
end Go.Proofs.YtedhidchlfhegaaDoor
