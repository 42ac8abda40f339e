/-
  DERIVED. GIVEN WITH THE SEED: THE CARDS: each row of YtkddkpmijhionaaGreatDoorRows.lean that lists a variable, with what it lists TIED to the program's text (the seventh form; the later family's looks); each row that meets fmt, with fmt's text TOLD by the authors' own Lean function (tested against real Go, not proved from fmt's source: count such statements apart). THE CARD IS WHAT COUNTS. Prove the row's statement (the work); the ties are given (YtkddkpmijhionaaGreatDoorTie.lean); close each card by the builder's one call (the guide's Derived/Test/ToyasCard.lean, 'card_holds'). Laid BY PROGRAM, IN A SANDBOX (cutbox-door.mjs). By AI agents, Wed Nov 11 2026. No macro, syntax, notation, axiom, sorry.
-/
import Derived.Test.YtkddkpmijhionaaGreatDoorRows
import GoSem.ClaimSeven
namespace Go.Proofs.YtkddkpmijhionaaGreatDoor
namespace Rows

/-- THE TIED CARD OF 'cotterellaw45.PlaceStage'. -/
def placeStageCard : Claim7 := { stood := { row := placeStageRow, standIns := [], harness := (true, "d79055b58fcab8e45ca7f2931bebe3d0096271ed6932a40516a459ebbea6c31e"), looks := false }, kinds := [], alts := [], laidByText := true, laidKinds := [.data], laidTests := true, laidLooks := .later }
def PlaceStageCardSaid : Prop := Claim7.holds Tryz.pinned (.plain (OpenSpec.ofChange placeStageSpec)) placeStageCard

/-- THE TIED CARD OF 'cotterellaw45.PlaceOrder'. -/
def placeOrderCard : Claim7 := { stood := { row := placeOrderRow, standIns := [], harness := (true, "d79055b58fcab8e45ca7f2931bebe3d0096271ed6932a40516a459ebbea6c31e"), looks := false }, kinds := [], alts := [], laidByText := true, laidKinds := [.data], laidTests := true, laidLooks := .later }
def PlaceOrderCardSaid : Prop := Claim7.holds Tryz.pinned (.plain (OpenSpec.ofChange placeOrderSpec)) placeOrderCard

/-- THE TIED CARD OF 'cotterellaw45.PlaceKeeps'. -/
def placeKeepsCard : Claim7 := { stood := { row := placeKeepsRow, standIns := [], harness := (true, "d79055b58fcab8e45ca7f2931bebe3d0096271ed6932a40516a459ebbea6c31e"), looks := false }, kinds := [], alts := [], laidByText := true, laidKinds := [.data], laidTests := true, laidLooks := .later }
def PlaceKeepsCardSaid : Prop := Claim7.holds Tryz.pinned (.plain (OpenSpec.ofChange placeKeepsSpec)) placeKeepsCard

/-- THE SECOND FORM's CARD OF 'cotterellaw45.PlaceStage'. -/
def placeStageUptoCard : Claim7 := { stood := { row := placeStageUptoRow, standIns := [], harness := (true, "d79055b58fcab8e45ca7f2931bebe3d0096271ed6932a40516a459ebbea6c31e"), looks := false }, kinds := [], alts := [], laidByText := true, laidKinds := [.data], laidTests := true, laidLooks := .later }
def PlaceStageUptoCardSaid : Prop := Claim7.holds Tryz.pinned (.plain (OpenSpec.upto placeStageSpec)) placeStageUptoCard

/-- THE SECOND FORM's CARD OF 'cotterellaw45.PlaceOrder'. -/
def placeOrderUptoCard : Claim7 := { stood := { row := placeOrderUptoRow, standIns := [], harness := (true, "d79055b58fcab8e45ca7f2931bebe3d0096271ed6932a40516a459ebbea6c31e"), looks := false }, kinds := [], alts := [], laidByText := true, laidKinds := [.data], laidTests := true, laidLooks := .later }
def PlaceOrderUptoCardSaid : Prop := Claim7.holds Tryz.pinned (.plain (OpenSpec.upto placeOrderSpec)) placeOrderUptoCard

/-- THE SECOND FORM's CARD OF 'cotterellaw45.PlaceKeeps'. -/
def placeKeepsUptoCard : Claim7 := { stood := { row := placeKeepsUptoRow, standIns := [], harness := (true, "d79055b58fcab8e45ca7f2931bebe3d0096271ed6932a40516a459ebbea6c31e"), looks := false }, kinds := [], alts := [], laidByText := true, laidKinds := [.data], laidTests := true, laidLooks := .later }
def PlaceKeepsUptoCardSaid : Prop := Claim7.holds Tryz.pinned (.plain (OpenSpec.upto placeKeepsSpec)) placeKeepsUptoCard
end Rows
end Go.Proofs.YtkddkpmijhionaaGreatDoor
