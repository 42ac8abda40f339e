/-
  DERIVED. GIVEN WITH THE SEED: THE CARDS: each row of YtijckobfnmkjdaaGreatDoorRows.lean that lists a variable, with what it lists TIED to the program's text (the seventh form; the later family's looks); each row that meets fmt, with fmt's text TOLD by the authors' own Lean function (tested against real Go, not proved from fmt's source: count such statements apart). THE CARD IS WHAT COUNTS. Prove the row's statement (the work); the ties are given (YtijckobfnmkjdaaGreatDoorTie.lean); close each card by the builder's one call (the guide's Derived/Test/ToyasCard.lean, 'card_holds'). Laid BY PROGRAM, IN A SANDBOX (cutbox-door.mjs). By AI agents, Wed Nov 11 2026. No macro, syntax, notation, axiom, sorry.
-/
import Derived.Test.YtijckobfnmkjdaaGreatDoorRows
import GoSem.ClaimSeven
namespace Go.Proofs.YtijckobfnmkjdaaGreatDoor
namespace Rows

/-- THE TIED CARD OF 'cotterellaw32.ExecPlain'. -/
def execPlainCard : Claim7 := { stood := { row := execPlainRow, standIns := [], harness := (true, "3c218f0553c0b3aedaf224c91bee833b1655d27a5eafa871c13e876fef1e44e1"), looks := false }, kinds := [], alts := [], laidByText := true, laidKinds := [.data], laidTests := true, laidLooks := .later }
def ExecPlainCardSaid : Prop := Claim7.holds Tryz.pinned (.plain (OpenSpec.ofChange execPlainSpec)) execPlainCard

/-- THE SECOND FORM's CARD OF 'cotterellaw32.ExecPlain'. -/
def execPlainUptoCard : Claim7 := { stood := { row := execPlainUptoRow, standIns := [], harness := (true, "3c218f0553c0b3aedaf224c91bee833b1655d27a5eafa871c13e876fef1e44e1"), looks := false }, kinds := [], alts := [], laidByText := true, laidKinds := [.data], laidTests := true, laidLooks := .later }
def ExecPlainUptoCardSaid : Prop := Claim7.holds Tryz.pinned (.plain (OpenSpec.upto execPlainSpec)) execPlainUptoCard
end Rows
end Go.Proofs.YtijckobfnmkjdaaGreatDoor
