/-
  DERIVED. GIVEN WITH THE SEED: THE CARDS: each row of YtchpjkadpdajkaaGreatDoorRows.lean that lists a variable, with what it lists TIED to the program's text (the seventh form; the later family's looks); each row that meets fmt, with fmt's text TOLD by the authors' own Lean function (tested against real Go, not proved from fmt's source: count such statements apart). THE CARD IS WHAT COUNTS. Prove the row's statement (the work); the ties are given (YtchpjkadpdajkaaGreatDoorTie.lean); close each card by the builder's one call (the guide's Derived/Test/ToyasCard.lean, 'card_holds'). Laid BY PROGRAM, IN A SANDBOX (cutbox-door.mjs). By AI agents, Wed Nov 11 2026. No macro, syntax, notation, axiom, sorry.
-/
import Derived.Test.YtchpjkadpdajkaaGreatDoorRows
import GoSem.ClaimSeven
namespace Go.Proofs.YtchpjkadpdajkaaGreatDoor
namespace Rows

/-- THE TIED CARD OF 'cotterellaw48.RetireStage'. -/
def retireStageCard : Claim7 := { stood := { row := retireStageRow, standIns := [], harness := (true, "f3deca6bbc9c4c78a8f85b1fea5d297aa8a1420c08ba033e12fbd575bd410f55"), looks := false }, kinds := [], alts := [], laidByText := true, laidKinds := [.data], laidTests := true, laidLooks := .later }
def RetireStageCardSaid : Prop := Claim7.holds Tryz.pinned (.plain (OpenSpec.ofChange retireStageSpec)) retireStageCard

/-- THE TIED CARD OF 'cotterellaw48.RetireTells'. -/
def retireTellsCard : Claim7 := { stood := { row := retireTellsRow, standIns := [], harness := (true, "f3deca6bbc9c4c78a8f85b1fea5d297aa8a1420c08ba033e12fbd575bd410f55"), looks := false }, kinds := [], alts := [], laidByText := true, laidKinds := [.data], laidTests := true, laidLooks := .later }
def RetireTellsCardSaid : Prop := Claim7.holds Tryz.pinned (.plain (OpenSpec.ofChange retireTellsSpec)) retireTellsCard

/-- THE TIED CARD OF 'cotterellaw48.RetireAlone'. -/
def retireAloneCard : Claim7 := { stood := { row := retireAloneRow, standIns := [], harness := (true, "f3deca6bbc9c4c78a8f85b1fea5d297aa8a1420c08ba033e12fbd575bd410f55"), looks := false }, kinds := [], alts := [], laidByText := true, laidKinds := [.data], laidTests := true, laidLooks := .later }
def RetireAloneCardSaid : Prop := Claim7.holds Tryz.pinned (.plain (OpenSpec.ofChange retireAloneSpec)) retireAloneCard

/-- THE TIED CARD OF 'cotterellaw48.RetireEnds'. -/
def retireEndsCard : Claim7 := { stood := { row := retireEndsRow, standIns := [], harness := (true, "f3deca6bbc9c4c78a8f85b1fea5d297aa8a1420c08ba033e12fbd575bd410f55"), looks := false }, kinds := [], alts := [], laidByText := true, laidKinds := [.data], laidTests := true, laidLooks := .later }
def RetireEndsCardSaid : Prop := Claim7.holds Tryz.pinned (.plain (OpenSpec.ofChange retireEndsSpec)) retireEndsCard

/-- THE TIED CARD OF 'cotterellaw48.RetireReplays'. -/
def retireReplaysCard : Claim7 := { stood := { row := retireReplaysRow, standIns := [], harness := (true, "f3deca6bbc9c4c78a8f85b1fea5d297aa8a1420c08ba033e12fbd575bd410f55"), looks := false }, kinds := [], alts := [], laidByText := true, laidKinds := [.data], laidTests := true, laidLooks := .later }
def RetireReplaysCardSaid : Prop := Claim7.holds Tryz.pinned (.plain (OpenSpec.ofChange retireReplaysSpec)) retireReplaysCard

/-- THE SECOND FORM's CARD OF 'cotterellaw48.RetireStage'. -/
def retireStageUptoCard : Claim7 := { stood := { row := retireStageUptoRow, standIns := [], harness := (true, "f3deca6bbc9c4c78a8f85b1fea5d297aa8a1420c08ba033e12fbd575bd410f55"), looks := false }, kinds := [], alts := [], laidByText := true, laidKinds := [.data], laidTests := true, laidLooks := .later }
def RetireStageUptoCardSaid : Prop := Claim7.holds Tryz.pinned (.plain (OpenSpec.upto retireStageSpec)) retireStageUptoCard

/-- THE SECOND FORM's CARD OF 'cotterellaw48.RetireTells'. -/
def retireTellsUptoCard : Claim7 := { stood := { row := retireTellsUptoRow, standIns := [], harness := (true, "f3deca6bbc9c4c78a8f85b1fea5d297aa8a1420c08ba033e12fbd575bd410f55"), looks := false }, kinds := [], alts := [], laidByText := true, laidKinds := [.data], laidTests := true, laidLooks := .later }
def RetireTellsUptoCardSaid : Prop := Claim7.holds Tryz.pinned (.plain (OpenSpec.upto retireTellsSpec)) retireTellsUptoCard

/-- THE SECOND FORM's CARD OF 'cotterellaw48.RetireAlone'. -/
def retireAloneUptoCard : Claim7 := { stood := { row := retireAloneUptoRow, standIns := [], harness := (true, "f3deca6bbc9c4c78a8f85b1fea5d297aa8a1420c08ba033e12fbd575bd410f55"), looks := false }, kinds := [], alts := [], laidByText := true, laidKinds := [.data], laidTests := true, laidLooks := .later }
def RetireAloneUptoCardSaid : Prop := Claim7.holds Tryz.pinned (.plain (OpenSpec.upto retireAloneSpec)) retireAloneUptoCard

/-- THE SECOND FORM's CARD OF 'cotterellaw48.RetireEnds'. -/
def retireEndsUptoCard : Claim7 := { stood := { row := retireEndsUptoRow, standIns := [], harness := (true, "f3deca6bbc9c4c78a8f85b1fea5d297aa8a1420c08ba033e12fbd575bd410f55"), looks := false }, kinds := [], alts := [], laidByText := true, laidKinds := [.data], laidTests := true, laidLooks := .later }
def RetireEndsUptoCardSaid : Prop := Claim7.holds Tryz.pinned (.plain (OpenSpec.upto retireEndsSpec)) retireEndsUptoCard

/-- THE SECOND FORM's CARD OF 'cotterellaw48.RetireReplays'. -/
def retireReplaysUptoCard : Claim7 := { stood := { row := retireReplaysUptoRow, standIns := [], harness := (true, "f3deca6bbc9c4c78a8f85b1fea5d297aa8a1420c08ba033e12fbd575bd410f55"), looks := false }, kinds := [], alts := [], laidByText := true, laidKinds := [.data], laidTests := true, laidLooks := .later }
def RetireReplaysUptoCardSaid : Prop := Claim7.holds Tryz.pinned (.plain (OpenSpec.upto retireReplaysSpec)) retireReplaysUptoCard
end Rows
end Go.Proofs.YtchpjkadpdajkaaGreatDoor
