/- YtchpjkadpdajkaaGreatDoorRetire01: the row, by what is lifted. -/
import Derived.Test.YtchpjkadpdajkaaGreatDoorRetire0
set_option linter.unusedSimpArgs false
set_option linter.unusedVariables false
set_option maxRecDepth 100000
namespace Go.Proofs.YtchpjkadpdajkaaGreatDoor
open Go Go.A2
open Go.ChangeShapes Go.WideShapes Go.ChangeAt Go.RowKit
theorem retireTells_fact0:(Rows.retireTellsRow.inPlace==Tryz.prog.inPlace 4)=true:=by kernel_rfl
theorem retireTells_fact1:(Rows.retireTellsRow.unfollowed==Tryz.prog.unfollowed 4)=true:=by kernel_rfl
theorem retireTells_fact2:(Rows.retireTellsRow.recurses==Tryz.prog.recurses 4)=true:=by kernel_rfl
theorem retireTells_fact3:(Rows.retireTellsRow.named==Tryz.prog.varsNamed 4)=true:=by kernel_rfl
theorem retireTells_closed:joinedFacts Tryz.prog 4 Tryz.f4 Rows.retireTellsSpec Rows.retireTellsRow=true:=by
 unfold joinedFacts
 rw [retireTells_fact0,retireTells_fact1,retireTells_fact2,retireTells_fact3]
 kernel_rfl
theorem retireTells_holds:Rows.RetireTellsSaid:=
 OpenClaim.holds_of_wide 4 Tryz.f4 rfl rfl rfl rfl rfl rfl rfl ⟨rfl,rfl,rfl,rfl,rfl⟩ rfl rfl rfl rfl rfl (by kernel_rfl) Tryz.func4 retireTells_closed
  (of_decide_eq_true (by kernel_rfl)) (by unfold Func.isWrapper;first | (rw [if_pos (by decide +kernel)];kernel_rfl) | (rw [if_neg (by decide +kernel)];exact ⟨rfl,rfl⟩))
  (fun os started H enc _=>retireTells_lifted os started H enc)
end Go.Proofs.YtchpjkadpdajkaaGreatDoor
