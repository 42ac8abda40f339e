/- ExecMoves is proved for every input: it returns true, and the input reads behind the call as it did. -/
import Derived.Test.YtcinobbeapgklaaOk
import Derived.Test.YtcinobbeapgklaaRows
import Derived.Test.YtcinobbeapgklaaPure2
import Derived.Test.YtcinobbeapgklaaA2Lift
namespace Go.Proofs.Ytcinobbeapgklaa
open Go Go.A2
open Go.ChangeShapes Go.WideShapes Go.ChangeAt Go.RowKit
theorem execMoves_own : ownKnob Try.prog.godebug = none := by kernel_rfl
theorem execMoves_laid : laidOutB Try.prog = true := by kernel_rfl
theorem execMoves_fit : fitAll Try.prog cx Try.f5.params.toList N_law32_ExecMoves.sk = true := by kernel_rfl
theorem execMoves_lifted (os : Os) (started : os.Started) (H : Type) (enc : TypeId × Value → H) :
    ReturnsInHanded {} Try.checked os 5 .any (Rows.execMovesSpec.pre6 enc Try.prog Try.f5 Rows.execMovesRow.domain false) (Rows.execMovesSpec.post enc Try.prog Try.f5 false true false false) := by
  refine returnsInHanded_of_change_sized (C := Try.checked) execMoves_own started (by kernel_rfl) Try.func5
    (ChangeSpec.witness6 (enc := enc) (C := Try.checked) false ⟨#[], #[.agg #[.int .i64 0, .int .i64 0, .int .i64 0, .int .i64 0, .int .i64 0, .int .u32 0, .int .u32 0, .int .i64 0, .int .u32 0, .bool false, .int .u32 0, .int .u32 0, .int .i64 0, .int .u32 0, .int .i64 0, .int .i64 0, .bool false, .int .i64 0, .int .i64 0, .int .i64 0, .int .i64 0, .int .i64 0, .int .u32 0], .agg #[.int .u32 0, .int .u32 0, .int .u32 0], .int .u32 0], []⟩ 8 (by kernel_rfl) (by kernel_rfl) (by kernel_rfl) (by kernel_rfl)) ?_
  intro W base args ds gs before hval hW _ hz _
  exact lift_law (C := Try.checked) tabOk execMoves_laid rfl (fun H ds hd => match ds, hd with | [_, _, _], _ => rfl) rfl (by kernel_rfl) (by kernel_rfl) execMoves_fit s_law32_ExecMoves (fun d => ⟨true, moves_true _ _ _, rfl⟩) hval hW hz

theorem execMoves_holds : Rows.ExecMovesSaid :=
  OpenClaim.holds_of_wide 5 Try.f5 rfl rfl rfl rfl rfl rfl rfl ⟨rfl, rfl, rfl, rfl, rfl⟩ rfl rfl rfl rfl rfl (by kernel_rfl) Try.func5 (by kernel_rfl)
    (of_decide_eq_true (by kernel_rfl)) (by unfold Func.isWrapper; rw [if_neg (by decide +kernel)]; exact ⟨rfl, rfl⟩)
    (fun os started H enc _ => execMoves_lifted os started H enc)
end Go.Proofs.Ytcinobbeapgklaa
