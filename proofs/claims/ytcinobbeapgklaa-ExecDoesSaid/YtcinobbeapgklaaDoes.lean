/- ExecDoes is proved for every input: it returns true, and the input reads behind the call as it did. -/
import Derived.Test.YtcinobbeapgklaaOk
import Derived.Test.YtcinobbeapgklaaRows
import Derived.Test.YtcinobbeapgklaaPlain0
import Derived.Test.YtcinobbeapgklaaA2E
namespace Go.Proofs.Ytcinobbeapgklaa
open Go Go.A2
open Go.ChangeShapes Go.WideShapes Go.ChangeAt Go.RowKit
theorem execDoes_own : ownKnob Try.prog.godebug = none := by kernel_rfl
theorem execDoes_laid : laidOutB Try.prog = true := by kernel_rfl
theorem execDoes_fit : fitAll Try.prog cx Try.f3.params.toList N_law32_ExecDoes.sk = true := by kernel_rfl
theorem execDoes_lifted (os : Os) (started : os.Started) (H : Type) (enc : TypeId × Value → H) :
    ReturnsInHanded {} Try.checked os 3 .any (Rows.execDoesSpec.pre6 enc Try.prog Try.f3 Rows.execDoesRow.domain false) (Rows.execDoesSpec.post enc Try.prog Try.f3 false true false false) := by
  refine returnsInHanded_of_change_sized (C := Try.checked) execDoes_own started (by kernel_rfl) Try.func3
    (ChangeSpec.witness6 (enc := enc) (C := Try.checked) false ⟨#[], #[.agg #[.int .i64 0, .int .i64 0, .int .i64 0, .int .i64 0, .int .i64 0, .int .u32 0, .int .u32 0, .int .i64 0, .int .u32 0, .bool false, .int .u32 0, .int .u32 0, .int .i64 0, .int .u32 0, .int .i64 0, .int .i64 0, .bool false, .int .i64 0, .int .i64 0, .int .i64 0, .int .i64 0, .int .i64 0, .int .u32 0], .agg #[.int .u32 0, .int .u32 0, .int .u32 0], .int .u32 0], []⟩ 8 (by kernel_rfl) (by kernel_rfl) (by kernel_rfl) (by kernel_rfl)) ?_
  intro W base args ds gs before hval hW _ hz _
  exact lift_law (C := Try.checked) tabOk execDoes_laid rfl (fun H ds hd => match ds, hd with | [_, _, _], _ => rfl) rfl (by kernel_rfl) (by kernel_rfl) execDoes_fit s_law32_ExecDoes (fun d => ⟨true, does_true _ _ _, rfl⟩) hval hW hz

theorem execDoes_holds : Rows.ExecDoesSaid :=
  OpenClaim.holds_of_wide 3 Try.f3 rfl rfl rfl rfl rfl rfl rfl ⟨rfl, rfl, rfl, rfl, rfl⟩ rfl rfl rfl rfl rfl (by kernel_rfl) Try.func3 (by kernel_rfl)
    (of_decide_eq_true (by kernel_rfl)) (by unfold Func.isWrapper; rw [if_neg (by decide +kernel)]; exact ⟨rfl, rfl⟩)
    (fun os started H enc _ => execDoes_lifted os started H enc)
end Go.Proofs.Ytcinobbeapgklaa
