/- ExecLoads is proved for every input: it returns true, and the input reads behind the call as it did. -/
import Derived.Test.YtcinobbeapgklaaOk
import Derived.Test.YtcinobbeapgklaaRows
import Derived.Test.YtcinobbeapgklaaPure3
import Derived.Test.YtcinobbeapgklaaA2Lift
namespace Go.Proofs.Ytcinobbeapgklaa
open Go Go.A2
open Go.ChangeShapes Go.WideShapes Go.ChangeAt Go.RowKit
theorem execLoads_own : ownKnob Try.prog.godebug = none := by kernel_rfl
theorem execLoads_laid : laidOutB Try.prog = true := by kernel_rfl
theorem execLoads_fit : fitAll Try.prog cx Try.f6.params.toList N_law32_ExecLoads.sk = true := by kernel_rfl
theorem execLoads_lifted (os : Os) (started : os.Started) (H : Type) (enc : TypeId × Value → H) :
    ReturnsInHanded {} Try.checked os 6 .any (Rows.execLoadsSpec.pre6 enc Try.prog Try.f6 Rows.execLoadsRow.domain false) (Rows.execLoadsSpec.post enc Try.prog Try.f6 false true false false) := by
  refine returnsInHanded_of_change_sized (C := Try.checked) execLoads_own started (by kernel_rfl) Try.func6
    (ChangeSpec.witness6 (enc := enc) (C := Try.checked) false ⟨#[], #[.int .i64 0, .int .u32 0, .int .u32 0], []⟩ 8 (by kernel_rfl) (by kernel_rfl) (by kernel_rfl) (by kernel_rfl)) ?_
  intro W base args ds gs before hval hW _ hz _
  exact lift_law (C := Try.checked) tabOk execLoads_laid rfl (fun H ds hd => match ds, hd with | [_, _, _], _ => rfl) rfl (by kernel_rfl) (by kernel_rfl) execLoads_fit s_law32_ExecLoads (fun d => ⟨true, loads_true _ _ _, rfl⟩) hval hW hz

theorem execLoads_holds : Rows.ExecLoadsSaid :=
  OpenClaim.holds_of_wide 6 Try.f6 rfl rfl rfl rfl rfl rfl rfl ⟨rfl, rfl, rfl, rfl, rfl⟩ rfl rfl rfl rfl rfl (by kernel_rfl) Try.func6 (by kernel_rfl)
    (of_decide_eq_true (by kernel_rfl)) (by unfold Func.isWrapper; rw [if_neg (by decide +kernel)]; exact ⟨rfl, rfl⟩)
    (fun os started H enc _ => execLoads_lifted os started H enc)
end Go.Proofs.Ytcinobbeapgklaa
