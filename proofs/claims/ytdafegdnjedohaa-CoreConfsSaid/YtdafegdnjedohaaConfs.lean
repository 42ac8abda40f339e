/- CoreConfs: whether a configuration is valid. It holds for every configuration. -/
import Derived.Test.YtdafegdnjedohaaOk
import Derived.Test.YtdafegdnjedohaaRows
import Derived.Test.YtdafegdnjedohaaPlain0
import Derived.Test.YtdafegdnjedohaaA2E
set_option maxRecDepth 100000
namespace Go.Proofs.Ytdafegdnjedohaa
open Go Go.A2
open Go.ChangeShapes Go.WideShapes Go.ChangeAt Go.RowKit
theorem coreConfs_own : ownKnob Try.prog.godebug = none := by kernel_rfl
theorem coreConfs_laid : laidOutB Try.prog = true := by kernel_rfl
theorem coreConfs_fit : fitAll Try.prog cx Try.f3.params.toList N_law42_CoreConfs.sk = true := by kernel_rfl
theorem coreConfs_lifted (os : Os) (started : os.Started) (H : Type) (enc : TypeId × Value → H) :
    ReturnsInHanded {} Try.checked os 3 .any (Rows.coreConfsSpec.pre6 enc Try.prog Try.f3 Rows.coreConfsRow.domain false) (Rows.coreConfsSpec.post enc Try.prog Try.f3 false true false false) := by
  refine returnsInHanded_of_change_sized (C := Try.checked) coreConfs_own started (by kernel_rfl) Try.func3
    (ChangeSpec.witness6 (enc := enc) (C := Try.checked) false ⟨#[], #[.agg #[.int .i64 0, .int .i64 0, .int .i64 0, .int .i64 0, .int .i64 0, .int .i64 0, .int .i64 0, .int .i64 0, .int .i64 0, .int .i64 0, .int .i64 0, .int .i64 0, .int .i64 0, .int .i64 0, .int .i64 0, .int .i64 0, .int .i64 0, .int .i64 0, .int .i64 0, .int .i64 0, .int .i64 0, .bool false]], []⟩ 8 (by kernel_rfl) (by kernel_rfl) (by kernel_rfl) (by kernel_rfl)) ?_
  intro W base args ds gs before hval hW _ hz _
  exact lift_law (C := Try.checked) tabOk coreConfs_laid rfl (fun H ds hd => match ds, hd with | [_], _ => rfl) rfl (by kernel_rfl) (by kernel_rfl) coreConfs_fit s_law42_CoreConfs (fun d => ⟨true, coreConfs _, rfl⟩) hval hW hz (fun q hq => by cases hq)

theorem coreConfs_holds : Rows.CoreConfsSaid :=
  OpenClaim.holds_of_wide 3 Try.f3 rfl rfl rfl rfl rfl rfl rfl ⟨rfl, rfl, rfl, rfl, rfl⟩ rfl rfl rfl rfl rfl (by kernel_rfl) Try.func3 (by kernel_rfl)
    (of_decide_eq_true (by kernel_rfl)) (by unfold Func.isWrapper; rw [if_neg (by decide +kernel)]; exact ⟨rfl, rfl⟩)
    (fun os started H enc _ => coreConfs_lifted os started H enc)
end Go.Proofs.Ytdafegdnjedohaa
