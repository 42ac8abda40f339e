/- CoreNew: a new core breaks no rule. It holds for every configuration and every machine. -/
import Derived.Test.YtdafegdnjedohaaOk
import Derived.Test.YtdafegdnjedohaaRows
import Derived.Test.YtdafegdnjedohaaPlain0
import Derived.Test.YtdafegdnjedohaaA2E
set_option maxRecDepth 100000
namespace Go.Proofs.Ytdafegdnjedohaa
open Go Go.A2
open Go.ChangeShapes Go.WideShapes Go.ChangeAt Go.RowKit
theorem coreNew_own : ownKnob Try.prog.godebug = none := by kernel_rfl
theorem coreNew_laid : laidOutB Try.prog = true := by kernel_rfl
theorem coreNew_fit : fitAll Try.prog cx Try.f5.params.toList N_law42_CoreNew.sk = true := by kernel_rfl
theorem coreNew_lifted (os : Os) (started : os.Started) (H : Type) (enc : TypeId × Value → H) :
    ReturnsInHanded {} Try.checked os 5 .any (Rows.coreNewSpec.pre6 enc Try.prog Try.f5 Rows.coreNewRow.domain false) (Rows.coreNewSpec.post enc Try.prog Try.f5 false true false false) := by
  refine returnsInHanded_of_change_sized (C := Try.checked) coreNew_own started (by kernel_rfl) Try.func5
    (ChangeSpec.witness6 (enc := enc) (C := Try.checked) false ⟨#[], #[.agg #[.int .i64 0, .int .i64 0, .int .i64 0, .int .i64 0, .int .i64 0, .int .i64 0, .int .i64 0, .int .i64 0, .int .i64 0, .int .i64 0, .int .i64 0, .int .i64 0, .int .i64 0, .int .i64 0, .int .i64 0, .int .i64 0, .int .i64 0, .int .i64 0, .int .i64 0, .int .i64 0, .int .i64 0, .bool false], .agg #[.int .u32 0, .int .u32 0, .int .u32 0, .int .u32 0, .int .u32 0, .int .u32 0, .int .u32 0, .int .u32 0, .int .u32 0, .int .u32 0, .int .u32 0, .int .u32 0, .int .u32 0, .int .u32 0, .int .u32 0, .int .u32 0, .int .u32 0, .int .u32 0, .int .u32 0, .int .u32 0, .int .u32 0, .int .u32 0, .int .u32 0, .int .u32 0, .int .u32 0, .int .u32 0, .int .u32 0, .int .u32 0, .int .u32 0, .bool false, .slice none 0 0, .slice none 0 0, .slice none 0 0]], []⟩ 8 (by kernel_rfl) (by kernel_rfl) (by kernel_rfl) (by kernel_rfl)) ?_
  intro W base args ds gs before hval hW _ hz _
  exact lift_law (C := Try.checked) tabOk coreNew_laid rfl (fun H ds hd => match ds, hd with | [_, _], _ => rfl) rfl (by kernel_rfl) (by kernel_rfl) coreNew_fit s_law42_CoreNew (fun d => ⟨true, coreNew _ _, rfl⟩) hval hW hz (fun q hq => by cases hq)

theorem coreNew_holds : Rows.CoreNewSaid :=
  OpenClaim.holds_of_wide 5 Try.f5 rfl rfl rfl rfl rfl rfl rfl ⟨rfl, rfl, rfl, rfl, rfl⟩ rfl rfl rfl rfl rfl (by kernel_rfl) Try.func5 (by kernel_rfl)
    (of_decide_eq_true (by kernel_rfl)) (by unfold Func.isWrapper; rw [if_neg (by decide +kernel)]; exact ⟨rfl, rfl⟩)
    (fun os started H enc _ => coreNew_lifted os started H enc)
end Go.Proofs.Ytdafegdnjedohaa
