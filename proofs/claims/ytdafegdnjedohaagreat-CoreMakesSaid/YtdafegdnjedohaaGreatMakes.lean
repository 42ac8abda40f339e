/- CoreMakes: a new core is what the document says. It holds for every configuration and every machine. -/
import Derived.Test.YtdafegdnjedohaaGreatOk
import Derived.Test.YtdafegdnjedohaaGreatRows
import Derived.Test.YtdafegdnjedohaaGreatPlain0
import Derived.Test.YtdafegdnjedohaaGreatA2E
set_option maxRecDepth 100000
namespace Go.Proofs.YtdafegdnjedohaaGreat
open Go Go.A2
open Go.ChangeShapes Go.WideShapes Go.ChangeAt Go.RowKit
theorem coreMakes_own : ownKnob Tryz.prog.godebug = none := by kernel_rfl
theorem coreMakes_laid : laidOutB Tryz.prog = true := by kernel_rfl
theorem coreMakes_fit : fitAll Tryz.prog cx Tryz.f3.params.toList N_law42_CoreMakes.sk = true := by kernel_rfl
theorem coreMakes_lifted (os : Os) (started : os.Started) (H : Type) (enc : TypeId × Value → H) :
    ReturnsInHanded {} Tryz.checked os 3 .any (Rows.coreMakesSpec.pre6 enc Tryz.prog Tryz.f3 Rows.coreMakesRow.domain false) (Rows.coreMakesSpec.post enc Tryz.prog Tryz.f3 false true false false) := by
  refine returnsInHanded_of_change_sized (C := Tryz.checked) coreMakes_own started (by kernel_rfl) Tryz.func3
    (ChangeSpec.witness6 (enc := enc) (C := Tryz.checked) false ⟨#[], #[.agg #[.int .i64 0, .int .i64 0, .int .i64 0, .int .i64 0, .int .i64 0, .int .i64 0, .int .i64 0, .int .i64 0, .int .i64 0, .int .i64 0, .int .i64 0, .int .i64 0, .int .i64 0, .int .i64 0, .int .i64 0, .int .i64 0, .int .i64 0, .int .i64 0, .int .i64 0, .int .i64 0, .int .i64 0, .bool false], .agg #[.int .u32 0, .int .u32 0, .int .u32 0, .int .u32 0, .int .u32 0, .int .u32 0, .int .u32 0, .int .u32 0, .int .u32 0, .int .u32 0, .int .u32 0, .int .u32 0, .int .u32 0, .int .u32 0, .int .u32 0, .int .u32 0, .int .u32 0, .int .u32 0, .int .u32 0, .int .u32 0, .int .u32 0, .int .u32 0, .int .u32 0, .int .u32 0, .int .u32 0, .int .u32 0, .int .u32 0, .int .u32 0, .int .u32 0, .bool false, .slice none 0 0, .slice none 0 0, .slice none 0 0]], []⟩ 8 (by kernel_rfl) (by kernel_rfl) (by kernel_rfl) (by kernel_rfl)) ?_
  intro W base args ds gs before hval hW _ hz _
  exact lift_law (C := Tryz.checked) tabOk coreMakes_laid rfl (fun H ds hd => match ds, hd with | [_, _], _ => rfl) rfl (by kernel_rfl) (by kernel_rfl) coreMakes_fit s_law42_CoreMakes (fun d => ⟨true, coreMakes _ _, rfl⟩) hval hW hz (fun q hq => by cases hq)

theorem coreMakes_holds : Rows.CoreMakesSaid :=
  OpenClaim.holds_of_wide 3 Tryz.f3 rfl rfl rfl rfl rfl rfl rfl ⟨rfl, rfl, rfl, rfl, rfl⟩ rfl rfl rfl rfl rfl (by kernel_rfl) Tryz.func3 (by kernel_rfl)
    (of_decide_eq_true (by kernel_rfl)) (by unfold Func.isWrapper; rw [if_neg (by decide +kernel)]; exact ⟨rfl, rfl⟩)
    (fun os started H enc _ => coreMakes_lifted os started H enc)
end Go.Proofs.YtdafegdnjedohaaGreat
