/- Every pair's audit: the program says what the document says. -/
import Derived.Test.YtnpgljilkkipkaaGreatOk
import Derived.Test.YtnpgljilkkipkaaGreatRows
import Derived.Test.YtnpgljilkkipkaaGreatPlain0
import Derived.Test.YtnpgljilkkipkaaGreatA2E
set_option linter.unusedSimpArgs false
set_option linter.unusedVariables false
set_option maxRecDepth 100000
namespace Go.Proofs.YtnpgljilkkipkaaGreat
open Go Go.A2
open Go.ChangeShapes Go.WideShapes Go.ChangeAt Go.RowKit
theorem Sr:ownKnob Tryz.prog.godebug=none:=by kernel_rfl
theorem Sn:laidOutB Tryz.prog=true:=by kernel_rfl
theorem Sm:nZ Tryz.prog cx Tryz.f4.params.toList Ml.sk=true:=by kernel_rfl
theorem Sp (os:Os) (started:os.Started) (H:Type) (enc:TypeId×Value→H):
  ReturnsInHanded {} Tryz.checked os 4 .any (Rows.auditDuosSpec.pre6 enc Tryz.prog Tryz.f4 Rows.auditDuosRow.domain false) (Rows.auditDuosSpec.post enc Tryz.prog Tryz.f4 false true false false):=by
 refine returnsInHanded_of_change_sized (C:=Tryz.checked) Sr started (by kernel_rfl) Tryz.func4
  (ChangeSpec.witness6 (enc:=enc) (C:=Tryz.checked) false ⟨#[],#[.agg #[.slice none 0 0,.slice none 0 0,.slice none 0 0]],[]⟩ 8 (by kernel_rfl) (by kernel_rfl) (by kernel_rfl) (by kernel_rfl)) ?_
 intro W base args ds gs before hval hW _ hz _
 exact aae (C:=Tryz.checked) jO Sn rfl (fun H ds hd=>match ds,hd with | [_],_=>rfl) rfl (by kernel_rfl) (by kernel_rfl) Sm agl (fun d=>⟨true,auditDuos _,rfl⟩) hval hW hz (fun q hq=>by cases hq)
theorem auditDuos_holds:Rows.AuditDuosSaid:=
 OpenClaim.holds_of_wide 4 Tryz.f4 rfl rfl rfl rfl rfl rfl rfl ⟨rfl,rfl,rfl,rfl,rfl⟩ rfl rfl rfl rfl rfl (by kernel_rfl) Tryz.func4 (by kernel_rfl)
  (of_decide_eq_true (by kernel_rfl)) (by unfold Func.isWrapper;rw [if_neg (by decide +kernel)];exact ⟨rfl,rfl⟩)
  (fun os started H enc _=>Sp os started H enc)
end Go.Proofs.YtnpgljilkkipkaaGreat
