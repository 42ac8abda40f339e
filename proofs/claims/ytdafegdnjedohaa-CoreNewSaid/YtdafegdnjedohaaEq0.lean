/- YtdafegdnjedohaaEq0: the functions' runs are their trees. No statement of the seat is proved here. -/
import Derived.Test.YtdafegdnjedohaaTabs
set_option maxRecDepth 100000
namespace Go.Proofs.Ytdafegdnjedohaa
open Go Go.A2
theorem ok_ref42_Broken_15 : MarkOk (fnsC t_ref42_Broken) (markL q_ref42_Broken) g_ref42_Broken.keep fuel 15 [(1, .any), (3, .any), (4, .any), (5, .any)] (.trim [(1, .any), (3, .any), (4, .any)] (.loop (.mark 17 [(1, .any), (3, .any), (4, .any), (5, .any)] (mOf g_ref42_Broken 17)))) := loop_mark (fnsC_mono _) (m := K_ref42_Broken_15) rfl (by kernel_rfl) (by kernel_rfl) (fun a => by kernel_rfl) (marksE (by kernel_rfl) marks_nil) (B := fun a : TCore × Sl 8 (W .i64) × Sl 216 (TRen) × W .i64 × Unit => B_ref42_Broken_15 a.1 a.2.1 a.2.2.1 a.2.2.2.1) (fun a => by kernel_rfl) (fun a kn kx => by kernel_rfl)
theorem h_ref42_Broken : MarksE t_ref42_Broken q_ref42_Broken fuel g_ref42_Broken.keep g_ref42_Broken.body := (marksE (l := [(15, [(1, .any), (3, .any), (4, .any), (5, .any)], (.trim [(1, .any), (3, .any), (4, .any)] (.loop (.mark 17 [(1, .any), (3, .any), (4, .any), (5, .any)] (mOf g_ref42_Broken 17)))))]) (by kernel_rfl) (marks_cons ok_ref42_Broken_15 marks_nil))
theorem e_ref42_Broken : FnE t_ref42_Broken q_ref42_Broken fuel g_ref42_Broken N_ref42_Broken (fun d : TCore × Unit => T_ref42_Broken d.1) := fun d k => by kernel_rfl
end Go.Proofs.Ytdafegdnjedohaa
