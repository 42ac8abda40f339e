/- YtkddkpmijhionaaDoorEq3: the functions' runs are their trees. No statement of the seat is proved here. -/
import Derived.Test.YtkddkpmijhionaaDoorTabs
set_option linter.unusedSimpArgs false
set_option linter.unusedVariables false
set_option maxRecDepth 100000
namespace Go.Proofs.YtkddkpmijhionaaDoor
open Go Go.A2
theorem e1:FnE t0 q0 fuel g1 N1 (fun d:TCore×Unit=>T_law45_Light d.1):=fun d k=>by kernel_rfl
theorem o5_11:Mo t5 q5 g5 11 [(1,.any),(18,.any),(19,.any)] (.trim [(1,.any),(2,.any)] (.loop (.mark 13 [(1,.any),(18,.any),(19,.any)] (mOf g5 13)))):=loop_mark (fnsC_mono _) (m:=K5_11) rfl (by kernel_rfl) (by kernel_rfl) (fun a=>by kernel_rfl) (marksE (by kernel_rfl) marks_nil) (B:=fun a:TInst×Arr 3 (TS124)×W .i64×Unit=>B_inst_Right_11 a.1 a.2.1 a.2.2.1) (fun a=>by kernel_rfl) (fun a kn kx=>by kernel_rfl)
theorem h5:MarksE t5 q5 fuel g5.keep g5.body:=(marksE (l:=[(11,[(1,.any),(18,.any),(19,.any)],(.trim [(1,.any),(2,.any)] (.loop (.mark 13 [(1,.any),(18,.any),(19,.any)] (mOf g5 13)))))]) (by kernel_rfl) (marks_cons o5_11 marks_nil))
theorem e5:FnE t5 q5 fuel g5 N5 (fun d:TInst×Unit=>T_inst_Right d.1):=fun d k=>by kernel_rfl
theorem e9:FnE t9 q0 fuel g9 N9 (fun d:W .u32×W .i64×W .i64×W .u32×Unit=>T_bits_Put d.1 d.2.1 d.2.2.1 d.2.2.2.1):=fun d k=>by kernel_rfl
theorem e11:FnE t11 q0 fuel g11 N11 (fun d:TInst×Unit=>T_inst_Enc d.1):=fun d k=>by kernel_rfl
theorem e20:FnE t20 q0 fuel g20 N20 (fun d:Sl 24 (TBound)×((Unit)×(Unit))×Unit=>T_slices_ContainsFunc_bound_of_core_Conf_1 d.1):=fun d k=>by kernel_rfl
theorem o23_5:Mo t23 q23 g23 5 [(1,.any),(6,.any),(7,.any)] (.trim [(1,.any),(2,.any)] (.loop (.mark 7 [(1,.any),(6,.any),(7,.any)] (mOf g23 7)))):=loop_mark (fnsC_mono _) (m:=K23_5) rfl (by kernel_rfl) (by kernel_rfl) (fun a=>by kernel_rfl) (marksE (by kernel_rfl) marks_nil) (B:=fun a:TArch×Arr 12 (W .u32)×W .i64×Unit=>B_core_clean_5 a.1 a.2.1 a.2.2.1) (fun a=>by kernel_rfl) (fun a kn kx=>by kernel_rfl)
theorem h23:MarksE t23 q23 fuel g23.keep g23.body:=(marksE (l:=[(5,[(1,.any),(6,.any),(7,.any)],(.trim [(1,.any),(2,.any)] (.loop (.mark 7 [(1,.any),(6,.any),(7,.any)] (mOf g23 7)))))]) (by kernel_rfl) (marks_cons o23_5 marks_nil))
theorem e23:FnE t23 q23 fuel g23 N23 (fun d:TArch×Unit=>T_core_clean d.1):=fun d k=>by kernel_rfl
theorem e28:FnE t28 q0 fuel g28 N28 (fun d:W .u64×W .u64×Unit=>T_bits_Mul d.1 d.2.1):=fun d k=>by kernel_rfl
theorem e33:FnE t33 q0 fuel g33 N33 (fun d:TConf×Unit=>T_pred_New d.1):=fun d k=>by kernel_rfl
theorem o37_11:Mo t0 q37 g37 11 [(1,.any),(4,.any),(5,.any),(21,.any),(22,.any)] (.trim [(4,.any),(5,.any)] (.loop (.mark 13 [(1,.any),(4,.any),(5,.any),(21,.any),(22,.any)] (mOf g37 13)))):=loop_mark (fnsC_mono _) (m:=K37_11) rfl (by kernel_rfl) (by kernel_rfl) (fun a=>by kernel_rfl) (marksE (by kernel_rfl) marks_nil) (B:=fun a:W .i64×TFree×TFree×W .i64×W .i64×Unit=>B_freel_New_11 a.1 a.2.1 a.2.2.1 a.2.2.2.1 a.2.2.2.2.1) (fun a=>by kernel_rfl) (fun a kn kx=>by kernel_rfl)
theorem h37:MarksE t0 q37 fuel g37.keep g37.body:=(marksE (l:=[(11,[(1,.any),(4,.any),(5,.any),(21,.any),(22,.any)],(.trim [(4,.any),(5,.any)] (.loop (.mark 13 [(1,.any),(4,.any),(5,.any),(21,.any),(22,.any)] (mOf g37 13)))))]) (by kernel_rfl) (marks_cons o37_11 marks_nil))
theorem e37:FnE t0 q37 fuel g37 N37 (fun d:W .i64×W .i64×Unit=>T_freel_New d.1 d.2.1):=fun d k=>by kernel_rfl
theorem e40:FnE t40 q0 fuel g40 N40 (fun d:W .i64×Unit=>T_prf_New d.1):=fun d k=>by kernel_rfl
theorem e49:FnE t49 q0 fuel g49 N49 (fun d:W .u32×W .i64×Unit=>T_bits_Zext d.1 d.2.1):=fun d k=>by kernel_rfl
theorem e51:FnE t51 q0 fuel g51 N51 (fun d:W .i64×W .u32×Unit=>T_inst_number d.1 d.2.1):=fun d k=>by kernel_rfl
theorem e56:FnE t56 q0 fuel g56 N56 (fun d:TInst×Unit=>T_crack_sources d.1):=fun d k=>by kernel_rfl
theorem o61_7:Mo t61 q61 g61 7 [(1,.any),(5,.any),(8,.any),(9,.any),(10,.any)] (.trim [(5,.any)] (.loop (.mark 9 [(1,.any),(5,.any),(8,.any),(9,.any),(10,.any)] (mOf g61 9)))):=loop_mark (fnsC_mono _) (m:=K61_7) rfl (by kernel_rfl) (by kernel_rfl) (fun a=>by kernel_rfl) (marksE (by kernel_rfl) marks_nil) (B:=fun a:((Unit)×(Unit))×W .i64×Sl 168 (TUop)×W .i64×W .i64×Unit=>B_place_many_7 a.2.1 a.2.2.1 a.2.2.2.1 a.2.2.2.2.1) (fun a=>by kernel_rfl) (fun a kn kx=>by kernel_rfl)
theorem h61:MarksE t61 q61 fuel g61.keep g61.body:=(marksE (l:=[(7,[(1,.any),(5,.any),(8,.any),(9,.any),(10,.any)],(.trim [(5,.any)] (.loop (.mark 9 [(1,.any),(5,.any),(8,.any),(9,.any),(10,.any)] (mOf g61 9)))))]) (by kernel_rfl) (marks_cons o61_7 marks_nil))
theorem e61:FnE t61 q61 fuel g61 N61 (fun d:Sl 168 (TUop)×((Unit)×(Unit))×Unit=>T_place_many d.1):=fun d k=>by kernel_rfl
theorem e62:FnE t0 q0 fuel g62 N62 (fun d:W .i64×Unit=>T_place_of d.1):=fun d k=>by kernel_rfl
theorem o66_7:Mo t66 q66 g66 7 [(1,.any),(5,.any),(8,.any),(9,.any),(10,.any)] (.trim [(5,.any)] (.loop (.mark 9 [(1,.any),(5,.any),(8,.any),(9,.any),(10,.any)] (mOf g66 9)))):=loop_mark (fnsC_mono _) (m:=K66_7) rfl (by kernel_rfl) (by kernel_rfl) (fun a=>by kernel_rfl) (marksE (by kernel_rfl) marks_nil) (B:=fun a:((Unit)×(Unit))×W .i64×Sl 168 (TUop)×W .i64×W .i64×Unit=>B_place_many_v2_7 a.2.1 a.2.2.1 a.2.2.2.1 a.2.2.2.2.1) (fun a=>by kernel_rfl) (fun a kn kx=>by kernel_rfl)
theorem h66:MarksE t66 q66 fuel g66.keep g66.body:=(marksE (l:=[(7,[(1,.any),(5,.any),(8,.any),(9,.any),(10,.any)],(.trim [(5,.any)] (.loop (.mark 9 [(1,.any),(5,.any),(8,.any),(9,.any),(10,.any)] (mOf g66 9)))))]) (by kernel_rfl) (marks_cons o66_7 marks_nil))
theorem e66:FnE t66 q66 fuel g66 N66 (fun d:Sl 168 (TUop)×((Unit)×(Unit))×Unit=>T_place_many_v2 d.1):=fun d k=>by kernel_rfl
theorem e67:FnE t0 q0 fuel g67 N67 (fun d:TFree×Unit=>T_freel_ring_sound d.1):=fun d k=>by kernel_rfl
theorem e70:FnE t70 q0 fuel g70 N70 (fun d:TCore×Sl 168 (TUop)×Unit=>T_place_Fits d.1 d.2.1):=fun d k=>by kernel_rfl
theorem e71:FnE t0 q0 fuel g71 N71 (fun d:W .i64×Unit=>T_rat_is d.1):=fun d k=>by kernel_rfl
theorem e78:FnE t78 q0 fuel g78 N78 (fun d:Sl 248 (TRob)×TRen×W .i64×Unit=>T_rob_Put d.1 d.2.1 d.2.2.1):=fun d k=>by kernel_rfl
theorem e80:FnE t80 q0 fuel g80 N80 (fun d:TPhys×W .i64×Unit=>T_prf_Get d.1 d.2.1):=fun d k=>by kernel_rfl
theorem e84:FnE t84 q0 fuel g84 N84 (fun d:TPhys×W .i64×Unit=>T_prf_Drop d.1 d.2.1):=fun d k=>by kernel_rfl
theorem e90:FnE t0 q0 fuel g90 N90 (fun d:Sl 32 (TSq)×Sl 32 (TSq)×Bool×Unit=>T_place_kept_Sq d.1 d.2.1 d.2.2.1):=fun d k=>by kernel_rfl
theorem o92_34:Mo t92 q92 g92 34 [(2,.any),(4,.any),(6,.own),(20,.any),(21,.any),(40,.any),(41,.any),(42,.any)] (.trim [(2,.any),(4,.any),(6,.any),(20,.any),(21,.any)] (.loop (.mark 36 [(2,.any),(4,.any),(6,.own),(20,.any),(21,.any),(40,.any),(41,.any),(42,.any)] (mOf g92 36)))):=loop_mark (fnsC_mono _) (m:=K92_34) rfl (by kernel_rfl) (by kernel_rfl) (fun a=>by kernel_rfl) (marksE (by kernel_rfl) marks_nil) (B:=fun a:TCore×TCore×Sl 32 (TNote)×W .i64×W .i64×Sl 168 (TUop)×W .i64×W .i64×Unit=>B_place_Stage_34 a.1 a.2.1 a.2.2.1 a.2.2.2.1 a.2.2.2.2.1 a.2.2.2.2.2.1 a.2.2.2.2.2.2.1 a.2.2.2.2.2.2.2.1) (fun a=>by kernel_rfl) (fun a kn kx=>by kernel_rfl)
theorem o92_13:Mo t92 q92 g92 13 [(2,.any),(4,.any),(6,.own),(20,.any),(21,.any)] (.trim [(2,.any),(4,.any),(6,.own)] (.loop (.mark 15 [(2,.any),(4,.any),(6,.own),(20,.any),(21,.any)] (mOf g92 15)))):=loop_mark (fnsC_mono _) (m:=K92_13) rfl (by kernel_rfl) (by kernel_rfl) (fun a=>by kernel_rfl) (marksE (l:=[(34,[(2,.any),(4,.any),(6,.own),(20,.any),(21,.any),(40,.any),(41,.any),(42,.any)],(.trim [(2,.any),(4,.any),(6,.any),(20,.any),(21,.any)] (.loop (.mark 36 [(2,.any),(4,.any),(6,.own),(20,.any),(21,.any),(40,.any),(41,.any),(42,.any)] (mOf g92 36)))))]) (by kernel_rfl) (marks_cons o92_34 marks_nil)) (B:=fun a:TCore×TCore×Sl 32 (TNote)×W .i64×W .i64×Unit=>B_place_Stage_13 a.1 a.2.1 a.2.2.1 a.2.2.2.1 a.2.2.2.2.1) (fun a=>by kernel_rfl) (fun a kn kx=>by kernel_rfl)
theorem h92:MarksE t92 q92 fuel g92.keep g92.body:=(marksE (l:=[(13,[(2,.any),(4,.any),(6,.own),(20,.any),(21,.any)],(.trim [(2,.any),(4,.any),(6,.own)] (.loop (.mark 15 [(2,.any),(4,.any),(6,.own),(20,.any),(21,.any)] (mOf g92 15)))))]) (by kernel_rfl) (marks_cons o92_13 marks_nil))
theorem e92:FnE t92 q92 fuel g92 N92 (fun d:TCore×TTick×Unit=>T_place_Stage d.1 d.2.1):=fun d k=>by kernel_rfl
theorem e93:FnE t93 q0 fuel g93 N93 (fun d:Unit=>T_law45_awake):=fun d k=>by kernel_rfl
end Go.Proofs.YtkddkpmijhionaaDoor
