/- YtedhidchlfhegaaGreatDoorEq3: the functions' runs are their trees. No statement of the seat is proved here. -/
import Derived.Test.YtedhidchlfhegaaGreatDoorTabs
set_option linter.unusedSimpArgs false
set_option linter.unusedVariables false
set_option maxRecDepth 100000
namespace Go.Proofs.YtedhidchlfhegaaGreatDoor
open Go Go.A2
theorem e6:FnE t0 q0 fuel g6 N6 (fun d:TArch×Unit=>T_csr_Kernel d.1):=fun d k=>by kernel_rfl
theorem o8_13:Mo t8 q8 g8 13 [(3,.any),(22,.any),(23,.any)] (.trim [(2,.any)] (.loop (.mark 15 [(3,.any),(22,.any),(23,.any)] (mOf g8 15)))):=loop_mark (fnsC_mono _) (m:=K8_13) rfl (by kernel_rfl) (by kernel_rfl) (fun a=>by kernel_rfl) (marksE (by kernel_rfl) marks_nil) (B:=fun a:W .u32×Arr 3 (TSource)×W .i64×Unit=>B_trap_Pending_13 a.1 a.2.1 a.2.2.1) (fun a=>by kernel_rfl) (fun a kn kx=>by kernel_rfl)
theorem h8:MarksE t8 q8 fuel g8.keep g8.body:=(marksE (l:=[(13,[(3,.any),(22,.any),(23,.any)],(.trim [(2,.any)] (.loop (.mark 15 [(3,.any),(22,.any),(23,.any)] (mOf g8 15)))))]) (by kernel_rfl) (marks_cons o8_13 marks_nil))
theorem e8:FnE t8 q8 fuel g8 N8 (fun d:TArch×Unit=>T_trap_Pending d.1):=fun d k=>by kernel_rfl
theorem e10:FnE t0 q0 fuel g10 N10 (fun d:W .u32×W .u32×W .u32×Unit=>T_trap_moved d.1 d.2.1 d.2.2.1):=fun d k=>by kernel_rfl
theorem e13:FnE t13 q0 fuel g13 N13 (fun d:TArch×W .u32×Unit=>T_trap_Stops d.1 d.2.1):=fun d k=>by kernel_rfl
theorem e16:FnE t0 q0 fuel g16 N16 (fun d:W .i64×Unit=>T_walk_Fault d.1):=fun d k=>by kernel_rfl
theorem e17:FnE t0 q0 fuel g17 N17 (fun d:W .i64×W .i64×W .i64×Unit=>T_bits_clamp d.1 d.2.1 d.2.2.1):=fun d k=>by kernel_rfl
theorem e19:FnE t19 q0 fuel g19 N19 (fun d:W .i64×W .i64×Unit=>T_bits_mask d.1 d.2.1):=fun d k=>by kernel_rfl
theorem e27:FnE t0 q0 fuel g27 N27 (fun d:TPte×Unit=>T_pte_Leaf d.1):=fun d k=>by kernel_rfl
theorem e37:FnE t37 q0 fuel g37 N37 (fun d:W .u32×W .i64×Unit=>T_bits_Zext d.1 d.2.1):=fun d k=>by kernel_rfl
theorem e38:FnE t38 q0 fuel g38 N38 (fun d:W .i64×Unit=>T_inst_width d.1):=fun d k=>by kernel_rfl
theorem o42_11:Mo t42 q42 g42 11 [(1,.any),(18,.any),(19,.any)] (.trim [(1,.any),(2,.any)] (.loop (.mark 13 [(1,.any),(18,.any),(19,.any)] (mOf g42 13)))):=loop_mark (fnsC_mono _) (m:=K42_11) rfl (by kernel_rfl) (by kernel_rfl) (fun a=>by kernel_rfl) (marksE (by kernel_rfl) marks_nil) (B:=fun a:TInst×Arr 3 (TS141)×W .i64×Unit=>B_inst_Right_11 a.1 a.2.1 a.2.2.1) (fun a=>by kernel_rfl) (fun a kn kx=>by kernel_rfl)
theorem h42:MarksE t42 q42 fuel g42.keep g42.body:=(marksE (l:=[(11,[(1,.any),(18,.any),(19,.any)],(.trim [(1,.any),(2,.any)] (.loop (.mark 13 [(1,.any),(18,.any),(19,.any)] (mOf g42 13)))))]) (by kernel_rfl) (marks_cons o42_11 marks_nil))
theorem e42:FnE t42 q42 fuel g42 N42 (fun d:TInst×Unit=>T_inst_Right d.1):=fun d k=>by kernel_rfl
theorem e44:FnE t44 q0 fuel g44 N44 (fun d:TInst×Unit=>T_inst_Enc d.1):=fun d k=>by kernel_rfl
theorem e52:FnE t0 q0 fuel g52 N52 (fun d:W .u32×Unit=>T_alu_low d.1):=fun d k=>by kernel_rfl
theorem e55:FnE t55 q0 fuel g55 N55 (fun d:W .i64×W .u32×W .u32×Unit=>T_alu_logic d.1 d.2.1 d.2.2.1):=fun d k=>by kernel_rfl
theorem e56:FnE t56 q0 fuel g56 N56 (fun d:W .i64×W .u32×W .u32×Unit=>T_alu_Do d.1 d.2.1 d.2.2.1):=fun d k=>by kernel_rfl
theorem o59_7:Mo t59 q59 g59 7 [(1,.any),(10,.any),(11,.any)] (.trim [(1,.any)] (.loop (.mark 9 [(1,.any),(10,.any),(11,.any)] (mOf g59 9)))):=loop_mark (fnsC_mono _) (m:=K59_7) rfl (by kernel_rfl) (by kernel_rfl) (fun a=>by kernel_rfl) (marksE (by kernel_rfl) marks_nil) (B:=fun a:TMul×W .i64×W .i64×Unit=>B_mul_Run_7 a.1 a.2.1 a.2.2.1) (fun a=>by kernel_rfl) (fun a kn kx=>by kernel_rfl)
theorem h59:MarksE t59 q59 fuel g59.keep g59.body:=(marksE (l:=[(7,[(1,.any),(10,.any),(11,.any)],(.trim [(1,.any)] (.loop (.mark 9 [(1,.any),(10,.any),(11,.any)] (mOf g59 9)))))]) (by kernel_rfl) (marks_cons o59_7 marks_nil))
theorem e59:FnE t59 q59 fuel g59 N59 (fun d:TMul×Unit=>T_mul_Run d.1):=fun d k=>by kernel_rfl
theorem e62:FnE t0 q0 fuel g62 N62 (fun d:W .u32×W .u32×Unit=>T_div_New d.1 d.2.1):=fun d k=>by kernel_rfl
theorem e66:FnE t0 q0 fuel g66 N66 (fun d:W .u32×Unit=>T_div_away d.1):=fun d k=>by kernel_rfl
theorem e71:FnE t0 q0 fuel g71 N71 (fun d:W .i64×Unit=>T_step_sizeOf d.1):=fun d k=>by kernel_rfl
theorem e77:FnE t77 q0 fuel g77 N77 (fun d:TWork×W .u32×W .i64×W .u32×Unit=>T_step_work_stores d.1 d.2.1 d.2.2.1 d.2.2.2.1):=fun d k=>by kernel_rfl
theorem e80:FnE t80 q0 fuel g80 N80 (fun d:TWork×TInst×W .u32×W .u32×Unit=>T_step_work_goes d.1 d.2.1 d.2.2.1 d.2.2.2.1):=fun d k=>by kernel_rfl
theorem e85:FnE t85 q0 fuel g85 N85 (fun d:TArch×W .i64×W .u32×Unit=>T_csr_Write d.1 d.2.1 d.2.2.1):=fun d k=>by kernel_rfl
theorem e88:FnE t0 q0 fuel g88 N88 (fun d:TArch×Unit=>T_csr_Count d.1):=fun d k=>by kernel_rfl
theorem e95:FnE t0 q0 fuel g95 N95 (fun d:W .i64×Unit=>T_text_Cause d.1):=fun d k=>by kernel_rfl
theorem o98_5:Mo t98 q98 g98 5 [(0,.any),(1,.any),(10,.any),(11,.any)] (.trim [(4,.any)] (.loop (.mark 7 [(0,.any),(1,.any),(10,.any),(11,.any)] (mOf g98 7)))):=loop_mark (fnsC_mono _) (m:=K98_5) rfl (by kernel_rfl) (by kernel_rfl) (fun a=>by kernel_rfl) (marksE (by kernel_rfl) marks_nil) (B:=fun a:Sl 72 (TEvent)×Sl 72 (TEvent)×W .i64×W .i64×Unit=>B_run_First_5 a.1 a.2.1 a.2.2.1 a.2.2.2.1) (fun a=>by kernel_rfl) (fun a kn kx=>by kernel_rfl)
theorem h98:MarksE t98 q98 fuel g98.keep g98.body:=(marksE (l:=[(5,[(0,.any),(1,.any),(10,.any),(11,.any)],(.trim [(4,.any)] (.loop (.mark 7 [(0,.any),(1,.any),(10,.any),(11,.any)] (mOf g98 7)))))]) (by kernel_rfl) (marks_cons o98_5 marks_nil))
theorem e98:FnE t98 q98 fuel g98 N98 (fun d:Sl 72 (TEvent)×Sl 72 (TEvent)×Unit=>T_run_First d.1 d.2.1):=fun d k=>by kernel_rfl
theorem e102:FnE t0 q0 fuel g102 N102 (fun d:Sl 16 (TIrq)×Unit=>T_law16_few d.1):=fun d k=>by kernel_rfl
theorem e103:FnE t103 q0 fuel g103 N103 (fun d:TMach×Sl 16 (TIrq)×W .i64×Unit=>T_law16_RunReplay d.1 d.2.1 d.2.2.1):=fun d k=>by kernel_rfl
end Go.Proofs.YtedhidchlfhegaaGreatDoor
