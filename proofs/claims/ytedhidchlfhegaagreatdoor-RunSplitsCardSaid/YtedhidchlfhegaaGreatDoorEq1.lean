/- YtedhidchlfhegaaGreatDoorEq1: the functions' runs are their trees. No statement of the seat is proved here. -/
import Derived.Test.YtedhidchlfhegaaGreatDoorTabs
set_option linter.unusedSimpArgs false
set_option linter.unusedVariables false
set_option maxRecDepth 100000
namespace Go.Proofs.YtedhidchlfhegaaGreatDoor
open Go Go.A2
theorem e6:FnE t0 q0 fuel g6 N6 (fun d:TArch×Unit=>T_csr_Kernel d.1):=fun d k=>by kernel_rfl
theorem e10:FnE t0 q0 fuel g10 N10 (fun d:W .u32×W .u32×W .u32×Unit=>T_trap_moved d.1 d.2.1 d.2.2.1):=fun d k=>by kernel_rfl
theorem e13:FnE t13 q0 fuel g13 N13 (fun d:TArch×W .u32×Unit=>T_trap_Stops d.1 d.2.1):=fun d k=>by kernel_rfl
theorem e17:FnE t0 q0 fuel g17 N17 (fun d:W .i64×W .i64×W .i64×Unit=>T_bits_clamp d.1 d.2.1 d.2.2.1):=fun d k=>by kernel_rfl
theorem e19:FnE t19 q0 fuel g19 N19 (fun d:W .i64×W .i64×Unit=>T_bits_mask d.1 d.2.1):=fun d k=>by kernel_rfl
theorem e27:FnE t0 q0 fuel g27 N27 (fun d:TPte×Unit=>T_pte_Leaf d.1):=fun d k=>by kernel_rfl
theorem e29:FnE t0 q0 fuel g29 N29 (fun d:TPte×W .i64×Bool×Unit=>T_pte_Allows d.1 d.2.1 d.2.2.1):=fun d k=>by kernel_rfl
theorem e35:FnE t0 q0 fuel g35 N35 (fun d:W .i64×Unit=>T_inst_Form d.1):=fun d k=>by kernel_rfl
theorem e37:FnE t37 q0 fuel g37 N37 (fun d:W .u32×W .i64×Unit=>T_bits_Zext d.1 d.2.1):=fun d k=>by kernel_rfl
theorem e38:FnE t38 q0 fuel g38 N38 (fun d:W .i64×Unit=>T_inst_width d.1):=fun d k=>by kernel_rfl
theorem e41:FnE t0 q0 fuel g41 N41 (fun d:W .i64×W .i64×Unit=>T_inst_within d.1 d.2.1):=fun d k=>by kernel_rfl
theorem e44:FnE t44 q0 fuel g44 N44 (fun d:TInst×Unit=>T_inst_Enc d.1):=fun d k=>by kernel_rfl
theorem e46:FnE t0 q0 fuel g46 N46 (fun d:W .i64×Unit=>T_inst_Priv d.1):=fun d k=>by kernel_rfl
theorem e52:FnE t0 q0 fuel g52 N52 (fun d:W .u32×Unit=>T_alu_low d.1):=fun d k=>by kernel_rfl
theorem o59_7:Mo t59 q59 g59 7 [(1,.any),(10,.any),(11,.any)] (.trim [(1,.any)] (.loop (.mark 9 [(1,.any),(10,.any),(11,.any)] (mOf g59 9)))):=loop_mark (fnsC_mono _) (m:=K59_7) rfl (by kernel_rfl) (by kernel_rfl) (fun a=>by kernel_rfl) (marksE (by kernel_rfl) marks_nil) (B:=fun a:TMul×W .i64×W .i64×Unit=>B_mul_Run_7 a.1 a.2.1 a.2.2.1) (fun a=>by kernel_rfl) (fun a kn kx=>by kernel_rfl)
theorem h59:MarksE t59 q59 fuel g59.keep g59.body:=(marksE (l:=[(7,[(1,.any),(10,.any),(11,.any)],(.trim [(1,.any)] (.loop (.mark 9 [(1,.any),(10,.any),(11,.any)] (mOf g59 9)))))]) (by kernel_rfl) (marks_cons o59_7 marks_nil))
theorem e59:FnE t59 q59 fuel g59 N59 (fun d:TMul×Unit=>T_mul_Run d.1):=fun d k=>by kernel_rfl
theorem e62:FnE t0 q0 fuel g62 N62 (fun d:W .u32×W .u32×Unit=>T_div_New d.1 d.2.1):=fun d k=>by kernel_rfl
theorem e66:FnE t0 q0 fuel g66 N66 (fun d:W .u32×Unit=>T_div_away d.1):=fun d k=>by kernel_rfl
theorem e77:FnE t77 q0 fuel g77 N77 (fun d:TWork×W .u32×W .i64×W .u32×Unit=>T_step_work_stores d.1 d.2.1 d.2.2.1 d.2.2.2.1):=fun d k=>by kernel_rfl
theorem e83:FnE t83 q0 fuel g83 N83 (fun d:TArch×W .i64×Bool×Unit=>T_csr_may d.1 d.2.1 d.2.2.1):=fun d k=>by kernel_rfl
theorem e85:FnE t85 q0 fuel g85 N85 (fun d:TArch×W .i64×W .u32×Unit=>T_csr_Write d.1 d.2.1 d.2.2.1):=fun d k=>by kernel_rfl
theorem e88:FnE t0 q0 fuel g88 N88 (fun d:TArch×Unit=>T_csr_Count d.1):=fun d k=>by kernel_rfl
theorem e90:FnE t90 q0 fuel g90 N90 (fun d:TMach×Unit=>T_step_Step d.1):=fun d k=>by kernel_rfl
theorem e96:FnE t96 q0 fuel g96 N96 (fun d:TEvent×Unit=>T_run_Line d.1):=fun d k=>by kernel_rfl
theorem e101:FnE t101 q0 fuel g101 N101 (fun d:Unit=>T_law16_awake):=fun d k=>by kernel_rfl
theorem e102:FnE t0 q0 fuel g102 N102 (fun d:Sl 16 (TIrq)×Unit=>T_law16_few d.1):=fun d k=>by kernel_rfl
theorem o104_11:Mo t0 q104 g104 11 [(0,.any),(1,.any),(5,.any)] (.trim [(4,.any)] (.loop (.mark 13 [(0,.any),(1,.any),(5,.any)] (mOf g104 13)))):=loop_mark (fnsC_mono _) (m:=K104_11) rfl (by kernel_rfl) (by kernel_rfl) (fun a=>by kernel_rfl) (marksE (by kernel_rfl) marks_nil) (B:=fun a:Sl 4 (W .u32)×Sl 4 (W .u32)×W .i64×Unit=>B_same_Words_11 a.1 a.2.1 a.2.2.1) (fun a=>by kernel_rfl) (fun a kn kx=>by kernel_rfl)
theorem h104:MarksE t0 q104 fuel g104.keep g104.body:=(marksE (l:=[(11,[(0,.any),(1,.any),(5,.any)],(.trim [(4,.any)] (.loop (.mark 13 [(0,.any),(1,.any),(5,.any)] (mOf g104 13)))))]) (by kernel_rfl) (marks_cons o104_11 marks_nil))
theorem e104:FnE t0 q104 fuel g104 N104 (fun d:Sl 4 (W .u32)×Sl 4 (W .u32)×Unit=>T_same_Words d.1 d.2.1):=fun d k=>by kernel_rfl
theorem e105:FnE t105 q0 fuel g105 N105 (fun d:TMach×TMach×Unit=>T_same_Mach d.1 d.2.1):=fun d k=>by kernel_rfl
end Go.Proofs.YtedhidchlfhegaaGreatDoor
