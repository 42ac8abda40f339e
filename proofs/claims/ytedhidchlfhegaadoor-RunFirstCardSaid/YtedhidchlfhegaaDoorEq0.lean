/- YtedhidchlfhegaaDoorEq0: the functions' runs are their trees. No statement of the seat is proved here. -/
import Derived.Test.YtedhidchlfhegaaDoorTabs
set_option linter.unusedSimpArgs false
set_option linter.unusedVariables false
set_option maxRecDepth 100000
namespace Go.Proofs.YtedhidchlfhegaaDoor
open Go Go.A2
theorem e5:FnE t0 q0 fuel g5 N5 (fun d:W .i64×Unit=>T_csr_Masked d.1):=fun d k=>by kernel_rfl
theorem e6:FnE t0 q0 fuel g6 N6 (fun d:W .u32×W .u32×W .u32×Unit=>T_trap_moved d.1 d.2.1 d.2.2.1):=fun d k=>by kernel_rfl
theorem e13:FnE t0 q0 fuel g13 N13 (fun d:W .i64×W .i64×W .i64×Unit=>T_bits_clamp d.1 d.2.1 d.2.2.1):=fun d k=>by kernel_rfl
theorem e18:FnE t0 q0 fuel g18 N18 (fun d:Sl 1 (W .u8)×W .u32×W .i64×Unit=>T_mem_Check d.1 d.2.1 d.2.2.1):=fun d k=>by kernel_rfl
theorem e22:FnE t22 q0 fuel g22 N22 (fun d:TWalker×W .u32×Unit=>T_walk_walker_entry d.1 d.2.1):=fun d k=>by kernel_rfl
theorem e23:FnE t0 q0 fuel g23 N23 (fun d:TPte×Unit=>T_pte_Leaf d.1):=fun d k=>by kernel_rfl
theorem e33:FnE t33 q0 fuel g33 N33 (fun d:W .u32×W .i64×Unit=>T_bits_Zext d.1 d.2.1):=fun d k=>by kernel_rfl
theorem e40:FnE t40 q0 fuel g40 N40 (fun d:TInst×Unit=>T_inst_Enc d.1):=fun d k=>by kernel_rfl
theorem e41:FnE t41 q0 fuel g41 N41 (fun d:W .u32×Unit=>T_inst_Dec d.1):=fun d k=>by kernel_rfl
theorem e42:FnE t0 q0 fuel g42 N42 (fun d:W .i64×Unit=>T_inst_Priv d.1):=fun d k=>by kernel_rfl
theorem e43:FnE t0 q0 fuel g43 N43 (fun d:Bool×Unit=>T_alu_one d.1):=fun d k=>by kernel_rfl
theorem e48:FnE t0 q0 fuel g48 N48 (fun d:W .u32×Unit=>T_alu_low d.1):=fun d k=>by kernel_rfl
theorem o55_7:Mo t55 q55 g55 7 [(1,.any),(10,.any),(11,.any)] (.trim [(1,.any)] (.loop (.mark 9 [(1,.any),(10,.any),(11,.any)] (mOf g55 9)))):=loop_mark (fnsC_mono _) (m:=K55_7) rfl (by kernel_rfl) (by kernel_rfl) (fun a=>by kernel_rfl) (marksE (by kernel_rfl) marks_nil) (B:=fun a:TMul×W .i64×W .i64×Unit=>B_mul_Run_7 a.1 a.2.1 a.2.2.1) (fun a=>by kernel_rfl) (fun a kn kx=>by kernel_rfl)
theorem h55:MarksE t55 q55 fuel g55.keep g55.body:=(marksE (l:=[(7,[(1,.any),(10,.any),(11,.any)],(.trim [(1,.any)] (.loop (.mark 9 [(1,.any),(10,.any),(11,.any)] (mOf g55 9)))))]) (by kernel_rfl) (marks_cons o55_7 marks_nil))
theorem e55:FnE t55 q55 fuel g55 N55 (fun d:TMul×Unit=>T_mul_Run d.1):=fun d k=>by kernel_rfl
theorem e58:FnE t0 q0 fuel g58 N58 (fun d:W .u32×W .u32×Unit=>T_div_New d.1 d.2.1):=fun d k=>by kernel_rfl
theorem e65:FnE t0 q0 fuel g65 N65 (fun d:TWork×W .i64×W .u32×Unit=>T_step_work_put d.1 d.2.1 d.2.2.1):=fun d k=>by kernel_rfl
theorem e77:FnE t77 q0 fuel g77 N77 (fun d:TWork×TInst×W .u32×W .u32×Unit=>T_step_work_atOnce d.1 d.2.1 d.2.2.1 d.2.2.2.1):=fun d k=>by kernel_rfl
theorem e78:FnE t78 q0 fuel g78 N78 (fun d:TArch×Unit=>T_trap_Return d.1):=fun d k=>by kernel_rfl
theorem e79:FnE t79 q0 fuel g79 N79 (fun d:TArch×W .i64×Bool×Unit=>T_csr_may d.1 d.2.1 d.2.2.1):=fun d k=>by kernel_rfl
theorem e82:FnE t82 q0 fuel g82 N82 (fun d:TWork×TInst×W .u32×Unit=>T_step_work_system d.1 d.2.1 d.2.2.1):=fun d k=>by kernel_rfl
theorem e84:FnE t0 q0 fuel g84 N84 (fun d:TArch×Unit=>T_csr_Count d.1):=fun d k=>by kernel_rfl
theorem o89_13:Mo t0 q89 g89 13 [(0,.any),(3,.any),(4,.any),(5,.any)] (.trim [(0,.any),(3,.any),(4,.any),(5,.any)] (.loop (.mark 15 [(0,.any),(3,.any),(4,.any),(5,.any)] (mOf g89 15)))):=loop_mark (fnsC_mono _) (m:=K89_13) rfl (by kernel_rfl) (by kernel_rfl) (fun a=>by kernel_rfl) (marksE (by kernel_rfl) marks_nil) (B:=fun a:W .i64×Arr 20 (W .u8)×W .u64×W .i64×Unit=>B_num_Dec_13 a.1 a.2.1 a.2.2.1 a.2.2.2.1) (fun a=>by kernel_rfl) (fun a kn kx=>by kernel_rfl)
theorem h89:MarksE t0 q89 fuel g89.keep g89.body:=(marksE (l:=[(13,[(0,.any),(3,.any),(4,.any),(5,.any)],(.trim [(0,.any),(3,.any),(4,.any),(5,.any)] (.loop (.mark 15 [(0,.any),(3,.any),(4,.any),(5,.any)] (mOf g89 15)))))]) (by kernel_rfl) (marks_cons o89_13 marks_nil))
theorem e89:FnE t0 q89 fuel g89 N89 (fun d:W .i64×Unit=>T_num_Dec d.1):=fun d k=>by kernel_rfl
theorem e90:FnE t90 q0 fuel g90 N90 (fun d:W .i64×W .u32×Unit=>T_run_register d.1 d.2.1):=fun d k=>by kernel_rfl
theorem e92:FnE t92 q0 fuel g92 N92 (fun d:TEvent×Unit=>T_run_Line d.1):=fun d k=>by kernel_rfl
end Go.Proofs.YtedhidchlfhegaaDoor
