/- YtedhidchlfhegaaGreatDoorEq0: the functions' runs are their trees. No statement of the seat is proved here. -/
import Derived.Test.YtedhidchlfhegaaGreatDoorTabs
set_option linter.unusedSimpArgs false
set_option linter.unusedVariables false
set_option maxRecDepth 100000
namespace Go.Proofs.YtedhidchlfhegaaGreatDoor
open Go Go.A2
theorem e1:FnE t0 q0 fuel g1 N1 (fun d:Sl 1 (W .u8)×Unit=>T_ref10_Right d.1):=fun d k=>by kernel_rfl
theorem o3_11:Mo t3 q3 g3 11 [(1,.any),(3,.any)] (.trim [(2,.any)] (.loop (.mark 13 [(1,.any),(3,.any)] (mOf g3 13)))):=loop_mark (fnsC_mono _) (m:=K3_11) rfl (by kernel_rfl) (by kernel_rfl) (fun a=>by kernel_rfl) (marksE (by kernel_rfl) marks_nil) (B:=fun a:TMach×W .i64×Unit=>B_ref15_Right_11 a.1 a.2.1) (fun a=>by kernel_rfl) (fun a kn kx=>by kernel_rfl)
theorem h3:MarksE t3 q3 fuel g3.keep g3.body:=(marksE (l:=[(11,[(1,.any),(3,.any)],(.trim [(2,.any)] (.loop (.mark 13 [(1,.any),(3,.any)] (mOf g3 13)))))]) (by kernel_rfl) (marks_cons o3_11 marks_nil))
theorem e3:FnE t3 q3 fuel g3 N3 (fun d:TMach×Unit=>T_ref15_Right d.1):=fun d k=>by kernel_rfl
theorem e7:FnE t0 q0 fuel g7 N7 (fun d:Unit=>T_trap_sources):=fun d k=>by kernel_rfl
theorem e18:FnE t0 q0 fuel g18 N18 (fun d:W .i64×Unit=>T_bits_ones d.1):=fun d k=>by kernel_rfl
theorem e21:FnE t21 q0 fuel g21 N21 (fun d:W .u32×W .i64×Unit=>T_pte_Index d.1 d.2.1):=fun d k=>by kernel_rfl
theorem e22:FnE t0 q0 fuel g22 N22 (fun d:Sl 1 (W .u8)×W .u32×W .i64×Unit=>T_mem_Check d.1 d.2.1 d.2.2.1):=fun d k=>by kernel_rfl
theorem e24:FnE t24 q0 fuel g24 N24 (fun d:Sl 1 (W .u8)×W .u32×W .i64×Unit=>T_mem_Read d.1 d.2.1 d.2.2.1):=fun d k=>by kernel_rfl
theorem e30:FnE t0 q0 fuel g30 N30 (fun d:TPte×Unit=>T_pte_page d.1):=fun d k=>by kernel_rfl
theorem e33:FnE t33 q0 fuel g33 N33 (fun d:TMach×Sl 1 (W .u8)×W .u32×W .i64×W .i64×Unit=>T_step_reach d.1 d.2.1 d.2.2.1 d.2.2.2.1 d.2.2.2.2.1):=fun d k=>by kernel_rfl
theorem e39:FnE t39 q0 fuel g39 N39 (fun d:W .u32×W .i64×Unit=>T_bits_Sext d.1 d.2.1):=fun d k=>by kernel_rfl
theorem e40:FnE t40 q0 fuel g40 N40 (fun d:W .i64×W .u32×Unit=>T_inst_number d.1 d.2.1):=fun d k=>by kernel_rfl
theorem e45:FnE t45 q0 fuel g45 N45 (fun d:W .u32×Unit=>T_inst_Dec d.1):=fun d k=>by kernel_rfl
theorem e46:FnE t0 q0 fuel g46 N46 (fun d:W .i64×Unit=>T_inst_Priv d.1):=fun d k=>by kernel_rfl
theorem o49_5:Mo t0 q49 g49 5 [(0,.any),(3,.any)] (.trim [(3,.any)] (.loop (.mark 7 [(0,.any),(3,.any)] (mOf g49 7)))):=loop_mark (fnsC_mono _) (m:=K49_5) rfl (by kernel_rfl) (by kernel_rfl) (fun a=>by kernel_rfl) (marksE (by kernel_rfl) marks_nil) (B:=fun a:W .u32×W .i64×Unit=>B_alu_Pop_5 a.1 a.2.1) (fun a=>by kernel_rfl) (fun a kn kx=>by kernel_rfl)
theorem h49:MarksE t0 q49 fuel g49.keep g49.body:=(marksE (l:=[(5,[(0,.any),(3,.any)],(.trim [(3,.any)] (.loop (.mark 7 [(0,.any),(3,.any)] (mOf g49 7)))))]) (by kernel_rfl) (marks_cons o49_5 marks_nil))
theorem e49:FnE t0 q49 fuel g49 N49 (fun d:W .u32×Unit=>T_alu_Pop d.1):=fun d k=>by kernel_rfl
theorem e53:FnE t0 q0 fuel g53 N53 (fun d:W .u32×W .i64×Unit=>T_bits_RotateLeft32 d.1 d.2.1):=fun d k=>by kernel_rfl
theorem e63:FnE t0 q0 fuel g63 N63 (fun d:W .i64×Unit=>T_div_left d.1):=fun d k=>by kernel_rfl
theorem o65_5:Mo t65 q65 g65 5 [(1,.any),(6,.any),(7,.any)] (.trim [(1,.any)] (.loop (.mark 7 [(1,.any),(6,.any),(7,.any)] (mOf g65 7)))):=loop_mark (fnsC_mono _) (m:=K65_5) rfl (by kernel_rfl) (by kernel_rfl) (fun a=>by kernel_rfl) (marksE (by kernel_rfl) marks_nil) (B:=fun a:TDiv×W .i64×W .i64×Unit=>B_div_Run_5 a.1 a.2.1 a.2.2.1) (fun a=>by kernel_rfl) (fun a kn kx=>by kernel_rfl)
theorem h65:MarksE t65 q65 fuel g65.keep g65.body:=(marksE (l:=[(5,[(1,.any),(6,.any),(7,.any)],(.trim [(1,.any)] (.loop (.mark 7 [(1,.any),(6,.any),(7,.any)] (mOf g65 7)))))]) (by kernel_rfl) (marks_cons o65_5 marks_nil))
theorem e65:FnE t65 q65 fuel g65 N65 (fun d:TDiv×Unit=>T_div_Run d.1):=fun d k=>by kernel_rfl
theorem e68:FnE t0 q0 fuel g68 N68 (fun d:W .u32×W .u32×W .u32×Unit=>T_alu_Cmov d.1 d.2.1 d.2.2.1):=fun d k=>by kernel_rfl
theorem e78:FnE t78 q0 fuel g78 N78 (fun d:TWork×TInst×W .u32×W .u32×Unit=>T_step_work_keeps d.1 d.2.1 d.2.2.1 d.2.2.2.1):=fun d k=>by kernel_rfl
theorem e83:FnE t83 q0 fuel g83 N83 (fun d:TArch×W .i64×Bool×Unit=>T_csr_may d.1 d.2.1 d.2.2.1):=fun d k=>by kernel_rfl
theorem e86:FnE t86 q0 fuel g86 N86 (fun d:TWork×TInst×W .u32×Unit=>T_step_work_system d.1 d.2.1 d.2.2.1):=fun d k=>by kernel_rfl
theorem e89:FnE t89 q0 fuel g89 N89 (fun d:TArch×Unit=>T_trap_Single d.1):=fun d k=>by kernel_rfl
theorem o93_13:Mo t0 q93 g93 13 [(0,.any),(3,.any),(4,.any),(5,.any)] (.trim [(0,.any),(3,.any),(4,.any),(5,.any)] (.loop (.mark 15 [(0,.any),(3,.any),(4,.any),(5,.any)] (mOf g93 15)))):=loop_mark (fnsC_mono _) (m:=K93_13) rfl (by kernel_rfl) (by kernel_rfl) (fun a=>by kernel_rfl) (marksE (by kernel_rfl) marks_nil) (B:=fun a:W .i64×Arr 20 (W .u8)×W .u64×W .i64×Unit=>B_num_Dec_13 a.1 a.2.1 a.2.2.1 a.2.2.2.1) (fun a=>by kernel_rfl) (fun a kn kx=>by kernel_rfl)
theorem h93:MarksE t0 q93 fuel g93.keep g93.body:=(marksE (l:=[(13,[(0,.any),(3,.any),(4,.any),(5,.any)],(.trim [(0,.any),(3,.any),(4,.any),(5,.any)] (.loop (.mark 15 [(0,.any),(3,.any),(4,.any),(5,.any)] (mOf g93 15)))))]) (by kernel_rfl) (marks_cons o93_13 marks_nil))
theorem e93:FnE t0 q93 fuel g93 N93 (fun d:W .i64×Unit=>T_num_Dec d.1):=fun d k=>by kernel_rfl
theorem e99:FnE t0 q0 fuel g99 N99 (fun d:W .i64×W .u32×TArch×Unit=>T_run_Replay_1 d.1 d.2.1 d.2.2.1):=fun d k=>by kernel_rfl
end Go.Proofs.YtedhidchlfhegaaGreatDoor
