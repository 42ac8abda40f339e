/- YtedhidchlfhegaaGreatDoorEq1: the functions' runs are their trees. No statement of the seat is proved here. -/
import Derived.Test.YtedhidchlfhegaaGreatDoorTabs
set_option linter.unusedSimpArgs false
set_option linter.unusedVariables false
set_option maxRecDepth 100000
namespace Go.Proofs.YtedhidchlfhegaaGreatDoor
open Go Go.A2
theorem e3:FnE t0 q0 fuel g3 N3 (fun d:Unit=>T_trap_sources):=fun d k=>by kernel_rfl
theorem e9:FnE t9 q0 fuel g9 N9 (fun d:TArch×W .u32×Unit=>T_trap_Stops d.1 d.2.1):=fun d k=>by kernel_rfl
theorem e11:FnE t11 q0 fuel g11 N11 (fun d:TArch×Unit=>T_walk_Paged d.1):=fun d k=>by kernel_rfl
theorem e14:FnE t0 q0 fuel g14 N14 (fun d:W .i64×Unit=>T_bits_ones d.1):=fun d k=>by kernel_rfl
theorem e17:FnE t17 q0 fuel g17 N17 (fun d:W .u32×W .i64×Unit=>T_pte_Index d.1 d.2.1):=fun d k=>by kernel_rfl
theorem e25:FnE t0 q0 fuel g25 N25 (fun d:TPte×W .i64×Bool×Unit=>T_pte_Allows d.1 d.2.1 d.2.2.1):=fun d k=>by kernel_rfl
theorem e26:FnE t0 q0 fuel g26 N26 (fun d:TPte×Unit=>T_pte_page d.1):=fun d k=>by kernel_rfl
theorem e28:FnE t28 q0 fuel g28 N28 (fun d:TArch×Sl 1 (W .u8)×W .u32×W .i64×Unit=>T_walk_Trans d.1 d.2.1 d.2.2.1 d.2.2.2.1):=fun d k=>by kernel_rfl
theorem e30:FnE t30 q0 fuel g30 N30 (fun d:TMach×Unit=>T_step_Fetch d.1):=fun d k=>by kernel_rfl
theorem e31:FnE t0 q0 fuel g31 N31 (fun d:W .i64×Unit=>T_inst_Form d.1):=fun d k=>by kernel_rfl
theorem e35:FnE t35 q0 fuel g35 N35 (fun d:W .u32×W .i64×Unit=>T_bits_Sext d.1 d.2.1):=fun d k=>by kernel_rfl
theorem o45_5:Mo t0 q45 g45 5 [(0,.any),(3,.any)] (.trim [(3,.any)] (.loop (.mark 7 [(0,.any),(3,.any)] (mOf g45 7)))):=loop_mark (fnsC_mono _) (m:=K45_5) rfl (by kernel_rfl) (by kernel_rfl) (fun a=>by kernel_rfl) (marksE (by kernel_rfl) marks_nil) (B:=fun a:W .u32×W .i64×Unit=>B_alu_Pop_5 a.1 a.2.1) (fun a=>by kernel_rfl) (fun a kn kx=>by kernel_rfl)
theorem h45:MarksE t0 q45 fuel g45.keep g45.body:=(marksE (l:=[(5,[(0,.any),(3,.any)],(.trim [(3,.any)] (.loop (.mark 7 [(0,.any),(3,.any)] (mOf g45 7)))))]) (by kernel_rfl) (marks_cons o45_5 marks_nil))
theorem e45:FnE t0 q45 fuel g45 N45 (fun d:W .u32×Unit=>T_alu_Pop d.1):=fun d k=>by kernel_rfl
theorem e47:FnE t47 q0 fuel g47 N47 (fun d:W .i64×W .u32×Unit=>T_alu_single d.1 d.2.1):=fun d k=>by kernel_rfl
theorem e49:FnE t0 q0 fuel g49 N49 (fun d:W .u32×W .i64×Unit=>T_bits_RotateLeft32 d.1 d.2.1):=fun d k=>by kernel_rfl
theorem e56:FnE t0 q0 fuel g56 N56 (fun d:W .u32×W .u32×Unit=>T_mul_less d.1 d.2.1):=fun d k=>by kernel_rfl
theorem e59:FnE t0 q0 fuel g59 N59 (fun d:W .i64×Unit=>T_div_left d.1):=fun d k=>by kernel_rfl
theorem o61_5:Mo t61 q61 g61 5 [(1,.any),(6,.any),(7,.any)] (.trim [(1,.any)] (.loop (.mark 7 [(1,.any),(6,.any),(7,.any)] (mOf g61 7)))):=loop_mark (fnsC_mono _) (m:=K61_5) rfl (by kernel_rfl) (by kernel_rfl) (fun a=>by kernel_rfl) (marksE (by kernel_rfl) marks_nil) (B:=fun a:TDiv×W .i64×W .i64×Unit=>B_div_Run_5 a.1 a.2.1 a.2.2.1) (fun a=>by kernel_rfl) (fun a kn kx=>by kernel_rfl)
theorem h61:MarksE t61 q61 fuel g61.keep g61.body:=(marksE (l:=[(5,[(1,.any),(6,.any),(7,.any)],(.trim [(1,.any)] (.loop (.mark 7 [(1,.any),(6,.any),(7,.any)] (mOf g61 7)))))]) (by kernel_rfl) (marks_cons o61_5 marks_nil))
theorem e61:FnE t61 q61 fuel g61 N61 (fun d:TDiv×Unit=>T_div_Run d.1):=fun d k=>by kernel_rfl
theorem o66_3:Mo t66 q66 g66 3 [(0,.any),(2,.any),(3,.any),(5,.any),(17,.any)] (mOf g66 3):=join_mark (fnsC_mono _) (m:=K66_3) rfl (by kernel_rfl) (by kernel_rfl) (marksE (by kernel_rfl) marks_nil) (B:=fun a:TWork×W .u32×W .u32×TInst×Bool×Unit=>B_step_work_reckon_3 a.1 a.2.1 a.2.2.1 a.2.2.2.1 a.2.2.2.2.1) (fun a=>by kernel_rfl) (fun a kx=>by kernel_rfl)
theorem o66_17:Mo t66 q66 g66 17 [(0,.any),(2,.any),(3,.any),(5,.any),(8,.any),(55,.any)] (mOf g66 17):=join_mark (fnsC_mono _) (m:=K66_17) rfl (by kernel_rfl) (by kernel_rfl) (marksE (by kernel_rfl) marks_nil) (B:=fun a:TWork×W .u32×W .u32×TInst×W .u32×Bool×Unit=>B_step_work_reckon_17 a.1 a.2.1 a.2.2.1 a.2.2.2.1 a.2.2.2.2.1 a.2.2.2.2.2.1) (fun a=>by kernel_rfl) (fun a kx=>by kernel_rfl)
theorem o66_19:Mo t66 q66 g66 19 [(0,.any),(5,.any),(8,.any)] (mOf g66 19):=join_mark (fnsC_mono _) (m:=K66_19) rfl (by kernel_rfl) (by kernel_rfl) (marksE (by kernel_rfl) marks_nil) (B:=fun a:TWork×TInst×W .u32×Unit=>B_step_work_reckon_19 a.1 a.2.1 a.2.2.1) (fun a=>by kernel_rfl) (fun a kx=>by kernel_rfl)
theorem o66_15:Mo t66 q66 g66 15 [(0,.any),(2,.any),(3,.any),(5,.any),(8,.any),(9,.any)] (mOf g66 15):=join_mark (fnsC_mono _) (m:=K66_15) rfl (by kernel_rfl) (by kernel_rfl) (marksE (l:=[(17,[(0,.any),(2,.any),(3,.any),(5,.any),(8,.any),(55,.any)],(mOf g66 17)),(19,[(0,.any),(5,.any),(8,.any)],(mOf g66 19))]) (by kernel_rfl) (marks_cons o66_17 (marks_cons o66_19 marks_nil))) (B:=fun a:TWork×W .u32×W .u32×TInst×W .u32×Bool×Unit=>B_step_work_reckon_15 a.1 a.2.1 a.2.2.1 a.2.2.2.1 a.2.2.2.2.1 a.2.2.2.2.2.1) (fun a=>by kernel_rfl) (fun a kx=>by kernel_rfl)
theorem o66_11:Mo t66 q66 g66 11 [(0,.any),(2,.any),(3,.any),(5,.any),(8,.any),(9,.any)] (mOf g66 11):=join_mark (fnsC_mono _) (m:=K66_11) rfl (by kernel_rfl) (by kernel_rfl) (marksE (l:=[(15,[(0,.any),(2,.any),(3,.any),(5,.any),(8,.any),(9,.any)],(mOf g66 15))]) (by kernel_rfl) (marks_cons o66_15 marks_nil)) (B:=fun a:TWork×W .u32×W .u32×TInst×W .u32×Bool×Unit=>B_step_work_reckon_11 a.1 a.2.1 a.2.2.1 a.2.2.2.1 a.2.2.2.2.1 a.2.2.2.2.2.1) (fun a=>by kernel_rfl) (fun a kx=>by kernel_rfl)
theorem o66_5:Mo t66 q66 g66 5 [(0,.any),(2,.any),(3,.any),(5,.any)] (mOf g66 5):=join_mark (fnsC_mono _) (m:=K66_5) rfl (by kernel_rfl) (by kernel_rfl) (marksE (l:=[(11,[(0,.any),(2,.any),(3,.any),(5,.any),(8,.any),(9,.any)],(mOf g66 11))]) (by kernel_rfl) (marks_cons o66_11 marks_nil)) (B:=fun a:TWork×W .u32×W .u32×TInst×Unit=>B_step_work_reckon_5 a.1 a.2.1 a.2.2.1 a.2.2.2.1) (fun a=>by kernel_rfl) (fun a kx=>by kernel_rfl)
theorem h66:MarksE t66 q66 fuel g66.keep g66.body:=(marksE (l:=[(3,[(0,.any),(2,.any),(3,.any),(5,.any),(17,.any)],(mOf g66 3)),(5,[(0,.any),(2,.any),(3,.any),(5,.any)],(mOf g66 5))]) (by kernel_rfl) (marks_cons o66_3 (marks_cons o66_5 marks_nil)))
theorem e66:FnE t66 q66 fuel g66 N66 (fun d:TWork×TInst×W .u32×W .u32×Unit=>T_step_work_reckon d.1 d.2.1 d.2.2.1 d.2.2.2.1):=fun d k=>by kernel_rfl
theorem e69:FnE t69 q0 fuel g69 N69 (fun d:TWork×TInst×W .u32×Unit=>T_step_work_loads d.1 d.2.1 d.2.2.1):=fun d k=>by kernel_rfl
theorem e72:FnE t72 q0 fuel g72 N72 (fun d:Sl 1 (W .u8)×W .u32×W .i64×W .u32×Unit=>T_mem_Write d.1 d.2.1 d.2.2.1 d.2.2.2.1):=fun d k=>by kernel_rfl
theorem e79:FnE t79 q0 fuel g79 N79 (fun d:TArch×W .i64×Bool×Unit=>T_csr_may d.1 d.2.1 d.2.2.1):=fun d k=>by kernel_rfl
theorem e80:FnE t80 q0 fuel g80 N80 (fun d:TArch×W .i64×Unit=>T_csr_Read d.1 d.2.1):=fun d k=>by kernel_rfl
theorem e92:FnE t92 q0 fuel g92 N92 (fun d:TEvent×Unit=>T_run_Line d.1):=fun d k=>by kernel_rfl
theorem e95:FnE t0 q0 fuel g95 N95 (fun d:W .i64×W .u32×TArch×Unit=>T_run_Replay_1 d.1 d.2.1 d.2.2.1):=fun d k=>by kernel_rfl
theorem e98:FnE t0 q0 fuel g98 N98 (fun d:W .u32×Unit=>T_ref02_digit d.1):=fun d k=>by kernel_rfl
theorem e105:FnE t105 q0 fuel g105 N105 (fun d:TEvent×TEvent×Sl 72 (TEvent)×Unit=>T_law16_RunLines d.1 d.2.1 d.2.2.1):=fun d k=>by kernel_rfl
end Go.Proofs.YtedhidchlfhegaaGreatDoor
