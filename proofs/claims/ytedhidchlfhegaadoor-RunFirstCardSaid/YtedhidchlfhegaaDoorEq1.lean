/- YtedhidchlfhegaaDoorEq1: the functions' runs are their trees. No statement of the seat is proved here. -/
import Derived.Test.YtedhidchlfhegaaDoorTabs
set_option linter.unusedSimpArgs false
set_option linter.unusedVariables false
set_option maxRecDepth 100000
namespace Go.Proofs.YtedhidchlfhegaaDoor
open Go Go.A2
theorem e1:FnE t0 q0 fuel g1 N1 (fun d:TArch×W .u32×Unit=>T_csr_Raise d.1 d.2.1):=fun d k=>by kernel_rfl
theorem e3:FnE t0 q0 fuel g3 N3 (fun d:Unit=>T_trap_sources):=fun d k=>by kernel_rfl
theorem e11:FnE t11 q0 fuel g11 N11 (fun d:TArch×Unit=>T_walk_Paged d.1):=fun d k=>by kernel_rfl
theorem e14:FnE t0 q0 fuel g14 N14 (fun d:W .i64×Unit=>T_bits_ones d.1):=fun d k=>by kernel_rfl
theorem e17:FnE t17 q0 fuel g17 N17 (fun d:W .u32×W .i64×Unit=>T_pte_Index d.1 d.2.1):=fun d k=>by kernel_rfl
theorem e25:FnE t0 q0 fuel g25 N25 (fun d:TPte×W .i64×Bool×Unit=>T_pte_Allows d.1 d.2.1 d.2.2.1):=fun d k=>by kernel_rfl
theorem e26:FnE t0 q0 fuel g26 N26 (fun d:TPte×Unit=>T_pte_page d.1):=fun d k=>by kernel_rfl
theorem e30:FnE t30 q0 fuel g30 N30 (fun d:TMach×Unit=>T_step_Fetch d.1):=fun d k=>by kernel_rfl
theorem e31:FnE t0 q0 fuel g31 N31 (fun d:W .i64×Unit=>T_inst_Form d.1):=fun d k=>by kernel_rfl
theorem e35:FnE t35 q0 fuel g35 N35 (fun d:W .u32×W .i64×Unit=>T_bits_Sext d.1 d.2.1):=fun d k=>by kernel_rfl
theorem e37:FnE t0 q0 fuel g37 N37 (fun d:W .i64×W .i64×Unit=>T_inst_within d.1 d.2.1):=fun d k=>by kernel_rfl
theorem o44_5:Mo t0 q44 g44 5 [(0,.any),(3,.any)] (.trim [(3,.any)] (.loop (.mark 7 [(0,.any),(3,.any)] (mOf g44 7)))):=loop_mark (fnsC_mono _) (m:=K44_5) rfl (by kernel_rfl) (by kernel_rfl) (fun a=>by kernel_rfl) (marksE (by kernel_rfl) marks_nil) (B:=fun a:W .u32×W .i64×Unit=>B_alu_Clz_5 a.1 a.2.1) (fun a=>by kernel_rfl) (fun a kn kx=>by kernel_rfl)
theorem h44:MarksE t0 q44 fuel g44.keep g44.body:=(marksE (l:=[(5,[(0,.any),(3,.any)],(.trim [(3,.any)] (.loop (.mark 7 [(0,.any),(3,.any)] (mOf g44 7)))))]) (by kernel_rfl) (marks_cons o44_5 marks_nil))
theorem e44:FnE t0 q44 fuel g44 N44 (fun d:W .u32×Unit=>T_alu_Clz d.1):=fun d k=>by kernel_rfl
theorem e47:FnE t47 q0 fuel g47 N47 (fun d:W .i64×W .u32×Unit=>T_alu_single d.1 d.2.1):=fun d k=>by kernel_rfl
theorem e49:FnE t0 q0 fuel g49 N49 (fun d:W .u32×W .i64×Unit=>T_bits_RotateLeft32 d.1 d.2.1):=fun d k=>by kernel_rfl
theorem e56:FnE t0 q0 fuel g56 N56 (fun d:W .u32×W .u32×Unit=>T_mul_less d.1 d.2.1):=fun d k=>by kernel_rfl
theorem e59:FnE t0 q0 fuel g59 N59 (fun d:W .i64×Unit=>T_div_left d.1):=fun d k=>by kernel_rfl
theorem e60:FnE t60 q0 fuel g60 N60 (fun d:TDiv×Unit=>T_div_Step d.1):=fun d k=>by kernel_rfl
theorem e72:FnE t72 q0 fuel g72 N72 (fun d:Sl 1 (W .u8)×W .u32×W .i64×W .u32×Unit=>T_mem_Write d.1 d.2.1 d.2.2.1 d.2.2.2.1):=fun d k=>by kernel_rfl
theorem e80:FnE t80 q0 fuel g80 N80 (fun d:TArch×W .i64×Unit=>T_csr_Read d.1 d.2.1):=fun d k=>by kernel_rfl
theorem e86:FnE t86 q0 fuel g86 N86 (fun d:TMach×Unit=>T_step_Step d.1):=fun d k=>by kernel_rfl
theorem o87_18:Mo t87 q87 g87 18 [(1,.any),(3,.any),(6,.any),(8,.any),(9,.any),(17,.any),(18,.any),(21,.any),(22,.any),(23,.any)] (.trim [(1,.any),(3,.any),(6,.any),(8,.any),(17,.any),(18,.any)] (.loop (.mark 20 [(1,.any),(3,.any),(6,.any),(8,.any),(9,.any),(17,.any),(18,.any),(21,.any),(22,.any),(23,.any)] (mOf g87 20)))):=loop_mark (fnsC_mono _) (m:=K87_18) rfl (by kernel_rfl) (by kernel_rfl) (fun a=>by kernel_rfl) (marksE (by kernel_rfl) marks_nil) (B:=fun a:Sl 16 (TIrq)×TMach×TMach×Sl 72 (TEvent)×W .i64×W .i64×W .i64×Sl 16 (TIrq)×W .i64×W .i64×Unit=>B_run_Run_18 a.1 a.2.1 a.2.2.1 a.2.2.2.1 a.2.2.2.2.1 a.2.2.2.2.2.1 a.2.2.2.2.2.2.1 a.2.2.2.2.2.2.2.1 a.2.2.2.2.2.2.2.2.1 a.2.2.2.2.2.2.2.2.2.1) (fun a=>by kernel_rfl) (fun a kn kx=>by kernel_rfl)
theorem o87_7:Mo t87 q87 g87 7 [(1,.any),(3,.any),(6,.any),(8,.own),(17,.any),(18,.any)] (.trim [(3,.any),(6,.any),(8,.any)] (.loop (.mark 9 [(1,.any),(3,.any),(6,.any),(8,.own),(17,.any),(18,.any)] (mOf g87 9)))):=loop_mark (fnsC_mono _) (m:=K87_7) rfl (by kernel_rfl) (by kernel_rfl) (fun a=>by kernel_rfl) (marksE (l:=[(18,[(1,.any),(3,.any),(6,.any),(8,.any),(9,.any),(17,.any),(18,.any),(21,.any),(22,.any),(23,.any)],(.trim [(1,.any),(3,.any),(6,.any),(8,.any),(17,.any),(18,.any)] (.loop (.mark 20 [(1,.any),(3,.any),(6,.any),(8,.any),(9,.any),(17,.any),(18,.any),(21,.any),(22,.any),(23,.any)] (mOf g87 20)))))]) (by kernel_rfl) (marks_cons o87_18 marks_nil)) (B:=fun a:Sl 16 (TIrq)×TMach×TMach×Sl 72 (TEvent)×W .i64×W .i64×Unit=>B_run_Run_7 a.1 a.2.1 a.2.2.1 a.2.2.2.1 a.2.2.2.2.1 a.2.2.2.2.2.1) (fun a=>by kernel_rfl) (fun a kn kx=>by kernel_rfl)
theorem h87:MarksE t87 q87 fuel g87.keep g87.body:=(marksE (l:=[(7,[(1,.any),(3,.any),(6,.any),(8,.own),(17,.any),(18,.any)],(.trim [(3,.any),(6,.any),(8,.any)] (.loop (.mark 9 [(1,.any),(3,.any),(6,.any),(8,.own),(17,.any),(18,.any)] (mOf g87 9)))))]) (by kernel_rfl) (marks_cons o87_7 marks_nil))
theorem e87:FnE t87 q87 fuel g87 N87 (fun d:TMach×Sl 16 (TIrq)×W .i64×Unit=>T_run_Run d.1 d.2.1 d.2.2.1):=fun d k=>by kernel_rfl
theorem o88_7:Mo t0 q88 g88 7 [(0,.any),(3,.any),(5,.any)] (.trim [(3,.any)] (.loop (.mark 9 [(0,.any),(3,.any),(5,.any)] (mOf g88 9)))):=loop_mark (fnsC_mono _) (m:=K88_7) rfl (by kernel_rfl) (by kernel_rfl) (fun a=>by kernel_rfl) (marksE (by kernel_rfl) marks_nil) (B:=fun a:W .u32×Arr 8 (W .u8)×W .i64×Unit=>B_num_Hex_7 a.1 a.2.1 a.2.2.1) (fun a=>by kernel_rfl) (fun a kn kx=>by kernel_rfl)
theorem h88:MarksE t0 q88 fuel g88.keep g88.body:=(marksE (l:=[(7,[(0,.any),(3,.any),(5,.any)],(.trim [(3,.any)] (.loop (.mark 9 [(0,.any),(3,.any),(5,.any)] (mOf g88 9)))))]) (by kernel_rfl) (marks_cons o88_7 marks_nil))
theorem e88:FnE t0 q88 fuel g88 N88 (fun d:W .u32×Unit=>T_num_Hex d.1):=fun d k=>by kernel_rfl
theorem e91:FnE t0 q0 fuel g91 N91 (fun d:W .i64×Unit=>T_text_Cause d.1):=fun d k=>by kernel_rfl
theorem e97:FnE t97 q0 fuel g97 N97 (fun d:Unit=>T_law16_awake):=fun d k=>by kernel_rfl
theorem e100:FnE t100 q0 fuel g100 N100 (fun d:Sl 72 (TEvent)×Sl 72 (TEvent)×TArch×Unit=>T_law16_RunFirst d.1 d.2.1 d.2.2.1):=fun d k=>by kernel_rfl
end Go.Proofs.YtedhidchlfhegaaDoor
