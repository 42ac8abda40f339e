/- YtedhidchlfhegaaGreatDoorEq3: the functions' runs are their trees. No statement of the seat is proved here. -/
import Derived.Test.YtedhidchlfhegaaGreatDoorTabs
set_option linter.unusedSimpArgs false
set_option linter.unusedVariables false
set_option maxRecDepth 100000
namespace Go.Proofs.YtedhidchlfhegaaGreatDoor
open Go Go.A2
theorem e1:FnE t0 q0 fuel g1 N1 (fun d:TArch×W .u32×Unit=>T_csr_Raise d.1 d.2.1):=fun d k=>by kernel_rfl
theorem e6:FnE t0 q0 fuel g6 N6 (fun d:W .u32×W .u32×W .u32×Unit=>T_trap_moved d.1 d.2.1 d.2.2.1):=fun d k=>by kernel_rfl
theorem e8:FnE t8 q0 fuel g8 N8 (fun d:TMach×W .u32×W .i64×W .u32×Unit=>T_step_traps d.1 d.2.1 d.2.2.1 d.2.2.2.1):=fun d k=>by kernel_rfl
theorem e12:FnE t0 q0 fuel g12 N12 (fun d:W .i64×Unit=>T_walk_Fault d.1):=fun d k=>by kernel_rfl
theorem e18:FnE t0 q0 fuel g18 N18 (fun d:Sl 1 (W .u8)×W .u32×W .i64×Unit=>T_mem_Check d.1 d.2.1 d.2.2.1):=fun d k=>by kernel_rfl
theorem e20:FnE t20 q0 fuel g20 N20 (fun d:Sl 1 (W .u8)×W .u32×W .i64×Unit=>T_mem_Read d.1 d.2.1 d.2.2.1):=fun d k=>by kernel_rfl
theorem e21:FnE t21 q0 fuel g21 N21 (fun d:W .u32×Unit=>T_pte_Of d.1):=fun d k=>by kernel_rfl
theorem e29:FnE t29 q0 fuel g29 N29 (fun d:TMach×Sl 1 (W .u8)×W .u32×W .i64×W .i64×Unit=>T_step_reach d.1 d.2.1 d.2.2.1 d.2.2.2.1 d.2.2.2.2.1):=fun d k=>by kernel_rfl
theorem e32:FnE t32 q0 fuel g32 N32 (fun d:W .i64×W .i64×Unit=>T_inst_has d.1 d.2.1):=fun d k=>by kernel_rfl
theorem e36:FnE t36 q0 fuel g36 N36 (fun d:W .i64×W .u32×Unit=>T_inst_number d.1 d.2.1):=fun d k=>by kernel_rfl
theorem o38_11:Mo t38 q38 g38 11 [(1,.any),(18,.any),(19,.any)] (.trim [(1,.any),(2,.any)] (.loop (.mark 13 [(1,.any),(18,.any),(19,.any)] (mOf g38 13)))):=loop_mark (fnsC_mono _) (m:=K38_11) rfl (by kernel_rfl) (by kernel_rfl) (fun a=>by kernel_rfl) (marksE (by kernel_rfl) marks_nil) (B:=fun a:TInst×Arr 3 (TS141)×W .i64×Unit=>B_inst_Right_11 a.1 a.2.1 a.2.2.1) (fun a=>by kernel_rfl) (fun a kn kx=>by kernel_rfl)
theorem h38:MarksE t38 q38 fuel g38.keep g38.body:=(marksE (l:=[(11,[(1,.any),(18,.any),(19,.any)],(.trim [(1,.any),(2,.any)] (.loop (.mark 13 [(1,.any),(18,.any),(19,.any)] (mOf g38 13)))))]) (by kernel_rfl) (marks_cons o38_11 marks_nil))
theorem e38:FnE t38 q38 fuel g38 N38 (fun d:TInst×Unit=>T_inst_Right d.1):=fun d k=>by kernel_rfl
theorem o44_5:Mo t0 q44 g44 5 [(0,.any),(3,.any)] (.trim [(3,.any)] (.loop (.mark 7 [(0,.any),(3,.any)] (mOf g44 7)))):=loop_mark (fnsC_mono _) (m:=K44_5) rfl (by kernel_rfl) (by kernel_rfl) (fun a=>by kernel_rfl) (marksE (by kernel_rfl) marks_nil) (B:=fun a:W .u32×W .i64×Unit=>B_alu_Clz_5 a.1 a.2.1) (fun a=>by kernel_rfl) (fun a kn kx=>by kernel_rfl)
theorem h44:MarksE t0 q44 fuel g44.keep g44.body:=(marksE (l:=[(5,[(0,.any),(3,.any)],(.trim [(3,.any)] (.loop (.mark 7 [(0,.any),(3,.any)] (mOf g44 7)))))]) (by kernel_rfl) (marks_cons o44_5 marks_nil))
theorem e44:FnE t0 q44 fuel g44 N44 (fun d:W .u32×Unit=>T_alu_Clz d.1):=fun d k=>by kernel_rfl
theorem e46:FnE t0 q0 fuel g46 N46 (fun d:W .u32×Unit=>T_alu_Rev d.1):=fun d k=>by kernel_rfl
theorem e53:FnE t0 q0 fuel g53 N53 (fun d:W .u32×W .u32×Unit=>T_mul_New d.1 d.2.1):=fun d k=>by kernel_rfl
theorem e60:FnE t60 q0 fuel g60 N60 (fun d:TDiv×Unit=>T_div_Step d.1):=fun d k=>by kernel_rfl
theorem e64:FnE t0 q0 fuel g64 N64 (fun d:W .u32×W .u32×W .u32×Unit=>T_alu_Cmov d.1 d.2.1 d.2.2.1):=fun d k=>by kernel_rfl
theorem e74:FnE t74 q0 fuel g74 N74 (fun d:TWork×TInst×W .u32×W .u32×Unit=>T_step_work_keeps d.1 d.2.1 d.2.2.1 d.2.2.2.1):=fun d k=>by kernel_rfl
theorem e76:FnE t76 q0 fuel g76 N76 (fun d:TWork×TInst×W .u32×W .u32×Unit=>T_step_work_goes d.1 d.2.1 d.2.2.1 d.2.2.2.1):=fun d k=>by kernel_rfl
theorem e82:FnE t82 q0 fuel g82 N82 (fun d:TWork×TInst×W .u32×Unit=>T_step_work_system d.1 d.2.1 d.2.2.1):=fun d k=>by kernel_rfl
theorem e83:FnE t83 q0 fuel g83 N83 (fun d:TMach×W .u32×TInst×Unit=>T_step_does d.1 d.2.1 d.2.2.1):=fun d k=>by kernel_rfl
theorem e85:FnE t85 q0 fuel g85 N85 (fun d:TArch×Unit=>T_trap_Single d.1):=fun d k=>by kernel_rfl
theorem e86:FnE t86 q0 fuel g86 N86 (fun d:TMach×Unit=>T_step_Step d.1):=fun d k=>by kernel_rfl
theorem o87_18:Mo t87 q87 g87 18 [(1,.any),(3,.any),(6,.any),(8,.any),(9,.any),(17,.any),(18,.any),(21,.any),(22,.any),(23,.any)] (.trim [(1,.any),(3,.any),(6,.any),(8,.any),(17,.any),(18,.any)] (.loop (.mark 20 [(1,.any),(3,.any),(6,.any),(8,.any),(9,.any),(17,.any),(18,.any),(21,.any),(22,.any),(23,.any)] (mOf g87 20)))):=loop_mark (fnsC_mono _) (m:=K87_18) rfl (by kernel_rfl) (by kernel_rfl) (fun a=>by kernel_rfl) (marksE (by kernel_rfl) marks_nil) (B:=fun a:Sl 16 (TIrq)×TMach×TMach×Sl 72 (TEvent)×W .i64×W .i64×W .i64×Sl 16 (TIrq)×W .i64×W .i64×Unit=>B_run_Run_18 a.1 a.2.1 a.2.2.1 a.2.2.2.1 a.2.2.2.2.1 a.2.2.2.2.2.1 a.2.2.2.2.2.2.1 a.2.2.2.2.2.2.2.1 a.2.2.2.2.2.2.2.2.1 a.2.2.2.2.2.2.2.2.2.1) (fun a=>by kernel_rfl) (fun a kn kx=>by kernel_rfl)
theorem o87_7:Mo t87 q87 g87 7 [(1,.any),(3,.any),(6,.any),(8,.own),(17,.any),(18,.any)] (.trim [(3,.any),(6,.any),(8,.any)] (.loop (.mark 9 [(1,.any),(3,.any),(6,.any),(8,.own),(17,.any),(18,.any)] (mOf g87 9)))):=loop_mark (fnsC_mono _) (m:=K87_7) rfl (by kernel_rfl) (by kernel_rfl) (fun a=>by kernel_rfl) (marksE (l:=[(18,[(1,.any),(3,.any),(6,.any),(8,.any),(9,.any),(17,.any),(18,.any),(21,.any),(22,.any),(23,.any)],(.trim [(1,.any),(3,.any),(6,.any),(8,.any),(17,.any),(18,.any)] (.loop (.mark 20 [(1,.any),(3,.any),(6,.any),(8,.any),(9,.any),(17,.any),(18,.any),(21,.any),(22,.any),(23,.any)] (mOf g87 20)))))]) (by kernel_rfl) (marks_cons o87_18 marks_nil)) (B:=fun a:Sl 16 (TIrq)×TMach×TMach×Sl 72 (TEvent)×W .i64×W .i64×Unit=>B_run_Run_7 a.1 a.2.1 a.2.2.1 a.2.2.2.1 a.2.2.2.2.1 a.2.2.2.2.2.1) (fun a=>by kernel_rfl) (fun a kn kx=>by kernel_rfl)
theorem h87:MarksE t87 q87 fuel g87.keep g87.body:=(marksE (l:=[(7,[(1,.any),(3,.any),(6,.any),(8,.own),(17,.any),(18,.any)],(.trim [(3,.any),(6,.any),(8,.any)] (.loop (.mark 9 [(1,.any),(3,.any),(6,.any),(8,.own),(17,.any),(18,.any)] (mOf g87 9)))))]) (by kernel_rfl) (marks_cons o87_7 marks_nil))
theorem e87:FnE t87 q87 fuel g87 N87 (fun d:TMach×Sl 16 (TIrq)×W .i64×Unit=>T_run_Run d.1 d.2.1 d.2.2.1):=fun d k=>by kernel_rfl
theorem o88_7:Mo t0 q88 g88 7 [(0,.any),(3,.any),(5,.any)] (.trim [(3,.any)] (.loop (.mark 9 [(0,.any),(3,.any),(5,.any)] (mOf g88 9)))):=loop_mark (fnsC_mono _) (m:=K88_7) rfl (by kernel_rfl) (by kernel_rfl) (fun a=>by kernel_rfl) (marksE (by kernel_rfl) marks_nil) (B:=fun a:W .u32×Arr 8 (W .u8)×W .i64×Unit=>B_num_Hex_7 a.1 a.2.1 a.2.2.1) (fun a=>by kernel_rfl) (fun a kn kx=>by kernel_rfl)
theorem h88:MarksE t0 q88 fuel g88.keep g88.body:=(marksE (l:=[(7,[(0,.any),(3,.any),(5,.any)],(.trim [(3,.any)] (.loop (.mark 9 [(0,.any),(3,.any),(5,.any)] (mOf g88 9)))))]) (by kernel_rfl) (marks_cons o88_7 marks_nil))
theorem e88:FnE t0 q88 fuel g88 N88 (fun d:W .u32×Unit=>T_num_Hex d.1):=fun d k=>by kernel_rfl
theorem e93:FnE t0 q0 fuel g93 N93 (fun d:TEvent×TEvent×Unit=>T_run_Same d.1 d.2.1):=fun d k=>by kernel_rfl
theorem e102:FnE t0 q0 fuel g102 N102 (fun d:W .i64×Unit=>T_ref07_Cause d.1):=fun d k=>by kernel_rfl
theorem e103:FnE t103 q0 fuel g103 N103 (fun d:TEvent×Unit=>T_ref16_Line d.1):=fun d k=>by kernel_rfl
end Go.Proofs.YtedhidchlfhegaaGreatDoor
