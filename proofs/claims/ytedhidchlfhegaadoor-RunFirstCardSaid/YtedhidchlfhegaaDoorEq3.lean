/- YtedhidchlfhegaaDoorEq3: the functions' runs are their trees. No statement of the seat is proved here. -/
import Derived.Test.YtedhidchlfhegaaDoorTabs
set_option linter.unusedSimpArgs false
set_option linter.unusedVariables false
set_option maxRecDepth 100000
namespace Go.Proofs.YtedhidchlfhegaaDoor
open Go Go.A2
theorem e2:FnE t0 q0 fuel g2 N2 (fun d:TArch×Unit=>T_csr_Kernel d.1):=fun d k=>by kernel_rfl
theorem o4_13:Mo t4 q4 g4 13 [(3,.any),(22,.any),(23,.any)] (.trim [(2,.any)] (.loop (.mark 15 [(3,.any),(22,.any),(23,.any)] (mOf g4 15)))):=loop_mark (fnsC_mono _) (m:=K4_13) rfl (by kernel_rfl) (by kernel_rfl) (fun a=>by kernel_rfl) (marksE (by kernel_rfl) marks_nil) (B:=fun a:W .u32×Arr 3 (TSource)×W .i64×Unit=>B_trap_Pending_13 a.1 a.2.1 a.2.2.1) (fun a=>by kernel_rfl) (fun a kn kx=>by kernel_rfl)
theorem h4:MarksE t4 q4 fuel g4.keep g4.body:=(marksE (l:=[(13,[(3,.any),(22,.any),(23,.any)],(.trim [(2,.any)] (.loop (.mark 15 [(3,.any),(22,.any),(23,.any)] (mOf g4 15)))))]) (by kernel_rfl) (marks_cons o4_13 marks_nil))
theorem e4:FnE t4 q4 fuel g4 N4 (fun d:TArch×Unit=>T_trap_Pending d.1):=fun d k=>by kernel_rfl
theorem e8:FnE t8 q0 fuel g8 N8 (fun d:TMach×W .u32×W .i64×W .u32×Unit=>T_step_traps d.1 d.2.1 d.2.2.1 d.2.2.2.1):=fun d k=>by kernel_rfl
theorem e9:FnE t9 q0 fuel g9 N9 (fun d:TArch×W .u32×Unit=>T_trap_Stops d.1 d.2.1):=fun d k=>by kernel_rfl
theorem e12:FnE t0 q0 fuel g12 N12 (fun d:W .i64×Unit=>T_walk_Fault d.1):=fun d k=>by kernel_rfl
theorem e15:FnE t15 q0 fuel g15 N15 (fun d:W .i64×W .i64×Unit=>T_bits_mask d.1 d.2.1):=fun d k=>by kernel_rfl
theorem e21:FnE t21 q0 fuel g21 N21 (fun d:W .u32×Unit=>T_pte_Of d.1):=fun d k=>by kernel_rfl
theorem e28:FnE t28 q0 fuel g28 N28 (fun d:TArch×Sl 1 (W .u8)×W .u32×W .i64×Unit=>T_walk_Trans d.1 d.2.1 d.2.2.1 d.2.2.2.1):=fun d k=>by kernel_rfl
theorem e32:FnE t32 q0 fuel g32 N32 (fun d:W .i64×W .i64×Unit=>T_inst_has d.1 d.2.1):=fun d k=>by kernel_rfl
theorem e34:FnE t34 q0 fuel g34 N34 (fun d:W .i64×Unit=>T_inst_width d.1):=fun d k=>by kernel_rfl
theorem o38_11:Mo t38 q38 g38 11 [(1,.any),(18,.any),(19,.any)] (.trim [(1,.any),(2,.any)] (.loop (.mark 13 [(1,.any),(18,.any),(19,.any)] (mOf g38 13)))):=loop_mark (fnsC_mono _) (m:=K38_11) rfl (by kernel_rfl) (by kernel_rfl) (fun a=>by kernel_rfl) (marksE (by kernel_rfl) marks_nil) (B:=fun a:TInst×Arr 3 (TS116)×W .i64×Unit=>B_inst_Right_11 a.1 a.2.1 a.2.2.1) (fun a=>by kernel_rfl) (fun a kn kx=>by kernel_rfl)
theorem h38:MarksE t38 q38 fuel g38.keep g38.body:=(marksE (l:=[(11,[(1,.any),(18,.any),(19,.any)],(.trim [(1,.any),(2,.any)] (.loop (.mark 13 [(1,.any),(18,.any),(19,.any)] (mOf g38 13)))))]) (by kernel_rfl) (marks_cons o38_11 marks_nil))
theorem e38:FnE t38 q38 fuel g38 N38 (fun d:TInst×Unit=>T_inst_Right d.1):=fun d k=>by kernel_rfl
theorem o45_5:Mo t0 q45 g45 5 [(0,.any),(3,.any)] (.trim [(3,.any)] (.loop (.mark 7 [(0,.any),(3,.any)] (mOf g45 7)))):=loop_mark (fnsC_mono _) (m:=K45_5) rfl (by kernel_rfl) (by kernel_rfl) (fun a=>by kernel_rfl) (marksE (by kernel_rfl) marks_nil) (B:=fun a:W .u32×W .i64×Unit=>B_alu_Pop_5 a.1 a.2.1) (fun a=>by kernel_rfl) (fun a kn kx=>by kernel_rfl)
theorem h45:MarksE t0 q45 fuel g45.keep g45.body:=(marksE (l:=[(5,[(0,.any),(3,.any)],(.trim [(3,.any)] (.loop (.mark 7 [(0,.any),(3,.any)] (mOf g45 7)))))]) (by kernel_rfl) (marks_cons o45_5 marks_nil))
theorem e45:FnE t0 q45 fuel g45 N45 (fun d:W .u32×Unit=>T_alu_Pop d.1):=fun d k=>by kernel_rfl
theorem e46:FnE t0 q0 fuel g46 N46 (fun d:W .u32×Unit=>T_alu_Rev d.1):=fun d k=>by kernel_rfl
theorem e51:FnE t51 q0 fuel g51 N51 (fun d:W .i64×W .u32×W .u32×Unit=>T_alu_logic d.1 d.2.1 d.2.2.1):=fun d k=>by kernel_rfl
theorem e52:FnE t52 q0 fuel g52 N52 (fun d:W .i64×W .u32×W .u32×Unit=>T_alu_Do d.1 d.2.1 d.2.2.1):=fun d k=>by kernel_rfl
theorem e53:FnE t0 q0 fuel g53 N53 (fun d:W .u32×W .u32×Unit=>T_mul_New d.1 d.2.1):=fun d k=>by kernel_rfl
theorem o61_5:Mo t61 q61 g61 5 [(1,.any),(6,.any),(7,.any)] (.trim [(1,.any)] (.loop (.mark 7 [(1,.any),(6,.any),(7,.any)] (mOf g61 7)))):=loop_mark (fnsC_mono _) (m:=K61_5) rfl (by kernel_rfl) (by kernel_rfl) (fun a=>by kernel_rfl) (marksE (by kernel_rfl) marks_nil) (B:=fun a:TDiv×W .i64×W .i64×Unit=>B_div_Run_5 a.1 a.2.1 a.2.2.1) (fun a=>by kernel_rfl) (fun a kn kx=>by kernel_rfl)
theorem h61:MarksE t61 q61 fuel g61.keep g61.body:=(marksE (l:=[(5,[(1,.any),(6,.any),(7,.any)],(.trim [(1,.any)] (.loop (.mark 7 [(1,.any),(6,.any),(7,.any)] (mOf g61 7)))))]) (by kernel_rfl) (marks_cons o61_5 marks_nil))
theorem e61:FnE t61 q61 fuel g61 N61 (fun d:TDiv×Unit=>T_div_Run d.1):=fun d k=>by kernel_rfl
theorem e62:FnE t0 q0 fuel g62 N62 (fun d:W .u32×Unit=>T_div_away d.1):=fun d k=>by kernel_rfl
theorem e67:FnE t0 q0 fuel g67 N67 (fun d:W .i64×Unit=>T_step_sizeOf d.1):=fun d k=>by kernel_rfl
theorem e73:FnE t73 q0 fuel g73 N73 (fun d:TWork×W .u32×W .i64×W .u32×Unit=>T_step_work_stores d.1 d.2.1 d.2.2.1 d.2.2.2.1):=fun d k=>by kernel_rfl
theorem e76:FnE t76 q0 fuel g76 N76 (fun d:TWork×TInst×W .u32×W .u32×Unit=>T_step_work_goes d.1 d.2.1 d.2.2.1 d.2.2.2.1):=fun d k=>by kernel_rfl
theorem e81:FnE t81 q0 fuel g81 N81 (fun d:TArch×W .i64×W .u32×Unit=>T_csr_Write d.1 d.2.1 d.2.2.1):=fun d k=>by kernel_rfl
theorem e93:FnE t0 q0 fuel g93 N93 (fun d:TEvent×TEvent×Unit=>T_run_Same d.1 d.2.1):=fun d k=>by kernel_rfl
theorem o94_5:Mo t94 q94 g94 5 [(0,.any),(1,.any),(10,.any),(11,.any)] (.trim [(4,.any)] (.loop (.mark 7 [(0,.any),(1,.any),(10,.any),(11,.any)] (mOf g94 7)))):=loop_mark (fnsC_mono _) (m:=K94_5) rfl (by kernel_rfl) (by kernel_rfl) (fun a=>by kernel_rfl) (marksE (by kernel_rfl) marks_nil) (B:=fun a:Sl 72 (TEvent)×Sl 72 (TEvent)×W .i64×W .i64×Unit=>B_run_First_5 a.1 a.2.1 a.2.2.1 a.2.2.2.1) (fun a=>by kernel_rfl) (fun a kn kx=>by kernel_rfl)
theorem h94:MarksE t94 q94 fuel g94.keep g94.body:=(marksE (l:=[(5,[(0,.any),(1,.any),(10,.any),(11,.any)],(.trim [(4,.any)] (.loop (.mark 7 [(0,.any),(1,.any),(10,.any),(11,.any)] (mOf g94 7)))))]) (by kernel_rfl) (marks_cons o94_5 marks_nil))
theorem e94:FnE t94 q94 fuel g94 N94 (fun d:Sl 72 (TEvent)×Sl 72 (TEvent)×Unit=>T_run_First d.1 d.2.1):=fun d k=>by kernel_rfl
theorem e95:FnE t0 q0 fuel g95 N95 (fun d:W .i64×W .u32×TArch×Unit=>T_run_Replay_1 d.1 d.2.1 d.2.2.1):=fun d k=>by kernel_rfl
theorem o98_5:Mo t0 q98 g98 5 [(0,.any),(1,.any),(5,.any)] (.trim [(4,.any)] (.loop (.mark 7 [(0,.any),(1,.any),(5,.any)] (mOf g98 7)))):=loop_mark (fnsC_mono _) (m:=K98_5) rfl (by kernel_rfl) (by kernel_rfl) (fun a=>by kernel_rfl) (marksE (by kernel_rfl) marks_nil) (B:=fun a:Sl 72 (TEvent)×Sl 72 (TEvent)×W .i64×Unit=>B_ref16_First_5 a.1 a.2.1 a.2.2.1) (fun a=>by kernel_rfl) (fun a kn kx=>by kernel_rfl)
theorem h98:MarksE t0 q98 fuel g98.keep g98.body:=(marksE (l:=[(5,[(0,.any),(1,.any),(5,.any)],(.trim [(4,.any)] (.loop (.mark 7 [(0,.any),(1,.any),(5,.any)] (mOf g98 7)))))]) (by kernel_rfl) (marks_cons o98_5 marks_nil))
theorem e98:FnE t0 q98 fuel g98 N98 (fun d:Sl 72 (TEvent)×Sl 72 (TEvent)×Unit=>T_ref16_First d.1 d.2.1):=fun d k=>by kernel_rfl
end Go.Proofs.YtedhidchlfhegaaDoor
