/- YtedhidchlfhegaaGreatDoorEq2: the functions' runs are their trees. No statement of the seat is proved here. -/
import Derived.Test.YtedhidchlfhegaaGreatDoorTabs
set_option linter.unusedSimpArgs false
set_option linter.unusedVariables false
set_option maxRecDepth 100000
namespace Go.Proofs.YtedhidchlfhegaaGreatDoor
open Go Go.A2
theorem e5:FnE t0 q0 fuel g5 N5 (fun d:TArch×W .u32×Unit=>T_csr_Raise d.1 d.2.1):=fun d k=>by kernel_rfl
theorem o8_13:Mo t8 q8 g8 13 [(3,.any),(22,.any),(23,.any)] (.trim [(2,.any)] (.loop (.mark 15 [(3,.any),(22,.any),(23,.any)] (mOf g8 15)))):=loop_mark (fnsC_mono _) (m:=K8_13) rfl (by kernel_rfl) (by kernel_rfl) (fun a=>by kernel_rfl) (marksE (by kernel_rfl) marks_nil) (B:=fun a:W .u32×Arr 3 (TSource)×W .i64×Unit=>B_trap_Pending_13 a.1 a.2.1 a.2.2.1) (fun a=>by kernel_rfl) (fun a kn kx=>by kernel_rfl)
theorem h8:MarksE t8 q8 fuel g8.keep g8.body:=(marksE (l:=[(13,[(3,.any),(22,.any),(23,.any)],(.trim [(2,.any)] (.loop (.mark 15 [(3,.any),(22,.any),(23,.any)] (mOf g8 15)))))]) (by kernel_rfl) (marks_cons o8_13 marks_nil))
theorem e8:FnE t8 q8 fuel g8 N8 (fun d:TArch×Unit=>T_trap_Pending d.1):=fun d k=>by kernel_rfl
theorem e9:FnE t0 q0 fuel g9 N9 (fun d:W .i64×Unit=>T_csr_Masked d.1):=fun d k=>by kernel_rfl
theorem e12:FnE t12 q0 fuel g12 N12 (fun d:TMach×W .u32×W .i64×W .u32×Unit=>T_step_traps d.1 d.2.1 d.2.2.1 d.2.2.2.1):=fun d k=>by kernel_rfl
theorem e15:FnE t15 q0 fuel g15 N15 (fun d:TArch×Unit=>T_walk_Paged d.1):=fun d k=>by kernel_rfl
theorem e16:FnE t0 q0 fuel g16 N16 (fun d:W .i64×Unit=>T_walk_Fault d.1):=fun d k=>by kernel_rfl
theorem e25:FnE t25 q0 fuel g25 N25 (fun d:W .u32×Unit=>T_pte_Of d.1):=fun d k=>by kernel_rfl
theorem e33:FnE t33 q0 fuel g33 N33 (fun d:TMach×Sl 1 (W .u8)×W .u32×W .i64×W .i64×Unit=>T_step_reach d.1 d.2.1 d.2.2.1 d.2.2.2.1 d.2.2.2.2.1):=fun d k=>by kernel_rfl
theorem e34:FnE t34 q0 fuel g34 N34 (fun d:TMach×Unit=>T_step_Fetch d.1):=fun d k=>by kernel_rfl
theorem e36:FnE t36 q0 fuel g36 N36 (fun d:W .i64×W .i64×Unit=>T_inst_has d.1 d.2.1):=fun d k=>by kernel_rfl
theorem o48_5:Mo t0 q48 g48 5 [(0,.any),(3,.any)] (.trim [(3,.any)] (.loop (.mark 7 [(0,.any),(3,.any)] (mOf g48 7)))):=loop_mark (fnsC_mono _) (m:=K48_5) rfl (by kernel_rfl) (by kernel_rfl) (fun a=>by kernel_rfl) (marksE (by kernel_rfl) marks_nil) (B:=fun a:W .u32×W .i64×Unit=>B_alu_Clz_5 a.1 a.2.1) (fun a=>by kernel_rfl) (fun a kn kx=>by kernel_rfl)
theorem h48:MarksE t0 q48 fuel g48.keep g48.body:=(marksE (l:=[(5,[(0,.any),(3,.any)],(.trim [(3,.any)] (.loop (.mark 7 [(0,.any),(3,.any)] (mOf g48 7)))))]) (by kernel_rfl) (marks_cons o48_5 marks_nil))
theorem e48:FnE t0 q48 fuel g48 N48 (fun d:W .u32×Unit=>T_alu_Clz d.1):=fun d k=>by kernel_rfl
theorem e50:FnE t0 q0 fuel g50 N50 (fun d:W .u32×Unit=>T_alu_Rev d.1):=fun d k=>by kernel_rfl
theorem e57:FnE t0 q0 fuel g57 N57 (fun d:W .u32×W .u32×Unit=>T_mul_New d.1 d.2.1):=fun d k=>by kernel_rfl
theorem e60:FnE t0 q0 fuel g60 N60 (fun d:W .u32×W .u32×Unit=>T_mul_less d.1 d.2.1):=fun d k=>by kernel_rfl
theorem e64:FnE t64 q0 fuel g64 N64 (fun d:TDiv×Unit=>T_div_Step d.1):=fun d k=>by kernel_rfl
theorem e67:FnE t67 q0 fuel g67 N67 (fun d:W .i64×W .u32×W .u32×Unit=>T_div_Do d.1 d.2.1 d.2.2.1):=fun d k=>by kernel_rfl
theorem o70_3:Mo t70 q70 g70 3 [(0,.any),(2,.any),(3,.any),(5,.any),(17,.any)] (mOf g70 3):=join_mark (fnsC_mono _) (m:=K70_3) rfl (by kernel_rfl) (by kernel_rfl) (marksE (by kernel_rfl) marks_nil) (B:=fun a:TWork×W .u32×W .u32×TInst×Bool×Unit=>B_step_work_reckon_3 a.1 a.2.1 a.2.2.1 a.2.2.2.1 a.2.2.2.2.1) (fun a=>by kernel_rfl) (fun a kx=>by kernel_rfl)
theorem o70_17:Mo t70 q70 g70 17 [(0,.any),(2,.any),(3,.any),(5,.any),(8,.any),(55,.any)] (mOf g70 17):=join_mark (fnsC_mono _) (m:=K70_17) rfl (by kernel_rfl) (by kernel_rfl) (marksE (by kernel_rfl) marks_nil) (B:=fun a:TWork×W .u32×W .u32×TInst×W .u32×Bool×Unit=>B_step_work_reckon_17 a.1 a.2.1 a.2.2.1 a.2.2.2.1 a.2.2.2.2.1 a.2.2.2.2.2.1) (fun a=>by kernel_rfl) (fun a kx=>by kernel_rfl)
theorem o70_19:Mo t70 q70 g70 19 [(0,.any),(5,.any),(8,.any)] (mOf g70 19):=join_mark (fnsC_mono _) (m:=K70_19) rfl (by kernel_rfl) (by kernel_rfl) (marksE (by kernel_rfl) marks_nil) (B:=fun a:TWork×TInst×W .u32×Unit=>B_step_work_reckon_19 a.1 a.2.1 a.2.2.1) (fun a=>by kernel_rfl) (fun a kx=>by kernel_rfl)
theorem o70_15:Mo t70 q70 g70 15 [(0,.any),(2,.any),(3,.any),(5,.any),(8,.any),(9,.any)] (mOf g70 15):=join_mark (fnsC_mono _) (m:=K70_15) rfl (by kernel_rfl) (by kernel_rfl) (marksE (l:=[(17,[(0,.any),(2,.any),(3,.any),(5,.any),(8,.any),(55,.any)],(mOf g70 17)),(19,[(0,.any),(5,.any),(8,.any)],(mOf g70 19))]) (by kernel_rfl) (marks_cons o70_17 (marks_cons o70_19 marks_nil))) (B:=fun a:TWork×W .u32×W .u32×TInst×W .u32×Bool×Unit=>B_step_work_reckon_15 a.1 a.2.1 a.2.2.1 a.2.2.2.1 a.2.2.2.2.1 a.2.2.2.2.2.1) (fun a=>by kernel_rfl) (fun a kx=>by kernel_rfl)
theorem o70_11:Mo t70 q70 g70 11 [(0,.any),(2,.any),(3,.any),(5,.any),(8,.any),(9,.any)] (mOf g70 11):=join_mark (fnsC_mono _) (m:=K70_11) rfl (by kernel_rfl) (by kernel_rfl) (marksE (l:=[(15,[(0,.any),(2,.any),(3,.any),(5,.any),(8,.any),(9,.any)],(mOf g70 15))]) (by kernel_rfl) (marks_cons o70_15 marks_nil)) (B:=fun a:TWork×W .u32×W .u32×TInst×W .u32×Bool×Unit=>B_step_work_reckon_11 a.1 a.2.1 a.2.2.1 a.2.2.2.1 a.2.2.2.2.1 a.2.2.2.2.2.1) (fun a=>by kernel_rfl) (fun a kx=>by kernel_rfl)
theorem o70_5:Mo t70 q70 g70 5 [(0,.any),(2,.any),(3,.any),(5,.any)] (mOf g70 5):=join_mark (fnsC_mono _) (m:=K70_5) rfl (by kernel_rfl) (by kernel_rfl) (marksE (l:=[(11,[(0,.any),(2,.any),(3,.any),(5,.any),(8,.any),(9,.any)],(mOf g70 11))]) (by kernel_rfl) (marks_cons o70_11 marks_nil)) (B:=fun a:TWork×W .u32×W .u32×TInst×Unit=>B_step_work_reckon_5 a.1 a.2.1 a.2.2.1 a.2.2.2.1) (fun a=>by kernel_rfl) (fun a kx=>by kernel_rfl)
theorem h70:MarksE t70 q70 fuel g70.keep g70.body:=(marksE (l:=[(3,[(0,.any),(2,.any),(3,.any),(5,.any),(17,.any)],(mOf g70 3)),(5,[(0,.any),(2,.any),(3,.any),(5,.any)],(mOf g70 5))]) (by kernel_rfl) (marks_cons o70_3 (marks_cons o70_5 marks_nil)))
theorem e70:FnE t70 q70 fuel g70 N70 (fun d:TWork×TInst×W .u32×W .u32×Unit=>T_step_work_reckon d.1 d.2.1 d.2.2.1 d.2.2.2.1):=fun d k=>by kernel_rfl
theorem e71:FnE t0 q0 fuel g71 N71 (fun d:W .i64×Unit=>T_step_sizeOf d.1):=fun d k=>by kernel_rfl
theorem e73:FnE t73 q0 fuel g73 N73 (fun d:TWork×TInst×W .u32×Unit=>T_step_work_loads d.1 d.2.1 d.2.2.1):=fun d k=>by kernel_rfl
theorem e76:FnE t76 q0 fuel g76 N76 (fun d:Sl 1 (W .u8)×W .u32×W .i64×W .u32×Unit=>T_mem_Write d.1 d.2.1 d.2.2.1 d.2.2.2.1):=fun d k=>by kernel_rfl
theorem e80:FnE t80 q0 fuel g80 N80 (fun d:TWork×TInst×W .u32×W .u32×Unit=>T_step_work_goes d.1 d.2.1 d.2.2.1 d.2.2.2.1):=fun d k=>by kernel_rfl
theorem e84:FnE t84 q0 fuel g84 N84 (fun d:TArch×W .i64×Unit=>T_csr_Read d.1 d.2.1):=fun d k=>by kernel_rfl
theorem e87:FnE t87 q0 fuel g87 N87 (fun d:TMach×W .u32×TInst×Unit=>T_step_does d.1 d.2.1 d.2.2.1):=fun d k=>by kernel_rfl
theorem o92_7:Mo t0 q92 g92 7 [(0,.any),(3,.any),(5,.any)] (.trim [(3,.any)] (.loop (.mark 9 [(0,.any),(3,.any),(5,.any)] (mOf g92 9)))):=loop_mark (fnsC_mono _) (m:=K92_7) rfl (by kernel_rfl) (by kernel_rfl) (fun a=>by kernel_rfl) (marksE (by kernel_rfl) marks_nil) (B:=fun a:W .u32×Arr 8 (W .u8)×W .i64×Unit=>B_num_Hex_7 a.1 a.2.1 a.2.2.1) (fun a=>by kernel_rfl) (fun a kn kx=>by kernel_rfl)
theorem h92:MarksE t0 q92 fuel g92.keep g92.body:=(marksE (l:=[(7,[(0,.any),(3,.any),(5,.any)],(.trim [(3,.any)] (.loop (.mark 9 [(0,.any),(3,.any),(5,.any)] (mOf g92 9)))))]) (by kernel_rfl) (marks_cons o92_7 marks_nil))
theorem e92:FnE t0 q92 fuel g92 N92 (fun d:W .u32×Unit=>T_num_Hex d.1):=fun d k=>by kernel_rfl
theorem e95:FnE t0 q0 fuel g95 N95 (fun d:W .i64×Unit=>T_text_Cause d.1):=fun d k=>by kernel_rfl
theorem e97:FnE t0 q0 fuel g97 N97 (fun d:TEvent×TEvent×Unit=>T_run_Same d.1 d.2.1):=fun d k=>by kernel_rfl
theorem o98_5:Mo t98 q98 g98 5 [(0,.any),(1,.any),(10,.any),(11,.any)] (.trim [(4,.any)] (.loop (.mark 7 [(0,.any),(1,.any),(10,.any),(11,.any)] (mOf g98 7)))):=loop_mark (fnsC_mono _) (m:=K98_5) rfl (by kernel_rfl) (by kernel_rfl) (fun a=>by kernel_rfl) (marksE (by kernel_rfl) marks_nil) (B:=fun a:Sl 72 (TEvent)×Sl 72 (TEvent)×W .i64×W .i64×Unit=>B_run_First_5 a.1 a.2.1 a.2.2.1 a.2.2.2.1) (fun a=>by kernel_rfl) (fun a kn kx=>by kernel_rfl)
theorem h98:MarksE t98 q98 fuel g98.keep g98.body:=(marksE (l:=[(5,[(0,.any),(1,.any),(10,.any),(11,.any)],(.trim [(4,.any)] (.loop (.mark 7 [(0,.any),(1,.any),(10,.any),(11,.any)] (mOf g98 7)))))]) (by kernel_rfl) (marks_cons o98_5 marks_nil))
theorem e98:FnE t98 q98 fuel g98 N98 (fun d:Sl 72 (TEvent)×Sl 72 (TEvent)×Unit=>T_run_First d.1 d.2.1):=fun d k=>by kernel_rfl
end Go.Proofs.YtedhidchlfhegaaGreatDoor
