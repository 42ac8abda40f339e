/- YtijckobfnmkjdaaGreatDoorEq0: the functions' runs are their trees. No statement of the seat is proved here. -/
import Derived.Test.YtijckobfnmkjdaaGreatDoorTabs
set_option linter.unusedSimpArgs false
set_option linter.unusedVariables false
set_option maxRecDepth 100000
namespace Go.Proofs.YtijckobfnmkjdaaGreatDoor
open Go Go.A2
theorem e9:FnE t9 q0 fuel g9 N9 (fun d:W .i64×Unit=>T_inst_width d.1):=fun d k=>by kernel_rfl
theorem e12:FnE t12 q0 fuel g12 N12 (fun d:W .i64×Unit=>T_crack_Unit d.1):=fun d k=>by kernel_rfl
theorem e15:FnE t0 q0 fuel g15 N15 (fun d:W .u32×W .u32×Unit=>T_mul_New d.1 d.2.1):=fun d k=>by kernel_rfl
theorem o17_7:Mo t17 q17 g17 7 [(1,.any),(10,.any),(11,.any)] (.trim [(1,.any)] (.loop (.mark 9 [(1,.any),(10,.any),(11,.any)] (mOf g17 9)))):=loop_mark (fnsC_mono _) (m:=K17_7) rfl (by kernel_rfl) (by kernel_rfl) (fun a=>by kernel_rfl) (marksE (by kernel_rfl) marks_nil) (B:=fun a:TMul×W .i64×W .i64×Unit=>B_mul_Run_7 a.1 a.2.1 a.2.2.1) (fun a=>by kernel_rfl) (fun a kn kx=>by kernel_rfl)
theorem h17:MarksE t17 q17 fuel g17.keep g17.body:=(marksE (l:=[(7,[(1,.any),(10,.any),(11,.any)],(.trim [(1,.any)] (.loop (.mark 9 [(1,.any),(10,.any),(11,.any)] (mOf g17 9)))))]) (by kernel_rfl) (marks_cons o17_7 marks_nil))
theorem e17:FnE t17 q17 fuel g17 N17 (fun d:TMul×Unit=>T_mul_Run d.1):=fun d k=>by kernel_rfl
theorem e18:FnE t0 q0 fuel g18 N18 (fun d:W .u32×W .u32×Unit=>T_mul_less d.1 d.2.1):=fun d k=>by kernel_rfl
theorem o28_5:Mo t0 q28 g28 5 [(0,.any),(3,.any)] (.trim [(3,.any)] (.loop (.mark 7 [(0,.any),(3,.any)] (mOf g28 7)))):=loop_mark (fnsC_mono _) (m:=K28_5) rfl (by kernel_rfl) (by kernel_rfl) (fun a=>by kernel_rfl) (marksE (by kernel_rfl) marks_nil) (B:=fun a:W .u32×W .i64×Unit=>B_alu_Pop_5 a.1 a.2.1) (fun a=>by kernel_rfl) (fun a kn kx=>by kernel_rfl)
theorem h28:MarksE t0 q28 fuel g28.keep g28.body:=(marksE (l:=[(5,[(0,.any),(3,.any)],(.trim [(3,.any)] (.loop (.mark 7 [(0,.any),(3,.any)] (mOf g28 7)))))]) (by kernel_rfl) (marks_cons o28_5 marks_nil))
theorem e28:FnE t0 q28 fuel g28 N28 (fun d:W .u32×Unit=>T_alu_Pop d.1):=fun d k=>by kernel_rfl
theorem e30:FnE t30 q0 fuel g30 N30 (fun d:W .i64×W .u32×Unit=>T_alu_single d.1 d.2.1):=fun d k=>by kernel_rfl
theorem e31:FnE t0 q0 fuel g31 N31 (fun d:W .u32×Unit=>T_alu_low d.1):=fun d k=>by kernel_rfl
theorem e40:FnE t40 q0 fuel g40 N40 (fun d:TUop×Arr 3 (W .u32)×Unit=>T_exec_Do d.1 d.2.1):=fun d k=>by kernel_rfl
theorem e41:FnE t41 q0 fuel g41 N41 (fun d:W .u32×W .i64×Unit=>T_bits_Sext d.1 d.2.1):=fun d k=>by kernel_rfl
theorem e44:FnE t44 q0 fuel g44 N44 (fun d:TUop×W .u32×Unit=>T_exec_Wrong d.1 d.2.1):=fun d k=>by kernel_rfl
theorem e45:FnE t45 q0 fuel g45 N45 (fun d:Unit=>T_law32_awake):=fun d k=>by kernel_rfl
theorem e51:FnE t0 q0 fuel g51 N51 (fun d:Unit=>T_crack_none):=fun d k=>by kernel_rfl
theorem e58:FnE t58 q0 fuel g58 N58 (fun d:TInst×Unit=>T_crack_target d.1):=fun d k=>by kernel_rfl
theorem e61:FnE t0 q0 fuel g61 N61 (fun d:TArch×Unit=>T_csr_Kernel d.1):=fun d k=>by kernel_rfl
theorem o63_13:Mo t63 q63 g63 13 [(3,.any),(22,.any),(23,.any)] (.trim [(2,.any)] (.loop (.mark 15 [(3,.any),(22,.any),(23,.any)] (mOf g63 15)))):=loop_mark (fnsC_mono _) (m:=K63_13) rfl (by kernel_rfl) (by kernel_rfl) (fun a=>by kernel_rfl) (marksE (by kernel_rfl) marks_nil) (B:=fun a:W .u32×Arr 3 (TSource)×W .i64×Unit=>B_trap_Pending_13 a.1 a.2.1 a.2.2.1) (fun a=>by kernel_rfl) (fun a kn kx=>by kernel_rfl)
theorem h63:MarksE t63 q63 fuel g63.keep g63.body:=(marksE (l:=[(13,[(3,.any),(22,.any),(23,.any)],(.trim [(2,.any)] (.loop (.mark 15 [(3,.any),(22,.any),(23,.any)] (mOf g63 15)))))]) (by kernel_rfl) (marks_cons o63_13 marks_nil))
theorem e63:FnE t63 q63 fuel g63 N63 (fun d:TArch×Unit=>T_trap_Pending d.1):=fun d k=>by kernel_rfl
theorem e65:FnE t0 q0 fuel g65 N65 (fun d:W .u32×W .u32×W .u32×Unit=>T_trap_moved d.1 d.2.1 d.2.2.1):=fun d k=>by kernel_rfl
theorem o74_7:Mo t0 q74 g74 7 [(3,.any),(10,.any),(11,.any),(12,.any)] (.trim [(3,.any)] (.loop (.mark 9 [(3,.any),(10,.any),(11,.any),(12,.any)] (mOf g74 9)))):=loop_mark (fnsC_mono _) (m:=K74_7) rfl (by kernel_rfl) (by kernel_rfl) (fun a=>by kernel_rfl) (marksE (by kernel_rfl) marks_nil) (B:=fun a:W .u32×Sl 1 (W .u8)×W .i64×W .i64×Unit=>B_bits_Of_7 a.1 a.2.1 a.2.2.1 a.2.2.2.1) (fun a=>by kernel_rfl) (fun a kn kx=>by kernel_rfl)
theorem h74:MarksE t0 q74 fuel g74.keep g74.body:=(marksE (l:=[(7,[(3,.any),(10,.any),(11,.any),(12,.any)],(.trim [(3,.any)] (.loop (.mark 9 [(3,.any),(10,.any),(11,.any),(12,.any)] (mOf g74 9)))))]) (by kernel_rfl) (marks_cons o74_7 marks_nil))
theorem e74:FnE t0 q74 fuel g74 N74 (fun d:Sl 1 (W .u8)×Unit=>T_bits_Of d.1):=fun d k=>by kernel_rfl
theorem e76:FnE t76 q0 fuel g76 N76 (fun d:W .u32×Unit=>T_pte_Of d.1):=fun d k=>by kernel_rfl
theorem e83:FnE t83 q0 fuel g83 N83 (fun d:TArch×Sl 1 (W .u8)×W .u32×W .i64×Unit=>T_walk_Trans d.1 d.2.1 d.2.2.1 d.2.2.2.1):=fun d k=>by kernel_rfl
theorem e85:FnE t85 q0 fuel g85 N85 (fun d:TMach×Unit=>T_step_Fetch d.1):=fun d k=>by kernel_rfl
theorem e86:FnE t0 q0 fuel g86 N86 (fun d:W .i64×Unit=>T_inst_Priv d.1):=fun d k=>by kernel_rfl
theorem e90:FnE t0 q0 fuel g90 N90 (fun d:TWork×W .i64×W .u32×Unit=>T_step_work_fails d.1 d.2.1 d.2.2.1):=fun d k=>by kernel_rfl
theorem e96:FnE t96 q0 fuel g96 N96 (fun d:TWork×TInst×W .u32×W .u32×Unit=>T_step_work_keeps d.1 d.2.1 d.2.2.1 d.2.2.2.1):=fun d k=>by kernel_rfl
theorem e106:FnE t106 q0 fuel g106 N106 (fun d:TArch×Unit=>T_trap_Single d.1):=fun d k=>by kernel_rfl
end Go.Proofs.YtijckobfnmkjdaaGreatDoor
