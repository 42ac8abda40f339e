/- YtijckobfnmkjdaaGreatDoorEq3: the functions' runs are their trees. No statement of the seat is proved here. -/
import Derived.Test.YtijckobfnmkjdaaGreatDoorTabs
set_option linter.unusedSimpArgs false
set_option linter.unusedVariables false
set_option maxRecDepth 100000
namespace Go.Proofs.YtijckobfnmkjdaaGreatDoor
open Go Go.A2
theorem e1:FnE t0 q0 fuel g1 N1 (fun d:W .i64×Unit=>T_inst_Form d.1):=fun d k=>by kernel_rfl
theorem e5:FnE t0 q0 fuel g5 N5 (fun d:W .i64×W .i64×W .i64×Unit=>T_bits_clamp d.1 d.2.1 d.2.2.1):=fun d k=>by kernel_rfl
theorem e11:FnE t0 q0 fuel g11 N11 (fun d:W .i64×Unit=>T_crack_Serial d.1):=fun d k=>by kernel_rfl
theorem e13:FnE t0 q0 fuel g13 N13 (fun d:TUop×Unit=>T_exec_behind d.1):=fun d k=>by kernel_rfl
theorem e22:FnE t22 q0 fuel g22 N22 (fun d:TDiv×Unit=>T_div_Step d.1):=fun d k=>by kernel_rfl
theorem e25:FnE t25 q0 fuel g25 N25 (fun d:W .i64×W .u32×W .u32×Unit=>T_div_Do d.1 d.2.1 d.2.2.1):=fun d k=>by kernel_rfl
theorem e26:FnE t0 q0 fuel g26 N26 (fun d:Bool×Unit=>T_alu_one d.1):=fun d k=>by kernel_rfl
theorem e29:FnE t0 q0 fuel g29 N29 (fun d:W .u32×Unit=>T_alu_Rev d.1):=fun d k=>by kernel_rfl
theorem e36:FnE t36 q0 fuel g36 N36 (fun d:W .i64×W .u32×W .u32×Unit=>T_exec_two d.1 d.2.1 d.2.2.1):=fun d k=>by kernel_rfl
theorem e39:FnE t0 q0 fuel g39 N39 (fun d:TUop×Unit=>T_exec_ahead d.1):=fun d k=>by kernel_rfl
theorem e47:FnE t0 q0 fuel g47 N47 (fun d:TSeg×Unit=>T_rom_end d.1):=fun d k=>by kernel_rfl
theorem e54:FnE t54 q0 fuel g54 N54 (fun d:W .i64×W .u32×Unit=>T_inst_number d.1 d.2.1):=fun d k=>by kernel_rfl
theorem e57:FnE t57 q0 fuel g57 N57 (fun d:TInst×Unit=>T_crack_sources d.1):=fun d k=>by kernel_rfl
theorem e59:FnE t59 q0 fuel g59 N59 (fun d:TSlot×TInst×W .i64×Bool×Unit=>T_crack_part d.1 d.2.1 d.2.2.1 d.2.2.2.1):=fun d k=>by kernel_rfl
theorem e60:FnE t60 q0 fuel g60 N60 (fun d:TSlot×Unit=>T_crack_Uops d.1):=fun d k=>by kernel_rfl
theorem e67:FnE t67 q0 fuel g67 N67 (fun d:TMach×W .u32×W .i64×W .u32×Unit=>T_step_traps d.1 d.2.1 d.2.2.1 d.2.2.2.1):=fun d k=>by kernel_rfl
theorem e68:FnE t68 q0 fuel g68 N68 (fun d:TArch×W .u32×Unit=>T_trap_Stops d.1 d.2.1):=fun d k=>by kernel_rfl
theorem e73:FnE t0 q0 fuel g73 N73 (fun d:Sl 1 (W .u8)×W .u32×W .i64×Unit=>T_mem_Check d.1 d.2.1 d.2.2.1):=fun d k=>by kernel_rfl
theorem e75:FnE t75 q0 fuel g75 N75 (fun d:Sl 1 (W .u8)×W .u32×W .i64×Unit=>T_mem_Read d.1 d.2.1 d.2.2.1):=fun d k=>by kernel_rfl
theorem e79:FnE t79 q0 fuel g79 N79 (fun d:Sl 1 (W .u8)×W .u32×W .u32×Unit=>T_walk_Walk d.1 d.2.1 d.2.2.1):=fun d k=>by kernel_rfl
theorem e82:FnE t82 q0 fuel g82 N82 (fun d:TPte×W .u32×Unit=>T_pte_Addr d.1 d.2.1):=fun d k=>by kernel_rfl
theorem e84:FnE t84 q0 fuel g84 N84 (fun d:TMach×Sl 1 (W .u8)×W .u32×W .i64×W .i64×Unit=>T_step_reach d.1 d.2.1 d.2.2.1 d.2.2.2.1 d.2.2.2.2.1):=fun d k=>by kernel_rfl
theorem e91:FnE t91 q0 fuel g91 N91 (fun d:TWork×TInst×W .u32×Unit=>T_step_work_loads d.1 d.2.1 d.2.2.1):=fun d k=>by kernel_rfl
theorem o93_7:Mo t93 q93 g93 7 [(0,.any),(5,.any),(11,.any),(12,.any)] (.trim [(5,.any)] (.loop (.mark 9 [(0,.any),(5,.any),(11,.any),(12,.any)] (mOf g93 9)))):=loop_mark (fnsC_mono _) (m:=K93_7) rfl (by kernel_rfl) (by kernel_rfl) (fun a=>by kernel_rfl) (marksE (by kernel_rfl) marks_nil) (B:=fun a:W .u32×Sl 1 (W .u8)×W .i64×W .i64×Unit=>B_bits_Bytes_7 a.1 a.2.1 a.2.2.1 a.2.2.2.1) (fun a=>by kernel_rfl) (fun a kn kx=>by kernel_rfl)
theorem h93:MarksE t93 q93 fuel g93.keep g93.body:=(marksE (l:=[(7,[(0,.any),(5,.any),(11,.any),(12,.any)],(.trim [(5,.any)] (.loop (.mark 9 [(0,.any),(5,.any),(11,.any),(12,.any)] (mOf g93 9)))))]) (by kernel_rfl) (marks_cons o93_7 marks_nil))
theorem e93:FnE t93 q93 fuel g93 N93 (fun d:W .u32×W .i64×Unit=>T_bits_Bytes d.1 d.2.1):=fun d k=>by kernel_rfl
theorem e94:FnE t94 q0 fuel g94 N94 (fun d:Sl 1 (W .u8)×W .u32×W .i64×W .u32×Unit=>T_mem_Write d.1 d.2.1 d.2.2.1 d.2.2.2.1):=fun d k=>by kernel_rfl
theorem e97:FnE t97 q0 fuel g97 N97 (fun d:TWork×TInst×W .u32×W .u32×Unit=>T_step_work_goes d.1 d.2.1 d.2.2.1 d.2.2.2.1):=fun d k=>by kernel_rfl
theorem e101:FnE t101 q0 fuel g101 N101 (fun d:TArch×W .i64×Unit=>T_csr_Read d.1 d.2.1):=fun d k=>by kernel_rfl
theorem e103:FnE t103 q0 fuel g103 N103 (fun d:TWork×TInst×W .u32×Unit=>T_step_work_system d.1 d.2.1 d.2.2.1):=fun d k=>by kernel_rfl
end Go.Proofs.YtijckobfnmkjdaaGreatDoor
