/- YtpofngmiepljeaaDoorEq2: the functions' runs are their trees. No statement of the seat is proved here. -/
import Derived.Test.YtpofngmiepljeaaDoorTabs
set_option linter.unusedSimpArgs false
set_option linter.unusedVariables false
set_option maxRecDepth 100000
namespace Go.Proofs.YtpofngmiepljeaaDoor
open Go Go.A2
theorem e1:FnE t0 q0 fuel g1 N1 (fun d:Sl 1 (W .u8)×Unit=>T_ref10_Right d.1):=fun d k=>by kernel_rfl
theorem e6:FnE t0 q0 fuel g6 N6 (fun d:TSeg×Unit=>T_rom_end d.1):=fun d k=>by kernel_rfl
theorem o12_13:Mo t12 q12 g12 13 [(3,.any),(22,.any),(23,.any)] (.trim [(2,.any)] (.loop (.mark 15 [(3,.any),(22,.any),(23,.any)] (mOf g12 15)))):=loop_mark (fnsC_mono _) (m:=K12_13) rfl (by kernel_rfl) (by kernel_rfl) (fun a=>by kernel_rfl) (marksE (by kernel_rfl) marks_nil) (B:=fun a:W .u32×Arr 3 (TSource)×W .i64×Unit=>B_trap_Pending_13 a.1 a.2.1 a.2.2.1) (fun a=>by kernel_rfl) (fun a kn kx=>by kernel_rfl)
theorem h12:MarksE t12 q12 fuel g12.keep g12.body:=(marksE (l:=[(13,[(3,.any),(22,.any),(23,.any)],(.trim [(2,.any)] (.loop (.mark 15 [(3,.any),(22,.any),(23,.any)] (mOf g12 15)))))]) (by kernel_rfl) (marks_cons o12_13 marks_nil))
theorem e12:FnE t12 q12 fuel g12 N12 (fun d:TArch×Unit=>T_trap_Pending d.1):=fun d k=>by kernel_rfl
theorem e16:FnE t16 q0 fuel g16 N16 (fun d:TMach×W .u32×W .i64×W .u32×Unit=>T_step_traps d.1 d.2.1 d.2.2.1 d.2.2.2.1):=fun d k=>by kernel_rfl
theorem e18:FnE t0 q0 fuel g18 N18 (fun d:W .u32×W .i64×Unit=>T_bits_Aligned d.1 d.2.1):=fun d k=>by kernel_rfl
theorem e19:FnE t19 q0 fuel g19 N19 (fun d:TArch×Unit=>T_walk_Paged d.1):=fun d k=>by kernel_rfl
theorem e25:FnE t25 q0 fuel g25 N25 (fun d:W .u32×W .i64×Unit=>T_pte_Index d.1 d.2.1):=fun d k=>by kernel_rfl
theorem e29:FnE t29 q0 fuel g29 N29 (fun d:W .u32×Unit=>T_pte_Of d.1):=fun d k=>by kernel_rfl
theorem e38:FnE t38 q0 fuel g38 N38 (fun d:TMach×Unit=>T_step_Fetch d.1):=fun d k=>by kernel_rfl
theorem e39:FnE t0 q0 fuel g39 N39 (fun d:W .i64×Unit=>T_inst_Form d.1):=fun d k=>by kernel_rfl
theorem e40:FnE t40 q0 fuel g40 N40 (fun d:W .i64×W .i64×Unit=>T_inst_has d.1 d.2.1):=fun d k=>by kernel_rfl
theorem o53_5:Mo t0 q53 g53 5 [(0,.any),(3,.any)] (.trim [(3,.any)] (.loop (.mark 7 [(0,.any),(3,.any)] (mOf g53 7)))):=loop_mark (fnsC_mono _) (m:=K53_5) rfl (by kernel_rfl) (by kernel_rfl) (fun a=>by kernel_rfl) (marksE (by kernel_rfl) marks_nil) (B:=fun a:W .u32×W .i64×Unit=>B_alu_Pop_5 a.1 a.2.1) (fun a=>by kernel_rfl) (fun a kn kx=>by kernel_rfl)
theorem h53:MarksE t0 q53 fuel g53.keep g53.body:=(marksE (l:=[(5,[(0,.any),(3,.any)],(.trim [(3,.any)] (.loop (.mark 7 [(0,.any),(3,.any)] (mOf g53 7)))))]) (by kernel_rfl) (marks_cons o53_5 marks_nil))
theorem e53:FnE t0 q53 fuel g53 N53 (fun d:W .u32×Unit=>T_alu_Pop d.1):=fun d k=>by kernel_rfl
theorem e54:FnE t0 q0 fuel g54 N54 (fun d:W .u32×Unit=>T_alu_Rev d.1):=fun d k=>by kernel_rfl
theorem e55:FnE t55 q0 fuel g55 N55 (fun d:W .i64×W .u32×Unit=>T_alu_single d.1 d.2.1):=fun d k=>by kernel_rfl
theorem e59:FnE t59 q0 fuel g59 N59 (fun d:W .i64×W .u32×W .u32×Unit=>T_alu_logic d.1 d.2.1 d.2.2.1):=fun d k=>by kernel_rfl
theorem e60:FnE t60 q0 fuel g60 N60 (fun d:W .i64×W .u32×W .u32×Unit=>T_alu_Do d.1 d.2.1 d.2.2.1):=fun d k=>by kernel_rfl
theorem e61:FnE t0 q0 fuel g61 N61 (fun d:W .u32×W .u32×Unit=>T_mul_New d.1 d.2.1):=fun d k=>by kernel_rfl
theorem e64:FnE t0 q0 fuel g64 N64 (fun d:W .u32×W .u32×Unit=>T_mul_less d.1 d.2.1):=fun d k=>by kernel_rfl
theorem o69_5:Mo t69 q69 g69 5 [(1,.any),(6,.any),(7,.any)] (.trim [(1,.any)] (.loop (.mark 7 [(1,.any),(6,.any),(7,.any)] (mOf g69 7)))):=loop_mark (fnsC_mono _) (m:=K69_5) rfl (by kernel_rfl) (by kernel_rfl) (fun a=>by kernel_rfl) (marksE (by kernel_rfl) marks_nil) (B:=fun a:TDiv×W .i64×W .i64×Unit=>B_div_Run_5 a.1 a.2.1 a.2.2.1) (fun a=>by kernel_rfl) (fun a kn kx=>by kernel_rfl)
theorem h69:MarksE t69 q69 fuel g69.keep g69.body:=(marksE (l:=[(5,[(1,.any),(6,.any),(7,.any)],(.trim [(1,.any)] (.loop (.mark 7 [(1,.any),(6,.any),(7,.any)] (mOf g69 7)))))]) (by kernel_rfl) (marks_cons o69_5 marks_nil))
theorem e69:FnE t69 q69 fuel g69 N69 (fun d:TDiv×Unit=>T_div_Run d.1):=fun d k=>by kernel_rfl
theorem e75:FnE t0 q0 fuel g75 N75 (fun d:W .i64×Unit=>T_step_sizeOf d.1):=fun d k=>by kernel_rfl
theorem e80:FnE t80 q0 fuel g80 N80 (fun d:Sl 1 (W .u8)×W .u32×W .i64×W .u32×Unit=>T_mem_Write d.1 d.2.1 d.2.2.1 d.2.2.2.1):=fun d k=>by kernel_rfl
theorem e88:FnE t88 q0 fuel g88 N88 (fun d:TArch×W .i64×Unit=>T_csr_Read d.1 d.2.1):=fun d k=>by kernel_rfl
theorem e91:FnE t91 q0 fuel g91 N91 (fun d:TMach×W .u32×TInst×Unit=>T_step_does d.1 d.2.1 d.2.2.1):=fun d k=>by kernel_rfl
theorem o95_11:Mo t0 q95 g95 11 [(0,.any),(1,.any),(12,.any),(13,.any)] (.trim [(4,.any)] (.loop (.mark 13 [(0,.any),(1,.any),(12,.any),(13,.any)] (mOf g95 13)))):=loop_mark (fnsC_mono _) (m:=K95_11) rfl (by kernel_rfl) (by kernel_rfl) (fun a=>by kernel_rfl) (marksE (by kernel_rfl) marks_nil) (B:=fun a:Sl 1 (W .u8)×Sl 1 (W .u8)×W .i64×W .i64×Unit=>B_step_alike_byte_11 a.1 a.2.1 a.2.2.1 a.2.2.2.1) (fun a=>by kernel_rfl) (fun a kn kx=>by kernel_rfl)
theorem h95:MarksE t0 q95 fuel g95.keep g95.body:=(marksE (l:=[(11,[(0,.any),(1,.any),(12,.any),(13,.any)],(.trim [(4,.any)] (.loop (.mark 13 [(0,.any),(1,.any),(12,.any),(13,.any)] (mOf g95 13)))))]) (by kernel_rfl) (marks_cons o95_11 marks_nil))
theorem e95:FnE t0 q95 fuel g95 N95 (fun d:Sl 1 (W .u8)×Sl 1 (W .u8)×Unit=>T_step_alike_byte d.1 d.2.1):=fun d k=>by kernel_rfl
theorem e98:FnE t0 q0 fuel g98 N98 (fun d:TMach×Unit=>T_step_Copy d.1):=fun d k=>by kernel_rfl
theorem e99:FnE t99 q0 fuel g99 N99 (fun d:Unit=>T_law15_awake):=fun d k=>by kernel_rfl
end Go.Proofs.YtpofngmiepljeaaDoor
