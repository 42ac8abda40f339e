/- YtedhidchlfhegaaGreatDoorEq2: the functions' runs are their trees. No statement of the seat is proved here. -/
import Derived.Test.YtedhidchlfhegaaGreatDoorTabs
set_option linter.unusedSimpArgs false
set_option linter.unusedVariables false
set_option maxRecDepth 100000
namespace Go.Proofs.YtedhidchlfhegaaGreatDoor
open Go Go.A2
theorem e2:FnE t0 q0 fuel g2 N2 (fun d:TArch×Unit=>T_csr_Kernel d.1):=fun d k=>by kernel_rfl
theorem o4_13:Mo t4 q4 g4 13 [(3,.any),(22,.any),(23,.any)] (.trim [(2,.any)] (.loop (.mark 15 [(3,.any),(22,.any),(23,.any)] (mOf g4 15)))):=loop_mark (fnsC_mono _) (m:=K4_13) rfl (by kernel_rfl) (by kernel_rfl) (fun a=>by kernel_rfl) (marksE (by kernel_rfl) marks_nil) (B:=fun a:W .u32×Arr 3 (TSource)×W .i64×Unit=>B_trap_Pending_13 a.1 a.2.1 a.2.2.1) (fun a=>by kernel_rfl) (fun a kn kx=>by kernel_rfl)
theorem h4:MarksE t4 q4 fuel g4.keep g4.body:=(marksE (l:=[(13,[(3,.any),(22,.any),(23,.any)],(.trim [(2,.any)] (.loop (.mark 15 [(3,.any),(22,.any),(23,.any)] (mOf g4 15)))))]) (by kernel_rfl) (marks_cons o4_13 marks_nil))
theorem e4:FnE t4 q4 fuel g4 N4 (fun d:TArch×Unit=>T_trap_Pending d.1):=fun d k=>by kernel_rfl
theorem e5:FnE t0 q0 fuel g5 N5 (fun d:W .i64×Unit=>T_csr_Masked d.1):=fun d k=>by kernel_rfl
theorem e13:FnE t0 q0 fuel g13 N13 (fun d:W .i64×W .i64×W .i64×Unit=>T_bits_clamp d.1 d.2.1 d.2.2.1):=fun d k=>by kernel_rfl
theorem e22:FnE t22 q0 fuel g22 N22 (fun d:TWalker×W .u32×Unit=>T_walk_walker_entry d.1 d.2.1):=fun d k=>by kernel_rfl
theorem e23:FnE t0 q0 fuel g23 N23 (fun d:TPte×Unit=>T_pte_Leaf d.1):=fun d k=>by kernel_rfl
theorem e33:FnE t33 q0 fuel g33 N33 (fun d:W .u32×W .i64×Unit=>T_bits_Zext d.1 d.2.1):=fun d k=>by kernel_rfl
theorem e40:FnE t40 q0 fuel g40 N40 (fun d:TInst×Unit=>T_inst_Enc d.1):=fun d k=>by kernel_rfl
theorem e42:FnE t0 q0 fuel g42 N42 (fun d:W .i64×Unit=>T_inst_Priv d.1):=fun d k=>by kernel_rfl
theorem e43:FnE t0 q0 fuel g43 N43 (fun d:Bool×Unit=>T_alu_one d.1):=fun d k=>by kernel_rfl
theorem e48:FnE t0 q0 fuel g48 N48 (fun d:W .u32×Unit=>T_alu_low d.1):=fun d k=>by kernel_rfl
theorem e51:FnE t51 q0 fuel g51 N51 (fun d:W .i64×W .u32×W .u32×Unit=>T_alu_logic d.1 d.2.1 d.2.2.1):=fun d k=>by kernel_rfl
theorem e52:FnE t52 q0 fuel g52 N52 (fun d:W .i64×W .u32×W .u32×Unit=>T_alu_Do d.1 d.2.1 d.2.2.1):=fun d k=>by kernel_rfl
theorem o55_7:Mo t55 q55 g55 7 [(1,.any),(10,.any),(11,.any)] (.trim [(1,.any)] (.loop (.mark 9 [(1,.any),(10,.any),(11,.any)] (mOf g55 9)))):=loop_mark (fnsC_mono _) (m:=K55_7) rfl (by kernel_rfl) (by kernel_rfl) (fun a=>by kernel_rfl) (marksE (by kernel_rfl) marks_nil) (B:=fun a:TMul×W .i64×W .i64×Unit=>B_mul_Run_7 a.1 a.2.1 a.2.2.1) (fun a=>by kernel_rfl) (fun a kn kx=>by kernel_rfl)
theorem h55:MarksE t55 q55 fuel g55.keep g55.body:=(marksE (l:=[(7,[(1,.any),(10,.any),(11,.any)],(.trim [(1,.any)] (.loop (.mark 9 [(1,.any),(10,.any),(11,.any)] (mOf g55 9)))))]) (by kernel_rfl) (marks_cons o55_7 marks_nil))
theorem e55:FnE t55 q55 fuel g55 N55 (fun d:TMul×Unit=>T_mul_Run d.1):=fun d k=>by kernel_rfl
theorem e58:FnE t0 q0 fuel g58 N58 (fun d:W .u32×W .u32×Unit=>T_div_New d.1 d.2.1):=fun d k=>by kernel_rfl
theorem e63:FnE t63 q0 fuel g63 N63 (fun d:W .i64×W .u32×W .u32×Unit=>T_div_Do d.1 d.2.1 d.2.2.1):=fun d k=>by kernel_rfl
theorem e65:FnE t0 q0 fuel g65 N65 (fun d:TWork×W .i64×W .u32×Unit=>T_step_work_put d.1 d.2.1 d.2.2.1):=fun d k=>by kernel_rfl
theorem e67:FnE t0 q0 fuel g67 N67 (fun d:W .i64×Unit=>T_step_sizeOf d.1):=fun d k=>by kernel_rfl
theorem e77:FnE t77 q0 fuel g77 N77 (fun d:TWork×TInst×W .u32×W .u32×Unit=>T_step_work_atOnce d.1 d.2.1 d.2.2.1 d.2.2.2.1):=fun d k=>by kernel_rfl
theorem e78:FnE t78 q0 fuel g78 N78 (fun d:TArch×Unit=>T_trap_Return d.1):=fun d k=>by kernel_rfl
theorem e84:FnE t0 q0 fuel g84 N84 (fun d:TArch×Unit=>T_csr_Count d.1):=fun d k=>by kernel_rfl
theorem o89_13:Mo t0 q89 g89 13 [(0,.any),(3,.any),(4,.any),(5,.any)] (.trim [(0,.any),(3,.any),(4,.any),(5,.any)] (.loop (.mark 15 [(0,.any),(3,.any),(4,.any),(5,.any)] (mOf g89 15)))):=loop_mark (fnsC_mono _) (m:=K89_13) rfl (by kernel_rfl) (by kernel_rfl) (fun a=>by kernel_rfl) (marksE (by kernel_rfl) marks_nil) (B:=fun a:W .i64×Arr 20 (W .u8)×W .u64×W .i64×Unit=>B_num_Dec_13 a.1 a.2.1 a.2.2.1 a.2.2.2.1) (fun a=>by kernel_rfl) (fun a kn kx=>by kernel_rfl)
theorem h89:MarksE t0 q89 fuel g89.keep g89.body:=(marksE (l:=[(13,[(0,.any),(3,.any),(4,.any),(5,.any)],(.trim [(0,.any),(3,.any),(4,.any),(5,.any)] (.loop (.mark 15 [(0,.any),(3,.any),(4,.any),(5,.any)] (mOf g89 15)))))]) (by kernel_rfl) (marks_cons o89_13 marks_nil))
theorem e89:FnE t0 q89 fuel g89 N89 (fun d:W .i64×Unit=>T_num_Dec d.1):=fun d k=>by kernel_rfl
theorem e90:FnE t90 q0 fuel g90 N90 (fun d:W .i64×W .u32×Unit=>T_run_register d.1 d.2.1):=fun d k=>by kernel_rfl
theorem o94_5:Mo t94 q94 g94 5 [(0,.any),(1,.any),(10,.any),(11,.any)] (.trim [(4,.any)] (.loop (.mark 7 [(0,.any),(1,.any),(10,.any),(11,.any)] (mOf g94 7)))):=loop_mark (fnsC_mono _) (m:=K94_5) rfl (by kernel_rfl) (by kernel_rfl) (fun a=>by kernel_rfl) (marksE (by kernel_rfl) marks_nil) (B:=fun a:Sl 72 (TEvent)×Sl 72 (TEvent)×W .i64×W .i64×Unit=>B_run_First_5 a.1 a.2.1 a.2.2.1 a.2.2.2.1) (fun a=>by kernel_rfl) (fun a kn kx=>by kernel_rfl)
theorem h94:MarksE t94 q94 fuel g94.keep g94.body:=(marksE (l:=[(5,[(0,.any),(1,.any),(10,.any),(11,.any)],(.trim [(4,.any)] (.loop (.mark 7 [(0,.any),(1,.any),(10,.any),(11,.any)] (mOf g94 7)))))]) (by kernel_rfl) (marks_cons o94_5 marks_nil))
theorem e94:FnE t94 q94 fuel g94 N94 (fun d:Sl 72 (TEvent)×Sl 72 (TEvent)×Unit=>T_run_First d.1 d.2.1):=fun d k=>by kernel_rfl
theorem o99_9:Mo t99 q99 g99 9 [(3,.any),(4,.any),(5,.any)] (.trim [(3,.any)] (.loop (.mark 11 [(3,.any),(4,.any),(5,.any)] (mOf g99 11)))):=loop_mark (fnsC_mono _) (m:=K99_9) rfl (by kernel_rfl) (by kernel_rfl) (fun a=>by kernel_rfl) (marksE (by kernel_rfl) marks_nil) (B:=fun a:Str×W .u32×W .i64×Unit=>B_ref02_Hex_9 a.1 a.2.1 a.2.2.1) (fun a=>by kernel_rfl) (fun a kn kx=>by kernel_rfl)
theorem h99:MarksE t99 q99 fuel g99.keep g99.body:=(marksE (l:=[(9,[(3,.any),(4,.any),(5,.any)],(.trim [(3,.any)] (.loop (.mark 11 [(3,.any),(4,.any),(5,.any)] (mOf g99 11)))))]) (by kernel_rfl) (marks_cons o99_9 marks_nil))
theorem e99:FnE t99 q99 fuel g99 N99 (fun d:W .u32×Unit=>T_ref02_Hex d.1):=fun d k=>by kernel_rfl
theorem o104_5:Mo t0 q104 g104 5 [(0,.any),(1,.any),(5,.any)] (.trim [(4,.any)] (.loop (.mark 7 [(0,.any),(1,.any),(5,.any)] (mOf g104 7)))):=loop_mark (fnsC_mono _) (m:=K104_5) rfl (by kernel_rfl) (by kernel_rfl) (fun a=>by kernel_rfl) (marksE (by kernel_rfl) marks_nil) (B:=fun a:Sl 72 (TEvent)×Sl 72 (TEvent)×W .i64×Unit=>B_ref16_First_5 a.1 a.2.1 a.2.2.1) (fun a=>by kernel_rfl) (fun a kn kx=>by kernel_rfl)
theorem h104:MarksE t0 q104 fuel g104.keep g104.body:=(marksE (l:=[(5,[(0,.any),(1,.any),(5,.any)],(.trim [(4,.any)] (.loop (.mark 7 [(0,.any),(1,.any),(5,.any)] (mOf g104 7)))))]) (by kernel_rfl) (marks_cons o104_5 marks_nil))
theorem e104:FnE t0 q104 fuel g104 N104 (fun d:Sl 72 (TEvent)×Sl 72 (TEvent)×Unit=>T_ref16_First d.1 d.2.1):=fun d k=>by kernel_rfl
end Go.Proofs.YtedhidchlfhegaaGreatDoor
