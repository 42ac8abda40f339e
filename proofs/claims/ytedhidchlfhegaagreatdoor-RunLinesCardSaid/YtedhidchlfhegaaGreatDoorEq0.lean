/- YtedhidchlfhegaaGreatDoorEq0: the functions' runs are their trees. No statement of the seat is proved here. -/
import Derived.Test.YtedhidchlfhegaaGreatDoorTabs
set_option linter.unusedSimpArgs false
set_option linter.unusedVariables false
set_option maxRecDepth 100000
namespace Go.Proofs.YtedhidchlfhegaaGreatDoor
open Go Go.A2
theorem e7:FnE t7 q0 fuel g7 N7 (fun d:TArch×W .i64×W .u32×W .u32×Unit=>T_trap_Take d.1 d.2.1 d.2.2.1 d.2.2.2.1):=fun d k=>by kernel_rfl
theorem e10:FnE t0 q0 fuel g10 N10 (fun d:W .u32×W .i64×Unit=>T_bits_Aligned d.1 d.2.1):=fun d k=>by kernel_rfl
theorem e15:FnE t15 q0 fuel g15 N15 (fun d:W .i64×W .i64×Unit=>T_bits_mask d.1 d.2.1):=fun d k=>by kernel_rfl
theorem e16:FnE t16 q0 fuel g16 N16 (fun d:W .u32×W .i64×W .i64×Unit=>T_bits_Field d.1 d.2.1 d.2.2.1):=fun d k=>by kernel_rfl
theorem o19_7:Mo t0 q19 g19 7 [(3,.any),(10,.any),(11,.any),(12,.any)] (.trim [(3,.any)] (.loop (.mark 9 [(3,.any),(10,.any),(11,.any),(12,.any)] (mOf g19 9)))):=loop_mark (fnsC_mono _) (m:=K19_7) rfl (by kernel_rfl) (by kernel_rfl) (fun a=>by kernel_rfl) (marksE (by kernel_rfl) marks_nil) (B:=fun a:W .u32×Sl 1 (W .u8)×W .i64×W .i64×Unit=>B_bits_Of_7 a.1 a.2.1 a.2.2.1 a.2.2.2.1) (fun a=>by kernel_rfl) (fun a kn kx=>by kernel_rfl)
theorem h19:MarksE t0 q19 fuel g19.keep g19.body:=(marksE (l:=[(7,[(3,.any),(10,.any),(11,.any),(12,.any)],(.trim [(3,.any)] (.loop (.mark 9 [(3,.any),(10,.any),(11,.any),(12,.any)] (mOf g19 9)))))]) (by kernel_rfl) (marks_cons o19_7 marks_nil))
theorem e19:FnE t0 q19 fuel g19 N19 (fun d:Sl 1 (W .u8)×Unit=>T_bits_Of d.1):=fun d k=>by kernel_rfl
theorem e24:FnE t24 q0 fuel g24 N24 (fun d:Sl 1 (W .u8)×W .u32×W .u32×Unit=>T_walk_Walk d.1 d.2.1 d.2.2.1):=fun d k=>by kernel_rfl
theorem e27:FnE t27 q0 fuel g27 N27 (fun d:TPte×W .u32×Unit=>T_pte_Addr d.1 d.2.1):=fun d k=>by kernel_rfl
theorem e34:FnE t34 q0 fuel g34 N34 (fun d:W .i64×Unit=>T_inst_width d.1):=fun d k=>by kernel_rfl
theorem e37:FnE t0 q0 fuel g37 N37 (fun d:W .i64×W .i64×Unit=>T_inst_within d.1 d.2.1):=fun d k=>by kernel_rfl
theorem e39:FnE t39 q0 fuel g39 N39 (fun d:W .u32×W .i64×W .i64×W .u32×Unit=>T_bits_Put d.1 d.2.1 d.2.2.1 d.2.2.2.1):=fun d k=>by kernel_rfl
theorem e41:FnE t41 q0 fuel g41 N41 (fun d:W .u32×Unit=>T_inst_Dec d.1):=fun d k=>by kernel_rfl
theorem e50:FnE t50 q0 fuel g50 N50 (fun d:W .u32×W .i64×Unit=>T_bits_Rot d.1 d.2.1):=fun d k=>by kernel_rfl
theorem e54:FnE t0 q0 fuel g54 N54 (fun d:TMul×Unit=>T_mul_Step d.1):=fun d k=>by kernel_rfl
theorem e57:FnE t57 q0 fuel g57 N57 (fun d:W .i64×W .u32×W .u32×Unit=>T_mul_Do d.1 d.2.1 d.2.2.1):=fun d k=>by kernel_rfl
theorem e62:FnE t0 q0 fuel g62 N62 (fun d:W .u32×Unit=>T_div_away d.1):=fun d k=>by kernel_rfl
theorem e68:FnE t0 q0 fuel g68 N68 (fun d:TWork×W .i64×W .u32×Unit=>T_step_work_fails d.1 d.2.1 d.2.2.1):=fun d k=>by kernel_rfl
theorem o71_7:Mo t71 q71 g71 7 [(0,.any),(5,.any),(11,.any),(12,.any)] (.trim [(5,.any)] (.loop (.mark 9 [(0,.any),(5,.any),(11,.any),(12,.any)] (mOf g71 9)))):=loop_mark (fnsC_mono _) (m:=K71_7) rfl (by kernel_rfl) (by kernel_rfl) (fun a=>by kernel_rfl) (marksE (by kernel_rfl) marks_nil) (B:=fun a:W .u32×Sl 1 (W .u8)×W .i64×W .i64×Unit=>B_bits_Bytes_7 a.1 a.2.1 a.2.2.1 a.2.2.2.1) (fun a=>by kernel_rfl) (fun a kn kx=>by kernel_rfl)
theorem h71:MarksE t71 q71 fuel g71.keep g71.body:=(marksE (l:=[(7,[(0,.any),(5,.any),(11,.any),(12,.any)],(.trim [(5,.any)] (.loop (.mark 9 [(0,.any),(5,.any),(11,.any),(12,.any)] (mOf g71 9)))))]) (by kernel_rfl) (marks_cons o71_7 marks_nil))
theorem e71:FnE t71 q71 fuel g71 N71 (fun d:W .u32×W .i64×Unit=>T_bits_Bytes d.1 d.2.1):=fun d k=>by kernel_rfl
theorem e73:FnE t73 q0 fuel g73 N73 (fun d:TWork×W .u32×W .i64×W .u32×Unit=>T_step_work_stores d.1 d.2.1 d.2.2.1 d.2.2.2.1):=fun d k=>by kernel_rfl
theorem e75:FnE t0 q0 fuel g75 N75 (fun d:W .i64×W .u32×W .u32×Unit=>T_alu_Taken d.1 d.2.1 d.2.2.1):=fun d k=>by kernel_rfl
theorem e81:FnE t81 q0 fuel g81 N81 (fun d:TArch×W .i64×W .u32×Unit=>T_csr_Write d.1 d.2.1 d.2.2.1):=fun d k=>by kernel_rfl
theorem e91:FnE t0 q0 fuel g91 N91 (fun d:W .i64×Unit=>T_text_Cause d.1):=fun d k=>by kernel_rfl
theorem o96_7:Mo t96 q96 g96 7 [(2,.any),(4,.any),(5,.any),(9,.any),(10,.any),(11,.any)] (.trim [(2,.any),(4,.any)] (.loop (.mark 9 [(2,.any),(4,.any),(5,.any),(9,.any),(10,.any),(11,.any)] (mOf g96 9)))):=loop_mark (fnsC_mono _) (m:=K96_7) rfl (by kernel_rfl) (by kernel_rfl) (fun a=>by kernel_rfl) (marksE (by kernel_rfl) marks_nil) (B:=fun a:TArch×TArch×((Unit)×(Unit×Unit))×Sl 72 (TEvent)×W .i64×W .i64×Unit=>B_run_Replay_7 a.1 a.2.1 a.2.2.2.1 a.2.2.2.2.1 a.2.2.2.2.2.1) (fun a=>by kernel_rfl) (fun a kn kx=>by kernel_rfl)
theorem h96:MarksE t96 q96 fuel g96.keep g96.body:=(marksE (l:=[(7,[(2,.any),(4,.any),(5,.any),(9,.any),(10,.any),(11,.any)],(.trim [(2,.any),(4,.any)] (.loop (.mark 9 [(2,.any),(4,.any),(5,.any),(9,.any),(10,.any),(11,.any)] (mOf g96 9)))))]) (by kernel_rfl) (marks_cons o96_7 marks_nil))
theorem e96:FnE t96 q96 fuel g96 N96 (fun d:TArch×Sl 72 (TEvent)×Unit=>T_run_Replay d.1 d.2.1):=fun d k=>by kernel_rfl
theorem e97:FnE t97 q0 fuel g97 N97 (fun d:Unit=>T_law16_awake):=fun d k=>by kernel_rfl
theorem o100_17:Mo t0 q100 g100 17 [(0,.any),(3,.any),(4,.any)] (.trim [(0,.any),(3,.any)] (.loop (.mark 19 [(0,.any),(3,.any),(4,.any)] (mOf g100 19)))):=loop_mark (fnsC_mono _) (m:=K100_17) rfl (by kernel_rfl) (by kernel_rfl) (fun a=>by kernel_rfl) (marksE (by kernel_rfl) marks_nil) (B:=fun a:W .i64×Str×W .i64×Unit=>B_ref02_Dec_17 a.1 a.2.1 a.2.2.1) (fun a=>by kernel_rfl) (fun a kn kx=>by kernel_rfl)
theorem h100:MarksE t0 q100 fuel g100.keep g100.body:=(marksE (l:=[(17,[(0,.any),(3,.any),(4,.any)],(.trim [(0,.any),(3,.any)] (.loop (.mark 19 [(0,.any),(3,.any),(4,.any)] (mOf g100 19)))))]) (by kernel_rfl) (marks_cons o100_17 marks_nil))
theorem e100:FnE t0 q100 fuel g100 N100 (fun d:W .i64×Unit=>T_ref02_Dec d.1):=fun d k=>by kernel_rfl
theorem e101:FnE t101 q0 fuel g101 N101 (fun d:W .i64×W .u32×Unit=>T_ref16_named d.1 d.2.1):=fun d k=>by kernel_rfl
end Go.Proofs.YtedhidchlfhegaaGreatDoor
