/- YtedhidchlfhegaaDoorEq2: the functions' runs are their trees. No statement of the seat is proved here. -/
import Derived.Test.YtedhidchlfhegaaDoorTabs
set_option linter.unusedSimpArgs false
set_option linter.unusedVariables false
set_option maxRecDepth 100000
namespace Go.Proofs.YtedhidchlfhegaaDoor
open Go Go.A2
theorem e7:FnE t7 q0 fuel g7 N7 (fun d:TArch×W .i64×W .u32×W .u32×Unit=>T_trap_Take d.1 d.2.1 d.2.2.1 d.2.2.2.1):=fun d k=>by kernel_rfl
theorem e10:FnE t0 q0 fuel g10 N10 (fun d:W .u32×W .i64×Unit=>T_bits_Aligned d.1 d.2.1):=fun d k=>by kernel_rfl
theorem e16:FnE t16 q0 fuel g16 N16 (fun d:W .u32×W .i64×W .i64×Unit=>T_bits_Field d.1 d.2.1 d.2.2.1):=fun d k=>by kernel_rfl
theorem o19_7:Mo t0 q19 g19 7 [(3,.any),(10,.any),(11,.any),(12,.any)] (.trim [(3,.any)] (.loop (.mark 9 [(3,.any),(10,.any),(11,.any),(12,.any)] (mOf g19 9)))):=loop_mark (fnsC_mono _) (m:=K19_7) rfl (by kernel_rfl) (by kernel_rfl) (fun a=>by kernel_rfl) (marksE (by kernel_rfl) marks_nil) (B:=fun a:W .u32×Sl 1 (W .u8)×W .i64×W .i64×Unit=>B_bits_Of_7 a.1 a.2.1 a.2.2.1 a.2.2.2.1) (fun a=>by kernel_rfl) (fun a kn kx=>by kernel_rfl)
theorem h19:MarksE t0 q19 fuel g19.keep g19.body:=(marksE (l:=[(7,[(3,.any),(10,.any),(11,.any),(12,.any)],(.trim [(3,.any)] (.loop (.mark 9 [(3,.any),(10,.any),(11,.any),(12,.any)] (mOf g19 9)))))]) (by kernel_rfl) (marks_cons o19_7 marks_nil))
theorem e19:FnE t0 q19 fuel g19 N19 (fun d:Sl 1 (W .u8)×Unit=>T_bits_Of d.1):=fun d k=>by kernel_rfl
theorem e20:FnE t20 q0 fuel g20 N20 (fun d:Sl 1 (W .u8)×W .u32×W .i64×Unit=>T_mem_Read d.1 d.2.1 d.2.2.1):=fun d k=>by kernel_rfl
theorem e24:FnE t24 q0 fuel g24 N24 (fun d:Sl 1 (W .u8)×W .u32×W .u32×Unit=>T_walk_Walk d.1 d.2.1 d.2.2.1):=fun d k=>by kernel_rfl
theorem e27:FnE t27 q0 fuel g27 N27 (fun d:TPte×W .u32×Unit=>T_pte_Addr d.1 d.2.1):=fun d k=>by kernel_rfl
theorem e29:FnE t29 q0 fuel g29 N29 (fun d:TMach×Sl 1 (W .u8)×W .u32×W .i64×W .i64×Unit=>T_step_reach d.1 d.2.1 d.2.2.1 d.2.2.2.1 d.2.2.2.2.1):=fun d k=>by kernel_rfl
theorem e36:FnE t36 q0 fuel g36 N36 (fun d:W .i64×W .u32×Unit=>T_inst_number d.1 d.2.1):=fun d k=>by kernel_rfl
theorem e39:FnE t39 q0 fuel g39 N39 (fun d:W .u32×W .i64×W .i64×W .u32×Unit=>T_bits_Put d.1 d.2.1 d.2.2.1 d.2.2.2.1):=fun d k=>by kernel_rfl
theorem e50:FnE t50 q0 fuel g50 N50 (fun d:W .u32×W .i64×Unit=>T_bits_Rot d.1 d.2.1):=fun d k=>by kernel_rfl
theorem e54:FnE t0 q0 fuel g54 N54 (fun d:TMul×Unit=>T_mul_Step d.1):=fun d k=>by kernel_rfl
theorem e57:FnE t57 q0 fuel g57 N57 (fun d:W .i64×W .u32×W .u32×Unit=>T_mul_Do d.1 d.2.1 d.2.2.1):=fun d k=>by kernel_rfl
theorem e63:FnE t63 q0 fuel g63 N63 (fun d:W .i64×W .u32×W .u32×Unit=>T_div_Do d.1 d.2.1 d.2.2.1):=fun d k=>by kernel_rfl
theorem e64:FnE t0 q0 fuel g64 N64 (fun d:W .u32×W .u32×W .u32×Unit=>T_alu_Cmov d.1 d.2.1 d.2.2.1):=fun d k=>by kernel_rfl
theorem o66_3:Mo t66 q66 g66 3 [(0,.any),(2,.any),(3,.any),(5,.any),(17,.any)] (mOf g66 3):=join_mark (fnsC_mono _) (m:=K66_3) rfl (by kernel_rfl) (by kernel_rfl) (marksE (by kernel_rfl) marks_nil) (B:=fun a:TWork×W .u32×W .u32×TInst×Bool×Unit=>B_step_work_reckon_3 a.1 a.2.1 a.2.2.1 a.2.2.2.1 a.2.2.2.2.1) (fun a=>by kernel_rfl) (fun a kx=>by kernel_rfl)
theorem o66_17:Mo t66 q66 g66 17 [(0,.any),(2,.any),(3,.any),(5,.any),(8,.any),(55,.any)] (mOf g66 17):=join_mark (fnsC_mono _) (m:=K66_17) rfl (by kernel_rfl) (by kernel_rfl) (marksE (by kernel_rfl) marks_nil) (B:=fun a:TWork×W .u32×W .u32×TInst×W .u32×Bool×Unit=>B_step_work_reckon_17 a.1 a.2.1 a.2.2.1 a.2.2.2.1 a.2.2.2.2.1 a.2.2.2.2.2.1) (fun a=>by kernel_rfl) (fun a kx=>by kernel_rfl)
theorem o66_19:Mo t66 q66 g66 19 [(0,.any),(5,.any),(8,.any)] (mOf g66 19):=join_mark (fnsC_mono _) (m:=K66_19) rfl (by kernel_rfl) (by kernel_rfl) (marksE (by kernel_rfl) marks_nil) (B:=fun a:TWork×TInst×W .u32×Unit=>B_step_work_reckon_19 a.1 a.2.1 a.2.2.1) (fun a=>by kernel_rfl) (fun a kx=>by kernel_rfl)
theorem o66_15:Mo t66 q66 g66 15 [(0,.any),(2,.any),(3,.any),(5,.any),(8,.any),(9,.any)] (mOf g66 15):=join_mark (fnsC_mono _) (m:=K66_15) rfl (by kernel_rfl) (by kernel_rfl) (marksE (l:=[(17,[(0,.any),(2,.any),(3,.any),(5,.any),(8,.any),(55,.any)],(mOf g66 17)),(19,[(0,.any),(5,.any),(8,.any)],(mOf g66 19))]) (by kernel_rfl) (marks_cons o66_17 (marks_cons o66_19 marks_nil))) (B:=fun a:TWork×W .u32×W .u32×TInst×W .u32×Bool×Unit=>B_step_work_reckon_15 a.1 a.2.1 a.2.2.1 a.2.2.2.1 a.2.2.2.2.1 a.2.2.2.2.2.1) (fun a=>by kernel_rfl) (fun a kx=>by kernel_rfl)
theorem o66_11:Mo t66 q66 g66 11 [(0,.any),(2,.any),(3,.any),(5,.any),(8,.any),(9,.any)] (mOf g66 11):=join_mark (fnsC_mono _) (m:=K66_11) rfl (by kernel_rfl) (by kernel_rfl) (marksE (l:=[(15,[(0,.any),(2,.any),(3,.any),(5,.any),(8,.any),(9,.any)],(mOf g66 15))]) (by kernel_rfl) (marks_cons o66_15 marks_nil)) (B:=fun a:TWork×W .u32×W .u32×TInst×W .u32×Bool×Unit=>B_step_work_reckon_11 a.1 a.2.1 a.2.2.1 a.2.2.2.1 a.2.2.2.2.1 a.2.2.2.2.2.1) (fun a=>by kernel_rfl) (fun a kx=>by kernel_rfl)
theorem o66_5:Mo t66 q66 g66 5 [(0,.any),(2,.any),(3,.any),(5,.any)] (mOf g66 5):=join_mark (fnsC_mono _) (m:=K66_5) rfl (by kernel_rfl) (by kernel_rfl) (marksE (l:=[(11,[(0,.any),(2,.any),(3,.any),(5,.any),(8,.any),(9,.any)],(mOf g66 11))]) (by kernel_rfl) (marks_cons o66_11 marks_nil)) (B:=fun a:TWork×W .u32×W .u32×TInst×Unit=>B_step_work_reckon_5 a.1 a.2.1 a.2.2.1 a.2.2.2.1) (fun a=>by kernel_rfl) (fun a kx=>by kernel_rfl)
theorem h66:MarksE t66 q66 fuel g66.keep g66.body:=(marksE (l:=[(3,[(0,.any),(2,.any),(3,.any),(5,.any),(17,.any)],(mOf g66 3)),(5,[(0,.any),(2,.any),(3,.any),(5,.any)],(mOf g66 5))]) (by kernel_rfl) (marks_cons o66_3 (marks_cons o66_5 marks_nil)))
theorem e66:FnE t66 q66 fuel g66 N66 (fun d:TWork×TInst×W .u32×W .u32×Unit=>T_step_work_reckon d.1 d.2.1 d.2.2.1 d.2.2.2.1):=fun d k=>by kernel_rfl
theorem e68:FnE t0 q0 fuel g68 N68 (fun d:TWork×W .i64×W .u32×Unit=>T_step_work_fails d.1 d.2.1 d.2.2.1):=fun d k=>by kernel_rfl
theorem e69:FnE t69 q0 fuel g69 N69 (fun d:TWork×TInst×W .u32×Unit=>T_step_work_loads d.1 d.2.1 d.2.2.1):=fun d k=>by kernel_rfl
theorem o71_7:Mo t71 q71 g71 7 [(0,.any),(5,.any),(11,.any),(12,.any)] (.trim [(5,.any)] (.loop (.mark 9 [(0,.any),(5,.any),(11,.any),(12,.any)] (mOf g71 9)))):=loop_mark (fnsC_mono _) (m:=K71_7) rfl (by kernel_rfl) (by kernel_rfl) (fun a=>by kernel_rfl) (marksE (by kernel_rfl) marks_nil) (B:=fun a:W .u32×Sl 1 (W .u8)×W .i64×W .i64×Unit=>B_bits_Bytes_7 a.1 a.2.1 a.2.2.1 a.2.2.2.1) (fun a=>by kernel_rfl) (fun a kn kx=>by kernel_rfl)
theorem h71:MarksE t71 q71 fuel g71.keep g71.body:=(marksE (l:=[(7,[(0,.any),(5,.any),(11,.any),(12,.any)],(.trim [(5,.any)] (.loop (.mark 9 [(0,.any),(5,.any),(11,.any),(12,.any)] (mOf g71 9)))))]) (by kernel_rfl) (marks_cons o71_7 marks_nil))
theorem e71:FnE t71 q71 fuel g71 N71 (fun d:W .u32×W .i64×Unit=>T_bits_Bytes d.1 d.2.1):=fun d k=>by kernel_rfl
theorem e74:FnE t74 q0 fuel g74 N74 (fun d:TWork×TInst×W .u32×W .u32×Unit=>T_step_work_keeps d.1 d.2.1 d.2.2.1 d.2.2.2.1):=fun d k=>by kernel_rfl
theorem e75:FnE t0 q0 fuel g75 N75 (fun d:W .i64×W .u32×W .u32×Unit=>T_alu_Taken d.1 d.2.1 d.2.2.1):=fun d k=>by kernel_rfl
theorem e83:FnE t83 q0 fuel g83 N83 (fun d:TMach×W .u32×TInst×Unit=>T_step_does d.1 d.2.1 d.2.2.1):=fun d k=>by kernel_rfl
theorem e85:FnE t85 q0 fuel g85 N85 (fun d:TArch×Unit=>T_trap_Single d.1):=fun d k=>by kernel_rfl
theorem o96_7:Mo t96 q96 g96 7 [(2,.any),(4,.any),(5,.any),(9,.any),(10,.any),(11,.any)] (.trim [(2,.any),(4,.any)] (.loop (.mark 9 [(2,.any),(4,.any),(5,.any),(9,.any),(10,.any),(11,.any)] (mOf g96 9)))):=loop_mark (fnsC_mono _) (m:=K96_7) rfl (by kernel_rfl) (by kernel_rfl) (fun a=>by kernel_rfl) (marksE (by kernel_rfl) marks_nil) (B:=fun a:TArch×TArch×((Unit)×(Unit×Unit))×Sl 72 (TEvent)×W .i64×W .i64×Unit=>B_run_Replay_7 a.1 a.2.1 a.2.2.2.1 a.2.2.2.2.1 a.2.2.2.2.2.1) (fun a=>by kernel_rfl) (fun a kn kx=>by kernel_rfl)
theorem h96:MarksE t96 q96 fuel g96.keep g96.body:=(marksE (l:=[(7,[(2,.any),(4,.any),(5,.any),(9,.any),(10,.any),(11,.any)],(.trim [(2,.any),(4,.any)] (.loop (.mark 9 [(2,.any),(4,.any),(5,.any),(9,.any),(10,.any),(11,.any)] (mOf g96 9)))))]) (by kernel_rfl) (marks_cons o96_7 marks_nil))
theorem e96:FnE t96 q96 fuel g96 N96 (fun d:TArch×Sl 72 (TEvent)×Unit=>T_run_Replay d.1 d.2.1):=fun d k=>by kernel_rfl
theorem o99_5:Mo t0 q99 g99 5 [(1,.any),(2,.any),(4,.any),(5,.any)] (.trim [(2,.any),(4,.any)] (.loop (.mark 7 [(1,.any),(2,.any),(4,.any),(5,.any)] (mOf g99 7)))):=loop_mark (fnsC_mono _) (m:=K99_5) rfl (by kernel_rfl) (by kernel_rfl) (fun a=>by kernel_rfl) (marksE (by kernel_rfl) marks_nil) (B:=fun a:Sl 72 (TEvent)×TArch×TArch×W .i64×Unit=>B_ref16_Replay_5 a.1 a.2.1 a.2.2.1 a.2.2.2.1) (fun a=>by kernel_rfl) (fun a kn kx=>by kernel_rfl)
theorem h99:MarksE t0 q99 fuel g99.keep g99.body:=(marksE (l:=[(5,[(1,.any),(2,.any),(4,.any),(5,.any)],(.trim [(2,.any),(4,.any)] (.loop (.mark 7 [(1,.any),(2,.any),(4,.any),(5,.any)] (mOf g99 7)))))]) (by kernel_rfl) (marks_cons o99_5 marks_nil))
theorem e99:FnE t0 q99 fuel g99 N99 (fun d:TArch×Sl 72 (TEvent)×Unit=>T_ref16_Replay d.1 d.2.1):=fun d k=>by kernel_rfl
end Go.Proofs.YtedhidchlfhegaaDoor
