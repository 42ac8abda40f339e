/- YtpofngmiepljeaaDoorEq1: the functions' runs are their trees. No statement of the seat is proved here. -/
import Derived.Test.YtpofngmiepljeaaDoorTabs
set_option linter.unusedSimpArgs false
set_option linter.unusedVariables false
set_option maxRecDepth 100000
namespace Go.Proofs.YtpofngmiepljeaaDoor
open Go Go.A2
theorem o3_11:Mo t3 q3 g3 11 [(1,.any),(3,.any)] (.trim [(2,.any)] (.loop (.mark 13 [(1,.any),(3,.any)] (mOf g3 13)))):=loop_mark (fnsC_mono _) (m:=K3_11) rfl (by kernel_rfl) (by kernel_rfl) (fun a=>by kernel_rfl) (marksE (by kernel_rfl) marks_nil) (B:=fun a:TMach×W .i64×Unit=>B_ref15_Right_11 a.1 a.2.1) (fun a=>by kernel_rfl) (fun a kn kx=>by kernel_rfl)
theorem h3:MarksE t3 q3 fuel g3.keep g3.body:=(marksE (l:=[(11,[(1,.any),(3,.any)],(.trim [(2,.any)] (.loop (.mark 13 [(1,.any),(3,.any)] (mOf g3 13)))))]) (by kernel_rfl) (marks_cons o3_11 marks_nil))
theorem e3:FnE t3 q3 fuel g3 N3 (fun d:TMach×Unit=>T_ref15_Right d.1):=fun d k=>by kernel_rfl
theorem e5:FnE t0 q0 fuel g5 N5 (fun d:Unit=>T_law15_word):=fun d k=>by kernel_rfl
theorem e9:FnE t9 q0 fuel g9 N9 (fun d:TImage×W .i64×Unit=>T_step_New d.1 d.2.1):=fun d k=>by kernel_rfl
theorem e14:FnE t0 q0 fuel g14 N14 (fun d:W .u32×W .u32×W .u32×Unit=>T_trap_moved d.1 d.2.1 d.2.2.1):=fun d k=>by kernel_rfl
theorem e15:FnE t15 q0 fuel g15 N15 (fun d:TArch×W .i64×W .u32×W .u32×Unit=>T_trap_Take d.1 d.2.1 d.2.2.1 d.2.2.2.1):=fun d k=>by kernel_rfl
theorem e17:FnE t17 q0 fuel g17 N17 (fun d:TArch×W .u32×Unit=>T_trap_Stops d.1 d.2.1):=fun d k=>by kernel_rfl
theorem e24:FnE t24 q0 fuel g24 N24 (fun d:W .u32×W .i64×W .i64×Unit=>T_bits_Field d.1 d.2.1 d.2.2.1):=fun d k=>by kernel_rfl
theorem e30:FnE t30 q0 fuel g30 N30 (fun d:TWalker×W .u32×Unit=>T_walk_walker_entry d.1 d.2.1):=fun d k=>by kernel_rfl
theorem e33:FnE t0 q0 fuel g33 N33 (fun d:TPte×W .i64×Bool×Unit=>T_pte_Allows d.1 d.2.1 d.2.2.1):=fun d k=>by kernel_rfl
theorem e35:FnE t35 q0 fuel g35 N35 (fun d:TPte×W .u32×Unit=>T_pte_Addr d.1 d.2.1):=fun d k=>by kernel_rfl
theorem e37:FnE t37 q0 fuel g37 N37 (fun d:TMach×Sl 1 (W .u8)×W .u32×W .i64×W .i64×Unit=>T_step_reach d.1 d.2.1 d.2.2.1 d.2.2.2.1 d.2.2.2.2.1):=fun d k=>by kernel_rfl
theorem e47:FnE t47 q0 fuel g47 N47 (fun d:W .u32×W .i64×W .i64×W .u32×Unit=>T_bits_Put d.1 d.2.1 d.2.2.1 d.2.2.2.1):=fun d k=>by kernel_rfl
theorem e50:FnE t0 q0 fuel g50 N50 (fun d:W .i64×Unit=>T_inst_Priv d.1):=fun d k=>by kernel_rfl
theorem e51:FnE t0 q0 fuel g51 N51 (fun d:Bool×Unit=>T_alu_one d.1):=fun d k=>by kernel_rfl
theorem o52_5:Mo t0 q52 g52 5 [(0,.any),(3,.any)] (.trim [(3,.any)] (.loop (.mark 7 [(0,.any),(3,.any)] (mOf g52 7)))):=loop_mark (fnsC_mono _) (m:=K52_5) rfl (by kernel_rfl) (by kernel_rfl) (fun a=>by kernel_rfl) (marksE (by kernel_rfl) marks_nil) (B:=fun a:W .u32×W .i64×Unit=>B_alu_Clz_5 a.1 a.2.1) (fun a=>by kernel_rfl) (fun a kn kx=>by kernel_rfl)
theorem h52:MarksE t0 q52 fuel g52.keep g52.body:=(marksE (l:=[(5,[(0,.any),(3,.any)],(.trim [(3,.any)] (.loop (.mark 7 [(0,.any),(3,.any)] (mOf g52 7)))))]) (by kernel_rfl) (marks_cons o52_5 marks_nil))
theorem e52:FnE t0 q52 fuel g52 N52 (fun d:W .u32×Unit=>T_alu_Clz d.1):=fun d k=>by kernel_rfl
theorem e58:FnE t58 q0 fuel g58 N58 (fun d:W .u32×W .i64×Unit=>T_bits_Rot d.1 d.2.1):=fun d k=>by kernel_rfl
theorem e68:FnE t68 q0 fuel g68 N68 (fun d:TDiv×Unit=>T_div_Step d.1):=fun d k=>by kernel_rfl
theorem e73:FnE t0 q0 fuel g73 N73 (fun d:TWork×W .i64×W .u32×Unit=>T_step_work_put d.1 d.2.1 d.2.2.1):=fun d k=>by kernel_rfl
theorem e76:FnE t0 q0 fuel g76 N76 (fun d:TWork×W .i64×W .u32×Unit=>T_step_work_fails d.1 d.2.1 d.2.2.1):=fun d k=>by kernel_rfl
theorem e86:FnE t86 q0 fuel g86 N86 (fun d:TArch×Unit=>T_trap_Return d.1):=fun d k=>by kernel_rfl
theorem e90:FnE t90 q0 fuel g90 N90 (fun d:TWork×TInst×W .u32×Unit=>T_step_work_system d.1 d.2.1 d.2.2.1):=fun d k=>by kernel_rfl
theorem e94:FnE t94 q0 fuel g94 N94 (fun d:TMach×Unit=>T_step_Step d.1):=fun d k=>by kernel_rfl
theorem e97:FnE t97 q0 fuel g97 N97 (fun d:TMach×TMach×Unit=>T_step_Same d.1 d.2.1):=fun d k=>by kernel_rfl
theorem o100_13:Mo t100 q100 g100 13 [(1,.any),(3,.any),(4,.any),(6,.any)] (.trim [(1,.any),(2,.any),(3,.any),(4,.any)] (.loop (.mark 15 [(1,.any),(3,.any),(4,.any),(6,.any)] (mOf g100 15)))):=loop_mark (fnsC_mono _) (m:=K100_13) rfl (by kernel_rfl) (by kernel_rfl) (fun a=>by kernel_rfl) (marksE (by kernel_rfl) marks_nil) (B:=fun a:TMach×TMach×TEvent×W .i64×Unit=>B_law15_StepChanges_13 a.1 a.2.1 a.2.2.1 a.2.2.2.1) (fun a=>by kernel_rfl) (fun a kn kx=>by kernel_rfl)
theorem o100_46:Mo t100 q100 g100 46 [(1,.any),(3,.any),(4,.any),(8,.any)] (.trim [(2,.any)] (.loop (.mark 48 [(1,.any),(3,.any),(4,.any),(8,.any)] (mOf g100 48)))):=loop_mark (fnsC_mono _) (m:=K100_46) rfl (by kernel_rfl) (by kernel_rfl) (fun a=>by kernel_rfl) (marksE (by kernel_rfl) marks_nil) (B:=fun a:TMach×TMach×TEvent×W .i64×Unit=>B_law15_StepChanges_46 a.1 a.2.1 a.2.2.1 a.2.2.2.1) (fun a=>by kernel_rfl) (fun a kn kx=>by kernel_rfl)
theorem h100:MarksE t100 q100 fuel g100.keep g100.body:=(marksE (l:=[(13,[(1,.any),(3,.any),(4,.any),(6,.any)],(.trim [(1,.any),(2,.any),(3,.any),(4,.any)] (.loop (.mark 15 [(1,.any),(3,.any),(4,.any),(6,.any)] (mOf g100 15))))),(46,[(1,.any),(3,.any),(4,.any),(8,.any)],(.trim [(2,.any)] (.loop (.mark 48 [(1,.any),(3,.any),(4,.any),(8,.any)] (mOf g100 48)))))]) (by kernel_rfl) (marks_cons o100_13 (marks_cons o100_46 marks_nil)))
theorem e100:FnE t100 q100 fuel g100 N100 (fun d:TMach×Unit=>T_law15_StepChanges d.1):=fun d k=>by kernel_rfl
theorem e101:FnE t101 q0 fuel g101 N101 (fun d:TMach×Sl 1 (W .u8)×Unit=>T_law15_StepShadow d.1 d.2.1):=fun d k=>by kernel_rfl
end Go.Proofs.YtpofngmiepljeaaDoor
