/- YtedhidchlfhegaaGreatDoorEq0: the functions' runs are their trees. No statement of the seat is proved here. -/
import Derived.Test.YtedhidchlfhegaaGreatDoorTabs
set_option linter.unusedSimpArgs false
set_option linter.unusedVariables false
set_option maxRecDepth 100000
namespace Go.Proofs.YtedhidchlfhegaaGreatDoor
open Go Go.A2
theorem e2:FnE t0 q0 fuel g2 N2 (fun d:W .i64×Unit=>T_ref11_Masked d.1):=fun d k=>by kernel_rfl
theorem e4:FnE t4 q0 fuel g4 N4 (fun d:TMach×Unit=>T_law15_Light d.1):=fun d k=>by kernel_rfl
theorem e11:FnE t11 q0 fuel g11 N11 (fun d:TArch×W .i64×W .u32×W .u32×Unit=>T_trap_Take d.1 d.2.1 d.2.2.1 d.2.2.2.1):=fun d k=>by kernel_rfl
theorem e20:FnE t20 q0 fuel g20 N20 (fun d:W .u32×W .i64×W .i64×Unit=>T_bits_Field d.1 d.2.1 d.2.2.1):=fun d k=>by kernel_rfl
theorem o23_7:Mo t0 q23 g23 7 [(3,.any),(10,.any),(11,.any),(12,.any)] (.trim [(3,.any)] (.loop (.mark 9 [(3,.any),(10,.any),(11,.any),(12,.any)] (mOf g23 9)))):=loop_mark (fnsC_mono _) (m:=K23_7) rfl (by kernel_rfl) (by kernel_rfl) (fun a=>by kernel_rfl) (marksE (by kernel_rfl) marks_nil) (B:=fun a:W .u32×Sl 1 (W .u8)×W .i64×W .i64×Unit=>B_bits_Of_7 a.1 a.2.1 a.2.2.1 a.2.2.2.1) (fun a=>by kernel_rfl) (fun a kn kx=>by kernel_rfl)
theorem h23:MarksE t0 q23 fuel g23.keep g23.body:=(marksE (l:=[(7,[(3,.any),(10,.any),(11,.any),(12,.any)],(.trim [(3,.any)] (.loop (.mark 9 [(3,.any),(10,.any),(11,.any),(12,.any)] (mOf g23 9)))))]) (by kernel_rfl) (marks_cons o23_7 marks_nil))
theorem e23:FnE t0 q23 fuel g23 N23 (fun d:Sl 1 (W .u8)×Unit=>T_bits_Of d.1):=fun d k=>by kernel_rfl
theorem e26:FnE t26 q0 fuel g26 N26 (fun d:TWalker×W .u32×Unit=>T_walk_walker_entry d.1 d.2.1):=fun d k=>by kernel_rfl
theorem e28:FnE t28 q0 fuel g28 N28 (fun d:Sl 1 (W .u8)×W .u32×W .u32×Unit=>T_walk_Walk d.1 d.2.1 d.2.2.1):=fun d k=>by kernel_rfl
theorem e31:FnE t31 q0 fuel g31 N31 (fun d:TPte×W .u32×Unit=>T_pte_Addr d.1 d.2.1):=fun d k=>by kernel_rfl
theorem e43:FnE t43 q0 fuel g43 N43 (fun d:W .u32×W .i64×W .i64×W .u32×Unit=>T_bits_Put d.1 d.2.1 d.2.2.1 d.2.2.2.1):=fun d k=>by kernel_rfl
theorem e45:FnE t45 q0 fuel g45 N45 (fun d:W .u32×Unit=>T_inst_Dec d.1):=fun d k=>by kernel_rfl
theorem e47:FnE t0 q0 fuel g47 N47 (fun d:Bool×Unit=>T_alu_one d.1):=fun d k=>by kernel_rfl
theorem e54:FnE t54 q0 fuel g54 N54 (fun d:W .u32×W .i64×Unit=>T_bits_Rot d.1 d.2.1):=fun d k=>by kernel_rfl
theorem e58:FnE t0 q0 fuel g58 N58 (fun d:TMul×Unit=>T_mul_Step d.1):=fun d k=>by kernel_rfl
theorem e61:FnE t61 q0 fuel g61 N61 (fun d:W .i64×W .u32×W .u32×Unit=>T_mul_Do d.1 d.2.1 d.2.2.1):=fun d k=>by kernel_rfl
theorem e69:FnE t0 q0 fuel g69 N69 (fun d:TWork×W .i64×W .u32×Unit=>T_step_work_put d.1 d.2.1 d.2.2.1):=fun d k=>by kernel_rfl
theorem e72:FnE t0 q0 fuel g72 N72 (fun d:TWork×W .i64×W .u32×Unit=>T_step_work_fails d.1 d.2.1 d.2.2.1):=fun d k=>by kernel_rfl
theorem o75_7:Mo t75 q75 g75 7 [(0,.any),(5,.any),(11,.any),(12,.any)] (.trim [(5,.any)] (.loop (.mark 9 [(0,.any),(5,.any),(11,.any),(12,.any)] (mOf g75 9)))):=loop_mark (fnsC_mono _) (m:=K75_7) rfl (by kernel_rfl) (by kernel_rfl) (fun a=>by kernel_rfl) (marksE (by kernel_rfl) marks_nil) (B:=fun a:W .u32×Sl 1 (W .u8)×W .i64×W .i64×Unit=>B_bits_Bytes_7 a.1 a.2.1 a.2.2.1 a.2.2.2.1) (fun a=>by kernel_rfl) (fun a kn kx=>by kernel_rfl)
theorem h75:MarksE t75 q75 fuel g75.keep g75.body:=(marksE (l:=[(7,[(0,.any),(5,.any),(11,.any),(12,.any)],(.trim [(5,.any)] (.loop (.mark 9 [(0,.any),(5,.any),(11,.any),(12,.any)] (mOf g75 9)))))]) (by kernel_rfl) (marks_cons o75_7 marks_nil))
theorem e75:FnE t75 q75 fuel g75 N75 (fun d:W .u32×W .i64×Unit=>T_bits_Bytes d.1 d.2.1):=fun d k=>by kernel_rfl
theorem e79:FnE t0 q0 fuel g79 N79 (fun d:W .i64×W .u32×W .u32×Unit=>T_alu_Taken d.1 d.2.1 d.2.2.1):=fun d k=>by kernel_rfl
theorem e81:FnE t81 q0 fuel g81 N81 (fun d:TWork×TInst×W .u32×W .u32×Unit=>T_step_work_atOnce d.1 d.2.1 d.2.2.1 d.2.2.2.1):=fun d k=>by kernel_rfl
theorem e82:FnE t82 q0 fuel g82 N82 (fun d:TArch×Unit=>T_trap_Return d.1):=fun d k=>by kernel_rfl
theorem e86:FnE t86 q0 fuel g86 N86 (fun d:TWork×TInst×W .u32×Unit=>T_step_work_system d.1 d.2.1 d.2.2.1):=fun d k=>by kernel_rfl
theorem o93_13:Mo t0 q93 g93 13 [(0,.any),(3,.any),(4,.any),(5,.any)] (.trim [(0,.any),(3,.any),(4,.any),(5,.any)] (.loop (.mark 15 [(0,.any),(3,.any),(4,.any),(5,.any)] (mOf g93 15)))):=loop_mark (fnsC_mono _) (m:=K93_13) rfl (by kernel_rfl) (by kernel_rfl) (fun a=>by kernel_rfl) (marksE (by kernel_rfl) marks_nil) (B:=fun a:W .i64×Arr 20 (W .u8)×W .u64×W .i64×Unit=>B_num_Dec_13 a.1 a.2.1 a.2.2.1 a.2.2.2.1) (fun a=>by kernel_rfl) (fun a kn kx=>by kernel_rfl)
theorem h93:MarksE t0 q93 fuel g93.keep g93.body:=(marksE (l:=[(13,[(0,.any),(3,.any),(4,.any),(5,.any)],(.trim [(0,.any),(3,.any),(4,.any),(5,.any)] (.loop (.mark 15 [(0,.any),(3,.any),(4,.any),(5,.any)] (mOf g93 15)))))]) (by kernel_rfl) (marks_cons o93_13 marks_nil))
theorem e93:FnE t0 q93 fuel g93 N93 (fun d:W .i64×Unit=>T_num_Dec d.1):=fun d k=>by kernel_rfl
theorem e94:FnE t94 q0 fuel g94 N94 (fun d:W .i64×W .u32×Unit=>T_run_register d.1 d.2.1):=fun d k=>by kernel_rfl
theorem o100_7:Mo t100 q100 g100 7 [(2,.any),(4,.any),(5,.any),(9,.any),(10,.any),(11,.any)] (.trim [(2,.any),(4,.any)] (.loop (.mark 9 [(2,.any),(4,.any),(5,.any),(9,.any),(10,.any),(11,.any)] (mOf g100 9)))):=loop_mark (fnsC_mono _) (m:=K100_7) rfl (by kernel_rfl) (by kernel_rfl) (fun a=>by kernel_rfl) (marksE (by kernel_rfl) marks_nil) (B:=fun a:TArch×TArch×((Unit)×(Unit×Unit))×Sl 72 (TEvent)×W .i64×W .i64×Unit=>B_run_Replay_7 a.1 a.2.1 a.2.2.2.1 a.2.2.2.2.1 a.2.2.2.2.2.1) (fun a=>by kernel_rfl) (fun a kn kx=>by kernel_rfl)
theorem h100:MarksE t100 q100 fuel g100.keep g100.body:=(marksE (l:=[(7,[(2,.any),(4,.any),(5,.any),(9,.any),(10,.any),(11,.any)],(.trim [(2,.any),(4,.any)] (.loop (.mark 9 [(2,.any),(4,.any),(5,.any),(9,.any),(10,.any),(11,.any)] (mOf g100 9)))))]) (by kernel_rfl) (marks_cons o100_7 marks_nil))
theorem e100:FnE t100 q100 fuel g100 N100 (fun d:TArch×Sl 72 (TEvent)×Unit=>T_run_Replay d.1 d.2.1):=fun d k=>by kernel_rfl
theorem o103_11:Mo t0 q103 g103 11 [(0,.any),(1,.any),(5,.any)] (.trim [(4,.any)] (.loop (.mark 13 [(0,.any),(1,.any),(5,.any)] (mOf g103 13)))):=loop_mark (fnsC_mono _) (m:=K103_11) rfl (by kernel_rfl) (by kernel_rfl) (fun a=>by kernel_rfl) (marksE (by kernel_rfl) marks_nil) (B:=fun a:Sl 1 (W .u8)×Sl 1 (W .u8)×W .i64×Unit=>B_same_Bytes_11 a.1 a.2.1 a.2.2.1) (fun a=>by kernel_rfl) (fun a kn kx=>by kernel_rfl)
theorem h103:MarksE t0 q103 fuel g103.keep g103.body:=(marksE (l:=[(11,[(0,.any),(1,.any),(5,.any)],(.trim [(4,.any)] (.loop (.mark 13 [(0,.any),(1,.any),(5,.any)] (mOf g103 13)))))]) (by kernel_rfl) (marks_cons o103_11 marks_nil))
theorem e103:FnE t0 q103 fuel g103 N103 (fun d:Sl 1 (W .u8)×Sl 1 (W .u8)×Unit=>T_same_Bytes d.1 d.2.1):=fun d k=>by kernel_rfl
end Go.Proofs.YtedhidchlfhegaaGreatDoor
