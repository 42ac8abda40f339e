/- YtedhidchlfhegaaGreatDoorEq3: the functions' runs are their trees. No statement of the seat is proved here. -/
import Derived.Test.YtedhidchlfhegaaGreatDoorTabs
set_option linter.unusedSimpArgs false
set_option linter.unusedVariables false
set_option maxRecDepth 100000
namespace Go.Proofs.YtedhidchlfhegaaGreatDoor
open Go Go.A2
theorem e1:FnE t0 q0 fuel g1 N1 (fun d:Sl 1 (W .u8)×Unit=>T_ref10_Right d.1):=fun d k=>by kernel_rfl
theorem o3_11:Mo t3 q3 g3 11 [(1,.any),(3,.any)] (.trim [(2,.any)] (.loop (.mark 13 [(1,.any),(3,.any)] (mOf g3 13)))):=loop_mark (fnsC_mono _) (m:=K3_11) rfl (by kernel_rfl) (by kernel_rfl) (fun a=>by kernel_rfl) (marksE (by kernel_rfl) marks_nil) (B:=fun a:TMach×W .i64×Unit=>B_ref15_Right_11 a.1 a.2.1) (fun a=>by kernel_rfl) (fun a kn kx=>by kernel_rfl)
theorem h3:MarksE t3 q3 fuel g3.keep g3.body:=(marksE (l:=[(11,[(1,.any),(3,.any)],(.trim [(2,.any)] (.loop (.mark 13 [(1,.any),(3,.any)] (mOf g3 13)))))]) (by kernel_rfl) (marks_cons o3_11 marks_nil))
theorem e3:FnE t3 q3 fuel g3 N3 (fun d:TMach×Unit=>T_ref15_Right d.1):=fun d k=>by kernel_rfl
theorem e7:FnE t0 q0 fuel g7 N7 (fun d:Unit=>T_trap_sources):=fun d k=>by kernel_rfl
theorem e14:FnE t0 q0 fuel g14 N14 (fun d:W .u32×W .i64×Unit=>T_bits_Aligned d.1 d.2.1):=fun d k=>by kernel_rfl
theorem e18:FnE t0 q0 fuel g18 N18 (fun d:W .i64×Unit=>T_bits_ones d.1):=fun d k=>by kernel_rfl
theorem e21:FnE t21 q0 fuel g21 N21 (fun d:W .u32×W .i64×Unit=>T_pte_Index d.1 d.2.1):=fun d k=>by kernel_rfl
theorem e22:FnE t0 q0 fuel g22 N22 (fun d:Sl 1 (W .u8)×W .u32×W .i64×Unit=>T_mem_Check d.1 d.2.1 d.2.2.1):=fun d k=>by kernel_rfl
theorem e24:FnE t24 q0 fuel g24 N24 (fun d:Sl 1 (W .u8)×W .u32×W .i64×Unit=>T_mem_Read d.1 d.2.1 d.2.2.1):=fun d k=>by kernel_rfl
theorem e30:FnE t0 q0 fuel g30 N30 (fun d:TPte×Unit=>T_pte_page d.1):=fun d k=>by kernel_rfl
theorem e32:FnE t32 q0 fuel g32 N32 (fun d:TArch×Sl 1 (W .u8)×W .u32×W .i64×Unit=>T_walk_Trans d.1 d.2.1 d.2.2.1 d.2.2.2.1):=fun d k=>by kernel_rfl
theorem e39:FnE t39 q0 fuel g39 N39 (fun d:W .u32×W .i64×Unit=>T_bits_Sext d.1 d.2.1):=fun d k=>by kernel_rfl
theorem e40:FnE t40 q0 fuel g40 N40 (fun d:W .i64×W .u32×Unit=>T_inst_number d.1 d.2.1):=fun d k=>by kernel_rfl
theorem o42_11:Mo t42 q42 g42 11 [(1,.any),(18,.any),(19,.any)] (.trim [(1,.any),(2,.any)] (.loop (.mark 13 [(1,.any),(18,.any),(19,.any)] (mOf g42 13)))):=loop_mark (fnsC_mono _) (m:=K42_11) rfl (by kernel_rfl) (by kernel_rfl) (fun a=>by kernel_rfl) (marksE (by kernel_rfl) marks_nil) (B:=fun a:TInst×Arr 3 (TS141)×W .i64×Unit=>B_inst_Right_11 a.1 a.2.1 a.2.2.1) (fun a=>by kernel_rfl) (fun a kn kx=>by kernel_rfl)
theorem h42:MarksE t42 q42 fuel g42.keep g42.body:=(marksE (l:=[(11,[(1,.any),(18,.any),(19,.any)],(.trim [(1,.any),(2,.any)] (.loop (.mark 13 [(1,.any),(18,.any),(19,.any)] (mOf g42 13)))))]) (by kernel_rfl) (marks_cons o42_11 marks_nil))
theorem e42:FnE t42 q42 fuel g42 N42 (fun d:TInst×Unit=>T_inst_Right d.1):=fun d k=>by kernel_rfl
theorem o49_5:Mo t0 q49 g49 5 [(0,.any),(3,.any)] (.trim [(3,.any)] (.loop (.mark 7 [(0,.any),(3,.any)] (mOf g49 7)))):=loop_mark (fnsC_mono _) (m:=K49_5) rfl (by kernel_rfl) (by kernel_rfl) (fun a=>by kernel_rfl) (marksE (by kernel_rfl) marks_nil) (B:=fun a:W .u32×W .i64×Unit=>B_alu_Pop_5 a.1 a.2.1) (fun a=>by kernel_rfl) (fun a kn kx=>by kernel_rfl)
theorem h49:MarksE t0 q49 fuel g49.keep g49.body:=(marksE (l:=[(5,[(0,.any),(3,.any)],(.trim [(3,.any)] (.loop (.mark 7 [(0,.any),(3,.any)] (mOf g49 7)))))]) (by kernel_rfl) (marks_cons o49_5 marks_nil))
theorem e49:FnE t0 q49 fuel g49 N49 (fun d:W .u32×Unit=>T_alu_Pop d.1):=fun d k=>by kernel_rfl
theorem e51:FnE t51 q0 fuel g51 N51 (fun d:W .i64×W .u32×Unit=>T_alu_single d.1 d.2.1):=fun d k=>by kernel_rfl
theorem e53:FnE t0 q0 fuel g53 N53 (fun d:W .u32×W .i64×Unit=>T_bits_RotateLeft32 d.1 d.2.1):=fun d k=>by kernel_rfl
theorem e55:FnE t55 q0 fuel g55 N55 (fun d:W .i64×W .u32×W .u32×Unit=>T_alu_logic d.1 d.2.1 d.2.2.1):=fun d k=>by kernel_rfl
theorem e56:FnE t56 q0 fuel g56 N56 (fun d:W .i64×W .u32×W .u32×Unit=>T_alu_Do d.1 d.2.1 d.2.2.1):=fun d k=>by kernel_rfl
theorem e63:FnE t0 q0 fuel g63 N63 (fun d:W .i64×Unit=>T_div_left d.1):=fun d k=>by kernel_rfl
theorem o65_5:Mo t65 q65 g65 5 [(1,.any),(6,.any),(7,.any)] (.trim [(1,.any)] (.loop (.mark 7 [(1,.any),(6,.any),(7,.any)] (mOf g65 7)))):=loop_mark (fnsC_mono _) (m:=K65_5) rfl (by kernel_rfl) (by kernel_rfl) (fun a=>by kernel_rfl) (marksE (by kernel_rfl) marks_nil) (B:=fun a:TDiv×W .i64×W .i64×Unit=>B_div_Run_5 a.1 a.2.1 a.2.2.1) (fun a=>by kernel_rfl) (fun a kn kx=>by kernel_rfl)
theorem h65:MarksE t65 q65 fuel g65.keep g65.body:=(marksE (l:=[(5,[(1,.any),(6,.any),(7,.any)],(.trim [(1,.any)] (.loop (.mark 7 [(1,.any),(6,.any),(7,.any)] (mOf g65 7)))))]) (by kernel_rfl) (marks_cons o65_5 marks_nil))
theorem e65:FnE t65 q65 fuel g65 N65 (fun d:TDiv×Unit=>T_div_Run d.1):=fun d k=>by kernel_rfl
theorem e68:FnE t0 q0 fuel g68 N68 (fun d:W .u32×W .u32×W .u32×Unit=>T_alu_Cmov d.1 d.2.1 d.2.2.1):=fun d k=>by kernel_rfl
theorem e78:FnE t78 q0 fuel g78 N78 (fun d:TWork×TInst×W .u32×W .u32×Unit=>T_step_work_keeps d.1 d.2.1 d.2.2.1 d.2.2.2.1):=fun d k=>by kernel_rfl
theorem e89:FnE t89 q0 fuel g89 N89 (fun d:TArch×Unit=>T_trap_Single d.1):=fun d k=>by kernel_rfl
theorem o91_18:Mo t91 q91 g91 18 [(1,.any),(3,.any),(6,.any),(8,.any),(9,.any),(17,.any),(18,.any),(21,.any),(22,.any),(23,.any)] (.trim [(1,.any),(3,.any),(6,.any),(8,.any),(17,.any),(18,.any)] (.loop (.mark 20 [(1,.any),(3,.any),(6,.any),(8,.any),(9,.any),(17,.any),(18,.any),(21,.any),(22,.any),(23,.any)] (mOf g91 20)))):=loop_mark (fnsC_mono _) (m:=K91_18) rfl (by kernel_rfl) (by kernel_rfl) (fun a=>by kernel_rfl) (marksE (by kernel_rfl) marks_nil) (B:=fun a:Sl 16 (TIrq)×TMach×TMach×Sl 72 (TEvent)×W .i64×W .i64×W .i64×Sl 16 (TIrq)×W .i64×W .i64×Unit=>B_run_Run_18 a.1 a.2.1 a.2.2.1 a.2.2.2.1 a.2.2.2.2.1 a.2.2.2.2.2.1 a.2.2.2.2.2.2.1 a.2.2.2.2.2.2.2.1 a.2.2.2.2.2.2.2.2.1 a.2.2.2.2.2.2.2.2.2.1) (fun a=>by kernel_rfl) (fun a kn kx=>by kernel_rfl)
theorem o91_7:Mo t91 q91 g91 7 [(1,.any),(3,.any),(6,.any),(8,.own),(17,.any),(18,.any)] (.trim [(3,.any),(6,.any),(8,.any)] (.loop (.mark 9 [(1,.any),(3,.any),(6,.any),(8,.own),(17,.any),(18,.any)] (mOf g91 9)))):=loop_mark (fnsC_mono _) (m:=K91_7) rfl (by kernel_rfl) (by kernel_rfl) (fun a=>by kernel_rfl) (marksE (l:=[(18,[(1,.any),(3,.any),(6,.any),(8,.any),(9,.any),(17,.any),(18,.any),(21,.any),(22,.any),(23,.any)],(.trim [(1,.any),(3,.any),(6,.any),(8,.any),(17,.any),(18,.any)] (.loop (.mark 20 [(1,.any),(3,.any),(6,.any),(8,.any),(9,.any),(17,.any),(18,.any),(21,.any),(22,.any),(23,.any)] (mOf g91 20)))))]) (by kernel_rfl) (marks_cons o91_18 marks_nil)) (B:=fun a:Sl 16 (TIrq)×TMach×TMach×Sl 72 (TEvent)×W .i64×W .i64×Unit=>B_run_Run_7 a.1 a.2.1 a.2.2.1 a.2.2.2.1 a.2.2.2.2.1 a.2.2.2.2.2.1) (fun a=>by kernel_rfl) (fun a kn kx=>by kernel_rfl)
theorem h91:MarksE t91 q91 fuel g91.keep g91.body:=(marksE (l:=[(7,[(1,.any),(3,.any),(6,.any),(8,.own),(17,.any),(18,.any)],(.trim [(3,.any),(6,.any),(8,.any)] (.loop (.mark 9 [(1,.any),(3,.any),(6,.any),(8,.own),(17,.any),(18,.any)] (mOf g91 9)))))]) (by kernel_rfl) (marks_cons o91_7 marks_nil))
theorem e91:FnE t91 q91 fuel g91 N91 (fun d:TMach×Sl 16 (TIrq)×W .i64×Unit=>T_run_Run d.1 d.2.1 d.2.2.1):=fun d k=>by kernel_rfl
theorem e99:FnE t0 q0 fuel g99 N99 (fun d:W .i64×W .u32×TArch×Unit=>T_run_Replay_1 d.1 d.2.1 d.2.2.1):=fun d k=>by kernel_rfl
theorem o106_11:Mo t0 q106 g106 11 [(0,.any),(1,.any),(5,.any)] (.trim [(4,.any)] (.loop (.mark 13 [(0,.any),(1,.any),(5,.any)] (mOf g106 13)))):=loop_mark (fnsC_mono _) (m:=K106_11) rfl (by kernel_rfl) (by kernel_rfl) (fun a=>by kernel_rfl) (marksE (by kernel_rfl) marks_nil) (B:=fun a:Sl 72 (TEvent)×Sl 72 (TEvent)×W .i64×Unit=>B_same_Events_11 a.1 a.2.1 a.2.2.1) (fun a=>by kernel_rfl) (fun a kn kx=>by kernel_rfl)
theorem h106:MarksE t0 q106 fuel g106.keep g106.body:=(marksE (l:=[(11,[(0,.any),(1,.any),(5,.any)],(.trim [(4,.any)] (.loop (.mark 13 [(0,.any),(1,.any),(5,.any)] (mOf g106 13)))))]) (by kernel_rfl) (marks_cons o106_11 marks_nil))
theorem e106:FnE t0 q106 fuel g106 N106 (fun d:Sl 72 (TEvent)×Sl 72 (TEvent)×Unit=>T_same_Events d.1 d.2.1):=fun d k=>by kernel_rfl
theorem o107_25:Mo t107 q107 g107 25 [(1,.any),(7,.any),(8,.any),(9,.any),(10,.any),(11,.any),(12,.any),(13,.own),(14,.any)] (.trim [(8,.any),(9,.any),(10,.any),(11,.any),(12,.any),(13,.any)] (.loop (.mark 27 [(1,.any),(7,.any),(8,.any),(9,.any),(10,.any),(11,.any),(12,.any),(13,.own),(14,.any)] (mOf g107 27)))):=loop_mark (fnsC_mono _) (m:=K107_25) rfl (by kernel_rfl) (by kernel_rfl) (fun a=>by kernel_rfl) (marksE (by kernel_rfl) marks_nil) (B:=fun a:Sl 16 (TIrq)×W .i64×W .i64×TMach×Sl 72 (TEvent)×TMach×Sl 72 (TEvent)×Sl 16 (TIrq)×W .i64×Unit=>B_law16_RunSplits_25 a.1 a.2.1 a.2.2.1 a.2.2.2.1 a.2.2.2.2.1 a.2.2.2.2.2.1 a.2.2.2.2.2.2.1 a.2.2.2.2.2.2.2.1 a.2.2.2.2.2.2.2.2.1) (fun a=>by kernel_rfl) (fun a kn kx=>by kernel_rfl)
theorem h107:MarksE t107 q107 fuel g107.keep g107.body:=(marksE (l:=[(25,[(1,.any),(7,.any),(8,.any),(9,.any),(10,.any),(11,.any),(12,.any),(13,.own),(14,.any)],(.trim [(8,.any),(9,.any),(10,.any),(11,.any),(12,.any),(13,.any)] (.loop (.mark 27 [(1,.any),(7,.any),(8,.any),(9,.any),(10,.any),(11,.any),(12,.any),(13,.own),(14,.any)] (mOf g107 27)))))]) (by kernel_rfl) (marks_cons o107_25 marks_nil))
theorem e107:FnE t107 q107 fuel g107 N107 (fun d:TMach×Sl 16 (TIrq)×Arr 2 (W .u8)×Unit=>T_law16_RunSplits d.1 d.2.1 d.2.2.1):=fun d k=>by kernel_rfl
end Go.Proofs.YtedhidchlfhegaaGreatDoor
