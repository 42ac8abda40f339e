/- YtedhidchlfhegaaGreatDoorEq1: the functions' runs are their trees. No statement of the seat is proved here. -/
import Derived.Test.YtedhidchlfhegaaGreatDoorTabs
set_option linter.unusedSimpArgs false
set_option linter.unusedVariables false
set_option maxRecDepth 100000
namespace Go.Proofs.YtedhidchlfhegaaGreatDoor
open Go Go.A2
theorem e4:FnE t4 q0 fuel g4 N4 (fun d:TMach×Unit=>T_law15_Light d.1):=fun d k=>by kernel_rfl
theorem o8_13:Mo t8 q8 g8 13 [(3,.any),(22,.any),(23,.any)] (.trim [(2,.any)] (.loop (.mark 15 [(3,.any),(22,.any),(23,.any)] (mOf g8 15)))):=loop_mark (fnsC_mono _) (m:=K8_13) rfl (by kernel_rfl) (by kernel_rfl) (fun a=>by kernel_rfl) (marksE (by kernel_rfl) marks_nil) (B:=fun a:W .u32×Arr 3 (TSource)×W .i64×Unit=>B_trap_Pending_13 a.1 a.2.1 a.2.2.1) (fun a=>by kernel_rfl) (fun a kn kx=>by kernel_rfl)
theorem h8:MarksE t8 q8 fuel g8.keep g8.body:=(marksE (l:=[(13,[(3,.any),(22,.any),(23,.any)],(.trim [(2,.any)] (.loop (.mark 15 [(3,.any),(22,.any),(23,.any)] (mOf g8 15)))))]) (by kernel_rfl) (marks_cons o8_13 marks_nil))
theorem e8:FnE t8 q8 fuel g8 N8 (fun d:TArch×Unit=>T_trap_Pending d.1):=fun d k=>by kernel_rfl
theorem e11:FnE t11 q0 fuel g11 N11 (fun d:TArch×W .i64×W .u32×W .u32×Unit=>T_trap_Take d.1 d.2.1 d.2.2.1 d.2.2.2.1):=fun d k=>by kernel_rfl
theorem e16:FnE t0 q0 fuel g16 N16 (fun d:W .i64×Unit=>T_walk_Fault d.1):=fun d k=>by kernel_rfl
theorem e20:FnE t20 q0 fuel g20 N20 (fun d:W .u32×W .i64×W .i64×Unit=>T_bits_Field d.1 d.2.1 d.2.2.1):=fun d k=>by kernel_rfl
theorem e22:FnE t0 q0 fuel g22 N22 (fun d:Sl 1 (W .u8)×W .u32×W .i64×Unit=>T_mem_Check d.1 d.2.1 d.2.2.1):=fun d k=>by kernel_rfl
theorem e24:FnE t24 q0 fuel g24 N24 (fun d:Sl 1 (W .u8)×W .u32×W .i64×Unit=>T_mem_Read d.1 d.2.1 d.2.2.1):=fun d k=>by kernel_rfl
theorem e31:FnE t31 q0 fuel g31 N31 (fun d:TPte×W .u32×Unit=>T_pte_Addr d.1 d.2.1):=fun d k=>by kernel_rfl
theorem e32:FnE t32 q0 fuel g32 N32 (fun d:TArch×Sl 1 (W .u8)×W .u32×W .i64×Unit=>T_walk_Trans d.1 d.2.1 d.2.2.1 d.2.2.2.1):=fun d k=>by kernel_rfl
theorem e40:FnE t40 q0 fuel g40 N40 (fun d:W .i64×W .u32×Unit=>T_inst_number d.1 d.2.1):=fun d k=>by kernel_rfl
theorem e43:FnE t43 q0 fuel g43 N43 (fun d:W .u32×W .i64×W .i64×W .u32×Unit=>T_bits_Put d.1 d.2.1 d.2.2.1 d.2.2.2.1):=fun d k=>by kernel_rfl
theorem e44:FnE t44 q0 fuel g44 N44 (fun d:TInst×Unit=>T_inst_Enc d.1):=fun d k=>by kernel_rfl
theorem e45:FnE t45 q0 fuel g45 N45 (fun d:W .u32×Unit=>T_inst_Dec d.1):=fun d k=>by kernel_rfl
theorem e54:FnE t54 q0 fuel g54 N54 (fun d:W .u32×W .i64×Unit=>T_bits_Rot d.1 d.2.1):=fun d k=>by kernel_rfl
theorem o59_7:Mo t59 q59 g59 7 [(1,.any),(10,.any),(11,.any)] (.trim [(1,.any)] (.loop (.mark 9 [(1,.any),(10,.any),(11,.any)] (mOf g59 9)))):=loop_mark (fnsC_mono _) (m:=K59_7) rfl (by kernel_rfl) (by kernel_rfl) (fun a=>by kernel_rfl) (marksE (by kernel_rfl) marks_nil) (B:=fun a:TMul×W .i64×W .i64×Unit=>B_mul_Run_7 a.1 a.2.1 a.2.2.1) (fun a=>by kernel_rfl) (fun a kn kx=>by kernel_rfl)
theorem h59:MarksE t59 q59 fuel g59.keep g59.body:=(marksE (l:=[(7,[(1,.any),(10,.any),(11,.any)],(.trim [(1,.any)] (.loop (.mark 9 [(1,.any),(10,.any),(11,.any)] (mOf g59 9)))))]) (by kernel_rfl) (marks_cons o59_7 marks_nil))
theorem e59:FnE t59 q59 fuel g59 N59 (fun d:TMul×Unit=>T_mul_Run d.1):=fun d k=>by kernel_rfl
theorem e68:FnE t0 q0 fuel g68 N68 (fun d:W .u32×W .u32×W .u32×Unit=>T_alu_Cmov d.1 d.2.1 d.2.2.1):=fun d k=>by kernel_rfl
theorem o70_3:Mo t70 q70 g70 3 [(0,.any),(2,.any),(3,.any),(5,.any),(17,.any)] (mOf g70 3):=join_mark (fnsC_mono _) (m:=K70_3) rfl (by kernel_rfl) (by kernel_rfl) (marksE (by kernel_rfl) marks_nil) (B:=fun a:TWork×W .u32×W .u32×TInst×Bool×Unit=>B_step_work_reckon_3 a.1 a.2.1 a.2.2.1 a.2.2.2.1 a.2.2.2.2.1) (fun a=>by kernel_rfl) (fun a kx=>by kernel_rfl)
theorem o70_17:Mo t70 q70 g70 17 [(0,.any),(2,.any),(3,.any),(5,.any),(8,.any),(55,.any)] (mOf g70 17):=join_mark (fnsC_mono _) (m:=K70_17) rfl (by kernel_rfl) (by kernel_rfl) (marksE (by kernel_rfl) marks_nil) (B:=fun a:TWork×W .u32×W .u32×TInst×W .u32×Bool×Unit=>B_step_work_reckon_17 a.1 a.2.1 a.2.2.1 a.2.2.2.1 a.2.2.2.2.1 a.2.2.2.2.2.1) (fun a=>by kernel_rfl) (fun a kx=>by kernel_rfl)
theorem o70_19:Mo t70 q70 g70 19 [(0,.any),(5,.any),(8,.any)] (mOf g70 19):=join_mark (fnsC_mono _) (m:=K70_19) rfl (by kernel_rfl) (by kernel_rfl) (marksE (by kernel_rfl) marks_nil) (B:=fun a:TWork×TInst×W .u32×Unit=>B_step_work_reckon_19 a.1 a.2.1 a.2.2.1) (fun a=>by kernel_rfl) (fun a kx=>by kernel_rfl)
theorem o70_15:Mo t70 q70 g70 15 [(0,.any),(2,.any),(3,.any),(5,.any),(8,.any),(9,.any)] (mOf g70 15):=join_mark (fnsC_mono _) (m:=K70_15) rfl (by kernel_rfl) (by kernel_rfl) (marksE (l:=[(17,[(0,.any),(2,.any),(3,.any),(5,.any),(8,.any),(55,.any)],(mOf g70 17)),(19,[(0,.any),(5,.any),(8,.any)],(mOf g70 19))]) (by kernel_rfl) (marks_cons o70_17 (marks_cons o70_19 marks_nil))) (B:=fun a:TWork×W .u32×W .u32×TInst×W .u32×Bool×Unit=>B_step_work_reckon_15 a.1 a.2.1 a.2.2.1 a.2.2.2.1 a.2.2.2.2.1 a.2.2.2.2.2.1) (fun a=>by kernel_rfl) (fun a kx=>by kernel_rfl)
theorem o70_11:Mo t70 q70 g70 11 [(0,.any),(2,.any),(3,.any),(5,.any),(8,.any),(9,.any)] (mOf g70 11):=join_mark (fnsC_mono _) (m:=K70_11) rfl (by kernel_rfl) (by kernel_rfl) (marksE (l:=[(15,[(0,.any),(2,.any),(3,.any),(5,.any),(8,.any),(9,.any)],(mOf g70 15))]) (by kernel_rfl) (marks_cons o70_15 marks_nil)) (B:=fun a:TWork×W .u32×W .u32×TInst×W .u32×Bool×Unit=>B_step_work_reckon_11 a.1 a.2.1 a.2.2.1 a.2.2.2.1 a.2.2.2.2.1 a.2.2.2.2.2.1) (fun a=>by kernel_rfl) (fun a kx=>by kernel_rfl)
theorem o70_5:Mo t70 q70 g70 5 [(0,.any),(2,.any),(3,.any),(5,.any)] (mOf g70 5):=join_mark (fnsC_mono _) (m:=K70_5) rfl (by kernel_rfl) (by kernel_rfl) (marksE (l:=[(11,[(0,.any),(2,.any),(3,.any),(5,.any),(8,.any),(9,.any)],(mOf g70 11))]) (by kernel_rfl) (marks_cons o70_11 marks_nil)) (B:=fun a:TWork×W .u32×W .u32×TInst×Unit=>B_step_work_reckon_5 a.1 a.2.1 a.2.2.1 a.2.2.2.1) (fun a=>by kernel_rfl) (fun a kx=>by kernel_rfl)
theorem h70:MarksE t70 q70 fuel g70.keep g70.body:=(marksE (l:=[(3,[(0,.any),(2,.any),(3,.any),(5,.any),(17,.any)],(mOf g70 3)),(5,[(0,.any),(2,.any),(3,.any),(5,.any)],(mOf g70 5))]) (by kernel_rfl) (marks_cons o70_3 (marks_cons o70_5 marks_nil)))
theorem e70:FnE t70 q70 fuel g70 N70 (fun d:TWork×TInst×W .u32×W .u32×Unit=>T_step_work_reckon d.1 d.2.1 d.2.2.1 d.2.2.2.1):=fun d k=>by kernel_rfl
theorem e72:FnE t0 q0 fuel g72 N72 (fun d:TWork×W .i64×W .u32×Unit=>T_step_work_fails d.1 d.2.1 d.2.2.1):=fun d k=>by kernel_rfl
theorem e78:FnE t78 q0 fuel g78 N78 (fun d:TWork×TInst×W .u32×W .u32×Unit=>T_step_work_keeps d.1 d.2.1 d.2.2.1 d.2.2.2.1):=fun d k=>by kernel_rfl
theorem e80:FnE t80 q0 fuel g80 N80 (fun d:TWork×TInst×W .u32×W .u32×Unit=>T_step_work_goes d.1 d.2.1 d.2.2.1 d.2.2.2.1):=fun d k=>by kernel_rfl
theorem e88:FnE t0 q0 fuel g88 N88 (fun d:TArch×Unit=>T_csr_Count d.1):=fun d k=>by kernel_rfl
theorem e89:FnE t89 q0 fuel g89 N89 (fun d:TArch×Unit=>T_trap_Single d.1):=fun d k=>by kernel_rfl
theorem e90:FnE t90 q0 fuel g90 N90 (fun d:TMach×Unit=>T_step_Step d.1):=fun d k=>by kernel_rfl
theorem o91_18:Mo t91 q91 g91 18 [(1,.any),(3,.any),(6,.any),(8,.any),(9,.any),(17,.any),(18,.any),(21,.any),(22,.any),(23,.any)] (.trim [(1,.any),(3,.any),(6,.any),(8,.any),(17,.any),(18,.any)] (.loop (.mark 20 [(1,.any),(3,.any),(6,.any),(8,.any),(9,.any),(17,.any),(18,.any),(21,.any),(22,.any),(23,.any)] (mOf g91 20)))):=loop_mark (fnsC_mono _) (m:=K91_18) rfl (by kernel_rfl) (by kernel_rfl) (fun a=>by kernel_rfl) (marksE (by kernel_rfl) marks_nil) (B:=fun a:Sl 16 (TIrq)×TMach×TMach×Sl 72 (TEvent)×W .i64×W .i64×W .i64×Sl 16 (TIrq)×W .i64×W .i64×Unit=>B_run_Run_18 a.1 a.2.1 a.2.2.1 a.2.2.2.1 a.2.2.2.2.1 a.2.2.2.2.2.1 a.2.2.2.2.2.2.1 a.2.2.2.2.2.2.2.1 a.2.2.2.2.2.2.2.2.1 a.2.2.2.2.2.2.2.2.2.1) (fun a=>by kernel_rfl) (fun a kn kx=>by kernel_rfl)
theorem o91_7:Mo t91 q91 g91 7 [(1,.any),(3,.any),(6,.any),(8,.own),(17,.any),(18,.any)] (.trim [(3,.any),(6,.any),(8,.any)] (.loop (.mark 9 [(1,.any),(3,.any),(6,.any),(8,.own),(17,.any),(18,.any)] (mOf g91 9)))):=loop_mark (fnsC_mono _) (m:=K91_7) rfl (by kernel_rfl) (by kernel_rfl) (fun a=>by kernel_rfl) (marksE (l:=[(18,[(1,.any),(3,.any),(6,.any),(8,.any),(9,.any),(17,.any),(18,.any),(21,.any),(22,.any),(23,.any)],(.trim [(1,.any),(3,.any),(6,.any),(8,.any),(17,.any),(18,.any)] (.loop (.mark 20 [(1,.any),(3,.any),(6,.any),(8,.any),(9,.any),(17,.any),(18,.any),(21,.any),(22,.any),(23,.any)] (mOf g91 20)))))]) (by kernel_rfl) (marks_cons o91_18 marks_nil)) (B:=fun a:Sl 16 (TIrq)×TMach×TMach×Sl 72 (TEvent)×W .i64×W .i64×Unit=>B_run_Run_7 a.1 a.2.1 a.2.2.1 a.2.2.2.1 a.2.2.2.2.1 a.2.2.2.2.2.1) (fun a=>by kernel_rfl) (fun a kn kx=>by kernel_rfl)
theorem h91:MarksE t91 q91 fuel g91.keep g91.body:=(marksE (l:=[(7,[(1,.any),(3,.any),(6,.any),(8,.own),(17,.any),(18,.any)],(.trim [(3,.any),(6,.any),(8,.any)] (.loop (.mark 9 [(1,.any),(3,.any),(6,.any),(8,.own),(17,.any),(18,.any)] (mOf g91 9)))))]) (by kernel_rfl) (marks_cons o91_7 marks_nil))
theorem e91:FnE t91 q91 fuel g91 N91 (fun d:TMach×Sl 16 (TIrq)×W .i64×Unit=>T_run_Run d.1 d.2.1 d.2.2.1):=fun d k=>by kernel_rfl
theorem e96:FnE t96 q0 fuel g96 N96 (fun d:TEvent×Unit=>T_run_Line d.1):=fun d k=>by kernel_rfl
theorem e101:FnE t101 q0 fuel g101 N101 (fun d:Unit=>T_law16_awake):=fun d k=>by kernel_rfl
theorem e104:FnE t0 q0 fuel g104 N104 (fun d:TArch×Unit=>T_ref11_Kernel d.1):=fun d k=>by kernel_rfl
theorem e110:FnE t110 q0 fuel g110 N110 (fun d:TArch×W .u32×Unit=>T_ref14_Stops d.1 d.2.1):=fun d k=>by kernel_rfl
theorem e117:FnE t0 q0 fuel g117 N117 (fun d:W .u32×Unit=>T_ref12_Of d.1):=fun d k=>by kernel_rfl
theorem e122:FnE t0 q0 fuel g122 N122 (fun d:W .i64×Unit=>T_ref12_page d.1):=fun d k=>by kernel_rfl
theorem e128:FnE t0 q0 fuel g128 N128 (fun d:W .i64×W .i64×Unit=>T_ref06_Has d.1 d.2.1):=fun d k=>by kernel_rfl
theorem e129:FnE t0 q0 fuel g129 N129 (fun d:Bool×W .i64×Unit=>T_ref06_reg d.1 d.2.1):=fun d k=>by kernel_rfl
theorem e131:FnE t131 q0 fuel g131 N131 (fun d:TInst×Unit=>T_ref06_Right d.1):=fun d k=>by kernel_rfl
theorem e136:FnE t0 q0 fuel g136 N136 (fun d:W .i64×W .i64×W .i64×Unit=>T_ref01_brought d.1 d.2.1 d.2.2.1):=fun d k=>by kernel_rfl
theorem e144:FnE t144 q0 fuel g144 N144 (fun d:TMach×TEvent×TInst×Unit=>T_ref15_atomic d.1 d.2.1 d.2.2.1):=fun d k=>by kernel_rfl
theorem e145:FnE t145 q0 fuel g145 N145 (fun d:TArch×Unit=>T_ref14_Return d.1):=fun d k=>by kernel_rfl
theorem e153:FnE t153 q0 fuel g153 N153 (fun d:W .i64×W .u32×W .u32×Unit=>T_ref04_Do d.1 d.2.1 d.2.2.1):=fun d k=>by kernel_rfl
theorem o156_7:Mo t0 q156 g156 7 [(1,.any),(3,.any),(4,.any)] (.trim [(3,.any)] (.loop (.mark 9 [(1,.any),(3,.any),(4,.any)] (mOf g156 9)))):=loop_mark (fnsC_mono _) (m:=K156_7) rfl (by kernel_rfl) (by kernel_rfl) (fun a=>by kernel_rfl) (marksE (by kernel_rfl) marks_nil) (B:=fun a:Arr 32 (W .u32)×W .u32×W .i64×Unit=>B_ref03_word_7 a.1 a.2.1 a.2.2.1) (fun a=>by kernel_rfl) (fun a kn kx=>by kernel_rfl)
theorem h156:MarksE t0 q156 fuel g156.keep g156.body:=(marksE (l:=[(7,[(1,.any),(3,.any),(4,.any)],(.trim [(3,.any)] (.loop (.mark 9 [(1,.any),(3,.any),(4,.any)] (mOf g156 9)))))]) (by kernel_rfl) (marks_cons o156_7 marks_nil))
theorem e156:FnE t0 q156 fuel g156 N156 (fun d:Arr 32 (W .u32)×Unit=>T_ref03_word d.1):=fun d k=>by kernel_rfl
theorem o157_7:Mo t157 q157 g157 7 [(0,.any),(1,.any),(2,.any),(3,.any),(9,.any),(10,.any)] (.trim [(9,.any)] (.loop (.mark 9 [(0,.any),(1,.any),(2,.any),(3,.any),(9,.any),(10,.any)] (mOf g157 9)))):=loop_mark (fnsC_mono _) (m:=K157_7) rfl (by kernel_rfl) (by kernel_rfl) (fun a=>by kernel_rfl) (marksE (by kernel_rfl) marks_nil) (B:=fun a:W .u32×W .u32×W .u32×W .u32×Arr 32 (W .u32)×W .i64×Unit=>B_ref03_logic_7 a.1 a.2.1 a.2.2.1 a.2.2.2.1 a.2.2.2.2.1 a.2.2.2.2.2.1) (fun a=>by kernel_rfl) (fun a kn kx=>by kernel_rfl)
theorem h157:MarksE t157 q157 fuel g157.keep g157.body:=(marksE (l:=[(7,[(0,.any),(1,.any),(2,.any),(3,.any),(9,.any),(10,.any)],(.trim [(9,.any)] (.loop (.mark 9 [(0,.any),(1,.any),(2,.any),(3,.any),(9,.any),(10,.any)] (mOf g157 9)))))]) (by kernel_rfl) (marks_cons o157_7 marks_nil))
theorem e157:FnE t157 q157 fuel g157 N157 (fun d:W .u32×W .u32×W .u32×W .u32×Unit=>T_ref03_logic d.1 d.2.1 d.2.2.1 d.2.2.2.1):=fun d k=>by kernel_rfl
theorem e159:FnE t0 q0 fuel g159 N159 (fun d:Bool×Unit=>T_ref03_one d.1):=fun d k=>by kernel_rfl
theorem e165:FnE t165 q0 fuel g165 N165 (fun d:TArch×TInst×Unit=>T_ref15_value d.1 d.2.1):=fun d k=>by kernel_rfl
theorem e167:FnE t0 q0 fuel g167 N167 (fun d:TArch×Unit=>T_ref11_Count d.1):=fun d k=>by kernel_rfl
theorem o171_11:Mo t0 q171 g171 11 [(0,.any),(1,.any),(5,.any)] (.trim [(4,.any)] (.loop (.mark 13 [(0,.any),(1,.any),(5,.any)] (mOf g171 13)))):=loop_mark (fnsC_mono _) (m:=K171_11) rfl (by kernel_rfl) (by kernel_rfl) (fun a=>by kernel_rfl) (marksE (by kernel_rfl) marks_nil) (B:=fun a:Sl 4 (W .u32)×Sl 4 (W .u32)×W .i64×Unit=>B_same_Words_11 a.1 a.2.1 a.2.2.1) (fun a=>by kernel_rfl) (fun a kn kx=>by kernel_rfl)
theorem h171:MarksE t0 q171 fuel g171.keep g171.body:=(marksE (l:=[(11,[(0,.any),(1,.any),(5,.any)],(.trim [(4,.any)] (.loop (.mark 13 [(0,.any),(1,.any),(5,.any)] (mOf g171 13)))))]) (by kernel_rfl) (marks_cons o171_11 marks_nil))
theorem e171:FnE t0 q171 fuel g171 N171 (fun d:Sl 4 (W .u32)×Sl 4 (W .u32)×Unit=>T_same_Words d.1 d.2.1):=fun d k=>by kernel_rfl
end Go.Proofs.YtedhidchlfhegaaGreatDoor
