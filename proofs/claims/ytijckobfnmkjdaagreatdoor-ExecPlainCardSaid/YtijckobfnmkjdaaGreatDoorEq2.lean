/- YtijckobfnmkjdaaGreatDoorEq2: the functions' runs are their trees. No statement of the seat is proved here. -/
import Derived.Test.YtijckobfnmkjdaaGreatDoorTabs
set_option linter.unusedSimpArgs false
set_option linter.unusedVariables false
set_option maxRecDepth 100000
namespace Go.Proofs.YtijckobfnmkjdaaGreatDoor
open Go Go.A2
theorem o4_11:Mo t4 q4 g4 11 [(1,.any),(18,.any),(19,.any)] (.trim [(1,.any),(2,.any)] (.loop (.mark 13 [(1,.any),(18,.any),(19,.any)] (mOf g4 13)))):=loop_mark (fnsC_mono _) (m:=K4_11) rfl (by kernel_rfl) (by kernel_rfl) (fun a=>by kernel_rfl) (marksE (by kernel_rfl) marks_nil) (B:=fun a:TInst×Arr 3 (TS94)×W .i64×Unit=>B_inst_Right_11 a.1 a.2.1 a.2.2.1) (fun a=>by kernel_rfl) (fun a kn kx=>by kernel_rfl)
theorem h4:MarksE t4 q4 fuel g4.keep g4.body:=(marksE (l:=[(11,[(1,.any),(18,.any),(19,.any)],(.trim [(1,.any),(2,.any)] (.loop (.mark 13 [(1,.any),(18,.any),(19,.any)] (mOf g4 13)))))]) (by kernel_rfl) (marks_cons o4_11 marks_nil))
theorem e4:FnE t4 q4 fuel g4 N4 (fun d:TInst×Unit=>T_inst_Right d.1):=fun d k=>by kernel_rfl
theorem e7:FnE t7 q0 fuel g7 N7 (fun d:W .i64×W .i64×Unit=>T_bits_mask d.1 d.2.1):=fun d k=>by kernel_rfl
theorem e8:FnE t8 q0 fuel g8 N8 (fun d:W .u32×W .i64×W .i64×W .u32×Unit=>T_bits_Put d.1 d.2.1 d.2.2.1 d.2.2.2.1):=fun d k=>by kernel_rfl
theorem e14:FnE t0 q0 fuel g14 N14 (fun d:W .i64×W .i64×W .i64×Unit=>T_exec_between d.1 d.2.1 d.2.2.1):=fun d k=>by kernel_rfl
theorem e16:FnE t0 q0 fuel g16 N16 (fun d:TMul×Unit=>T_mul_Step d.1):=fun d k=>by kernel_rfl
theorem e21:FnE t0 q0 fuel g21 N21 (fun d:W .i64×Unit=>T_div_left d.1):=fun d k=>by kernel_rfl
theorem o27_5:Mo t0 q27 g27 5 [(0,.any),(3,.any)] (.trim [(3,.any)] (.loop (.mark 7 [(0,.any),(3,.any)] (mOf g27 7)))):=loop_mark (fnsC_mono _) (m:=K27_5) rfl (by kernel_rfl) (by kernel_rfl) (fun a=>by kernel_rfl) (marksE (by kernel_rfl) marks_nil) (B:=fun a:W .u32×W .i64×Unit=>B_alu_Clz_5 a.1 a.2.1) (fun a=>by kernel_rfl) (fun a kn kx=>by kernel_rfl)
theorem h27:MarksE t0 q27 fuel g27.keep g27.body:=(marksE (l:=[(5,[(0,.any),(3,.any)],(.trim [(3,.any)] (.loop (.mark 7 [(0,.any),(3,.any)] (mOf g27 7)))))]) (by kernel_rfl) (marks_cons o27_5 marks_nil))
theorem e27:FnE t0 q27 fuel g27 N27 (fun d:W .u32×Unit=>T_alu_Clz d.1):=fun d k=>by kernel_rfl
theorem e33:FnE t33 q0 fuel g33 N33 (fun d:W .u32×W .i64×Unit=>T_bits_Rot d.1 d.2.1):=fun d k=>by kernel_rfl
theorem e37:FnE t0 q0 fuel g37 N37 (fun d:W .u32×W .u32×W .u32×Unit=>T_alu_Cmov d.1 d.2.1 d.2.2.1):=fun d k=>by kernel_rfl
theorem e43:FnE t43 q0 fuel g43 N43 (fun d:W .i64×W .u32×Unit=>T_exec_Ext d.1 d.2.1):=fun d k=>by kernel_rfl
theorem e46:FnE t0 q0 fuel g46 N46 (fun d:W .u32×Unit=>T_law32_word d.1):=fun d k=>by kernel_rfl
theorem o49_21:Mo t49 q49 g49 21 [(0,.any),(7,.any),(29,.any),(30,.any),(31,.any)] (.trim [(4,.any),(5,.any),(7,.any)] (.loop (.mark 23 [(0,.any),(7,.any),(29,.any),(30,.any),(31,.any)] (mOf g49 23)))):=loop_mark (fnsC_mono _) (m:=K49_21) rfl (by kernel_rfl) (by kernel_rfl) (fun a=>by kernel_rfl) (marksE (by kernel_rfl) marks_nil) (B:=fun a:W .i64×Sl 1 (W .u8)×Sl 32 (TSeg)×W .i64×W .i64×Unit=>B_rom_Load_21 a.1 a.2.1 a.2.2.1 a.2.2.2.1 a.2.2.2.2.1) (fun a=>by kernel_rfl) (fun a kn kx=>by kernel_rfl)
theorem h49:MarksE t49 q49 fuel g49.keep g49.body:=(marksE (l:=[(21,[(0,.any),(7,.any),(29,.any),(30,.any),(31,.any)],(.trim [(4,.any),(5,.any),(7,.any)] (.loop (.mark 23 [(0,.any),(7,.any),(29,.any),(30,.any),(31,.any)] (mOf g49 23)))))]) (by kernel_rfl) (marks_cons o49_21 marks_nil))
theorem e49:FnE t49 q49 fuel g49 N49 (fun d:W .i64×TImage×Unit=>T_rom_Load d.1 d.2.1):=fun d k=>by kernel_rfl
theorem e53:FnE t53 q0 fuel g53 N53 (fun d:W .u32×W .i64×W .i64×Unit=>T_bits_Field d.1 d.2.1 d.2.2.1):=fun d k=>by kernel_rfl
theorem e55:FnE t55 q0 fuel g55 N55 (fun d:W .u32×Unit=>T_inst_Dec d.1):=fun d k=>by kernel_rfl
theorem e56:FnE t0 q0 fuel g56 N56 (fun d:W .i64×Unit=>T_crack_reg d.1):=fun d k=>by kernel_rfl
theorem e66:FnE t66 q0 fuel g66 N66 (fun d:TArch×W .i64×W .u32×W .u32×Unit=>T_trap_Take d.1 d.2.1 d.2.2.1 d.2.2.2.1):=fun d k=>by kernel_rfl
theorem e71:FnE t0 q0 fuel g71 N71 (fun d:W .i64×Unit=>T_walk_Fault d.1):=fun d k=>by kernel_rfl
theorem e72:FnE t72 q0 fuel g72 N72 (fun d:W .u32×W .i64×Unit=>T_pte_Index d.1 d.2.1):=fun d k=>by kernel_rfl
theorem e77:FnE t77 q0 fuel g77 N77 (fun d:TWalker×W .u32×Unit=>T_walk_walker_entry d.1 d.2.1):=fun d k=>by kernel_rfl
theorem e80:FnE t0 q0 fuel g80 N80 (fun d:TPte×W .i64×Bool×Unit=>T_pte_Allows d.1 d.2.1 d.2.2.1):=fun d k=>by kernel_rfl
theorem e81:FnE t0 q0 fuel g81 N81 (fun d:TPte×Unit=>T_pte_page d.1):=fun d k=>by kernel_rfl
theorem o88_3:Mo t88 q88 g88 3 [(0,.any),(2,.any),(3,.any),(5,.any),(17,.any)] (mOf g88 3):=join_mark (fnsC_mono _) (m:=K88_3) rfl (by kernel_rfl) (by kernel_rfl) (marksE (by kernel_rfl) marks_nil) (B:=fun a:TWork×W .u32×W .u32×TInst×Bool×Unit=>B_step_work_reckon_3 a.1 a.2.1 a.2.2.1 a.2.2.2.1 a.2.2.2.2.1) (fun a=>by kernel_rfl) (fun a kx=>by kernel_rfl)
theorem o88_17:Mo t88 q88 g88 17 [(0,.any),(2,.any),(3,.any),(5,.any),(8,.any),(55,.any)] (mOf g88 17):=join_mark (fnsC_mono _) (m:=K88_17) rfl (by kernel_rfl) (by kernel_rfl) (marksE (by kernel_rfl) marks_nil) (B:=fun a:TWork×W .u32×W .u32×TInst×W .u32×Bool×Unit=>B_step_work_reckon_17 a.1 a.2.1 a.2.2.1 a.2.2.2.1 a.2.2.2.2.1 a.2.2.2.2.2.1) (fun a=>by kernel_rfl) (fun a kx=>by kernel_rfl)
theorem o88_19:Mo t88 q88 g88 19 [(0,.any),(5,.any),(8,.any)] (mOf g88 19):=join_mark (fnsC_mono _) (m:=K88_19) rfl (by kernel_rfl) (by kernel_rfl) (marksE (by kernel_rfl) marks_nil) (B:=fun a:TWork×TInst×W .u32×Unit=>B_step_work_reckon_19 a.1 a.2.1 a.2.2.1) (fun a=>by kernel_rfl) (fun a kx=>by kernel_rfl)
theorem o88_15:Mo t88 q88 g88 15 [(0,.any),(2,.any),(3,.any),(5,.any),(8,.any),(9,.any)] (mOf g88 15):=join_mark (fnsC_mono _) (m:=K88_15) rfl (by kernel_rfl) (by kernel_rfl) (marksE (l:=[(17,[(0,.any),(2,.any),(3,.any),(5,.any),(8,.any),(55,.any)],(mOf g88 17)),(19,[(0,.any),(5,.any),(8,.any)],(mOf g88 19))]) (by kernel_rfl) (marks_cons o88_17 (marks_cons o88_19 marks_nil))) (B:=fun a:TWork×W .u32×W .u32×TInst×W .u32×Bool×Unit=>B_step_work_reckon_15 a.1 a.2.1 a.2.2.1 a.2.2.2.1 a.2.2.2.2.1 a.2.2.2.2.2.1) (fun a=>by kernel_rfl) (fun a kx=>by kernel_rfl)
theorem o88_11:Mo t88 q88 g88 11 [(0,.any),(2,.any),(3,.any),(5,.any),(8,.any),(9,.any)] (mOf g88 11):=join_mark (fnsC_mono _) (m:=K88_11) rfl (by kernel_rfl) (by kernel_rfl) (marksE (l:=[(15,[(0,.any),(2,.any),(3,.any),(5,.any),(8,.any),(9,.any)],(mOf g88 15))]) (by kernel_rfl) (marks_cons o88_15 marks_nil)) (B:=fun a:TWork×W .u32×W .u32×TInst×W .u32×Bool×Unit=>B_step_work_reckon_11 a.1 a.2.1 a.2.2.1 a.2.2.2.1 a.2.2.2.2.1 a.2.2.2.2.2.1) (fun a=>by kernel_rfl) (fun a kx=>by kernel_rfl)
theorem o88_5:Mo t88 q88 g88 5 [(0,.any),(2,.any),(3,.any),(5,.any)] (mOf g88 5):=join_mark (fnsC_mono _) (m:=K88_5) rfl (by kernel_rfl) (by kernel_rfl) (marksE (l:=[(11,[(0,.any),(2,.any),(3,.any),(5,.any),(8,.any),(9,.any)],(mOf g88 11))]) (by kernel_rfl) (marks_cons o88_11 marks_nil)) (B:=fun a:TWork×W .u32×W .u32×TInst×Unit=>B_step_work_reckon_5 a.1 a.2.1 a.2.2.1 a.2.2.2.1) (fun a=>by kernel_rfl) (fun a kx=>by kernel_rfl)
theorem h88:MarksE t88 q88 fuel g88.keep g88.body:=(marksE (l:=[(3,[(0,.any),(2,.any),(3,.any),(5,.any),(17,.any)],(mOf g88 3)),(5,[(0,.any),(2,.any),(3,.any),(5,.any)],(mOf g88 5))]) (by kernel_rfl) (marks_cons o88_3 (marks_cons o88_5 marks_nil)))
theorem e88:FnE t88 q88 fuel g88 N88 (fun d:TWork×TInst×W .u32×W .u32×Unit=>T_step_work_reckon d.1 d.2.1 d.2.2.1 d.2.2.2.1):=fun d k=>by kernel_rfl
theorem e95:FnE t95 q0 fuel g95 N95 (fun d:TWork×W .u32×W .i64×W .u32×Unit=>T_step_work_stores d.1 d.2.1 d.2.2.1 d.2.2.2.1):=fun d k=>by kernel_rfl
theorem e98:FnE t98 q0 fuel g98 N98 (fun d:TWork×TInst×W .u32×W .u32×Unit=>T_step_work_atOnce d.1 d.2.1 d.2.2.1 d.2.2.2.1):=fun d k=>by kernel_rfl
theorem e100:FnE t100 q0 fuel g100 N100 (fun d:TArch×W .i64×Bool×Unit=>T_csr_may d.1 d.2.1 d.2.2.1):=fun d k=>by kernel_rfl
theorem e102:FnE t102 q0 fuel g102 N102 (fun d:TArch×W .i64×W .u32×Unit=>T_csr_Write d.1 d.2.1 d.2.2.1):=fun d k=>by kernel_rfl
theorem e107:FnE t107 q0 fuel g107 N107 (fun d:TMach×Unit=>T_step_Step d.1):=fun d k=>by kernel_rfl
end Go.Proofs.YtijckobfnmkjdaaGreatDoor
