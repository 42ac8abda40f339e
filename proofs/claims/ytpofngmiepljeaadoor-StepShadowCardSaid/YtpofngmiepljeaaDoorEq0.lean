/- YtpofngmiepljeaaDoorEq0: the functions' runs are their trees. No statement of the seat is proved here. -/
import Derived.Test.YtpofngmiepljeaaDoorTabs
set_option linter.unusedSimpArgs false
set_option linter.unusedVariables false
set_option maxRecDepth 100000
namespace Go.Proofs.YtpofngmiepljeaaDoor
open Go Go.A2
theorem o7_13:Mo t7 q7 g7 13 [(3,.any),(11,.any),(12,.any),(13,.any)] (.trim [(2,.any)] (.loop (.mark 15 [(3,.any),(11,.any),(12,.any),(13,.any)] (mOf g7 15)))):=loop_mark (fnsC_mono _) (m:=K7_13) rfl (by kernel_rfl) (by kernel_rfl) (fun a=>by kernel_rfl) (marksE (by kernel_rfl) marks_nil) (B:=fun a:W .i64×Sl 32 (TSeg)×W .i64×W .i64×Unit=>B_rom_Right_13 a.1 a.2.1 a.2.2.1 a.2.2.2.1) (fun a=>by kernel_rfl) (fun a kn kx=>by kernel_rfl)
theorem h7:MarksE t7 q7 fuel g7.keep g7.body:=(marksE (l:=[(13,[(3,.any),(11,.any),(12,.any),(13,.any)],(.trim [(2,.any)] (.loop (.mark 15 [(3,.any),(11,.any),(12,.any),(13,.any)] (mOf g7 15)))))]) (by kernel_rfl) (marks_cons o7_13 marks_nil))
theorem e7:FnE t7 q7 fuel g7 N7 (fun d:TImage×Unit=>T_rom_Right d.1):=fun d k=>by kernel_rfl
theorem o8_21:Mo t8 q8 g8 21 [(0,.any),(7,.any),(29,.any),(30,.any),(31,.any)] (.trim [(4,.any),(5,.any),(7,.any)] (.loop (.mark 23 [(0,.any),(7,.any),(29,.any),(30,.any),(31,.any)] (mOf g8 23)))):=loop_mark (fnsC_mono _) (m:=K8_21) rfl (by kernel_rfl) (by kernel_rfl) (fun a=>by kernel_rfl) (marksE (by kernel_rfl) marks_nil) (B:=fun a:W .i64×Sl 1 (W .u8)×Sl 32 (TSeg)×W .i64×W .i64×Unit=>B_rom_Load_21 a.1 a.2.1 a.2.2.1 a.2.2.2.1 a.2.2.2.2.1) (fun a=>by kernel_rfl) (fun a kn kx=>by kernel_rfl)
theorem h8:MarksE t8 q8 fuel g8.keep g8.body:=(marksE (l:=[(21,[(0,.any),(7,.any),(29,.any),(30,.any),(31,.any)],(.trim [(4,.any),(5,.any),(7,.any)] (.loop (.mark 23 [(0,.any),(7,.any),(29,.any),(30,.any),(31,.any)] (mOf g8 23)))))]) (by kernel_rfl) (marks_cons o8_21 marks_nil))
theorem e8:FnE t8 q8 fuel g8 N8 (fun d:W .i64×TImage×Unit=>T_rom_Load d.1 d.2.1):=fun d k=>by kernel_rfl
theorem e11:FnE t0 q0 fuel g11 N11 (fun d:Unit=>T_trap_sources):=fun d k=>by kernel_rfl
theorem e13:FnE t0 q0 fuel g13 N13 (fun d:W .i64×Unit=>T_csr_Masked d.1):=fun d k=>by kernel_rfl
theorem e22:FnE t0 q0 fuel g22 N22 (fun d:W .i64×Unit=>T_bits_ones d.1):=fun d k=>by kernel_rfl
theorem e26:FnE t0 q0 fuel g26 N26 (fun d:Sl 1 (W .u8)×W .u32×W .i64×Unit=>T_mem_Check d.1 d.2.1 d.2.2.1):=fun d k=>by kernel_rfl
theorem e28:FnE t28 q0 fuel g28 N28 (fun d:Sl 1 (W .u8)×W .u32×W .i64×Unit=>T_mem_Read d.1 d.2.1 d.2.2.1):=fun d k=>by kernel_rfl
theorem e34:FnE t0 q0 fuel g34 N34 (fun d:TPte×Unit=>T_pte_page d.1):=fun d k=>by kernel_rfl
theorem e36:FnE t36 q0 fuel g36 N36 (fun d:TArch×Sl 1 (W .u8)×W .u32×W .i64×Unit=>T_walk_Trans d.1 d.2.1 d.2.2.1 d.2.2.2.1):=fun d k=>by kernel_rfl
theorem e43:FnE t43 q0 fuel g43 N43 (fun d:W .u32×W .i64×Unit=>T_bits_Sext d.1 d.2.1):=fun d k=>by kernel_rfl
theorem e44:FnE t44 q0 fuel g44 N44 (fun d:W .i64×W .u32×Unit=>T_inst_number d.1 d.2.1):=fun d k=>by kernel_rfl
theorem e48:FnE t48 q0 fuel g48 N48 (fun d:TInst×Unit=>T_inst_Enc d.1):=fun d k=>by kernel_rfl
theorem e49:FnE t49 q0 fuel g49 N49 (fun d:W .u32×Unit=>T_inst_Dec d.1):=fun d k=>by kernel_rfl
theorem e57:FnE t0 q0 fuel g57 N57 (fun d:W .u32×W .i64×Unit=>T_bits_RotateLeft32 d.1 d.2.1):=fun d k=>by kernel_rfl
theorem o63_7:Mo t63 q63 g63 7 [(1,.any),(10,.any),(11,.any)] (.trim [(1,.any)] (.loop (.mark 9 [(1,.any),(10,.any),(11,.any)] (mOf g63 9)))):=loop_mark (fnsC_mono _) (m:=K63_7) rfl (by kernel_rfl) (by kernel_rfl) (fun a=>by kernel_rfl) (marksE (by kernel_rfl) marks_nil) (B:=fun a:TMul×W .i64×W .i64×Unit=>B_mul_Run_7 a.1 a.2.1 a.2.2.1) (fun a=>by kernel_rfl) (fun a kn kx=>by kernel_rfl)
theorem h63:MarksE t63 q63 fuel g63.keep g63.body:=(marksE (l:=[(7,[(1,.any),(10,.any),(11,.any)],(.trim [(1,.any)] (.loop (.mark 9 [(1,.any),(10,.any),(11,.any)] (mOf g63 9)))))]) (by kernel_rfl) (marks_cons o63_7 marks_nil))
theorem e63:FnE t63 q63 fuel g63 N63 (fun d:TMul×Unit=>T_mul_Run d.1):=fun d k=>by kernel_rfl
theorem e67:FnE t0 q0 fuel g67 N67 (fun d:W .i64×Unit=>T_div_left d.1):=fun d k=>by kernel_rfl
theorem e72:FnE t0 q0 fuel g72 N72 (fun d:W .u32×W .u32×W .u32×Unit=>T_alu_Cmov d.1 d.2.1 d.2.2.1):=fun d k=>by kernel_rfl
theorem o74_3:Mo t74 q74 g74 3 [(0,.any),(2,.any),(3,.any),(5,.any),(17,.any)] (mOf g74 3):=join_mark (fnsC_mono _) (m:=K74_3) rfl (by kernel_rfl) (by kernel_rfl) (marksE (by kernel_rfl) marks_nil) (B:=fun a:TWork×W .u32×W .u32×TInst×Bool×Unit=>B_step_work_reckon_3 a.1 a.2.1 a.2.2.1 a.2.2.2.1 a.2.2.2.2.1) (fun a=>by kernel_rfl) (fun a kx=>by kernel_rfl)
theorem o74_17:Mo t74 q74 g74 17 [(0,.any),(2,.any),(3,.any),(5,.any),(8,.any),(55,.any)] (mOf g74 17):=join_mark (fnsC_mono _) (m:=K74_17) rfl (by kernel_rfl) (by kernel_rfl) (marksE (by kernel_rfl) marks_nil) (B:=fun a:TWork×W .u32×W .u32×TInst×W .u32×Bool×Unit=>B_step_work_reckon_17 a.1 a.2.1 a.2.2.1 a.2.2.2.1 a.2.2.2.2.1 a.2.2.2.2.2.1) (fun a=>by kernel_rfl) (fun a kx=>by kernel_rfl)
theorem o74_19:Mo t74 q74 g74 19 [(0,.any),(5,.any),(8,.any)] (mOf g74 19):=join_mark (fnsC_mono _) (m:=K74_19) rfl (by kernel_rfl) (by kernel_rfl) (marksE (by kernel_rfl) marks_nil) (B:=fun a:TWork×TInst×W .u32×Unit=>B_step_work_reckon_19 a.1 a.2.1 a.2.2.1) (fun a=>by kernel_rfl) (fun a kx=>by kernel_rfl)
theorem o74_15:Mo t74 q74 g74 15 [(0,.any),(2,.any),(3,.any),(5,.any),(8,.any),(9,.any)] (mOf g74 15):=join_mark (fnsC_mono _) (m:=K74_15) rfl (by kernel_rfl) (by kernel_rfl) (marksE (l:=[(17,[(0,.any),(2,.any),(3,.any),(5,.any),(8,.any),(55,.any)],(mOf g74 17)),(19,[(0,.any),(5,.any),(8,.any)],(mOf g74 19))]) (by kernel_rfl) (marks_cons o74_17 (marks_cons o74_19 marks_nil))) (B:=fun a:TWork×W .u32×W .u32×TInst×W .u32×Bool×Unit=>B_step_work_reckon_15 a.1 a.2.1 a.2.2.1 a.2.2.2.1 a.2.2.2.2.1 a.2.2.2.2.2.1) (fun a=>by kernel_rfl) (fun a kx=>by kernel_rfl)
theorem o74_11:Mo t74 q74 g74 11 [(0,.any),(2,.any),(3,.any),(5,.any),(8,.any),(9,.any)] (mOf g74 11):=join_mark (fnsC_mono _) (m:=K74_11) rfl (by kernel_rfl) (by kernel_rfl) (marksE (l:=[(15,[(0,.any),(2,.any),(3,.any),(5,.any),(8,.any),(9,.any)],(mOf g74 15))]) (by kernel_rfl) (marks_cons o74_15 marks_nil)) (B:=fun a:TWork×W .u32×W .u32×TInst×W .u32×Bool×Unit=>B_step_work_reckon_11 a.1 a.2.1 a.2.2.1 a.2.2.2.1 a.2.2.2.2.1 a.2.2.2.2.2.1) (fun a=>by kernel_rfl) (fun a kx=>by kernel_rfl)
theorem o74_5:Mo t74 q74 g74 5 [(0,.any),(2,.any),(3,.any),(5,.any)] (mOf g74 5):=join_mark (fnsC_mono _) (m:=K74_5) rfl (by kernel_rfl) (by kernel_rfl) (marksE (l:=[(11,[(0,.any),(2,.any),(3,.any),(5,.any),(8,.any),(9,.any)],(mOf g74 11))]) (by kernel_rfl) (marks_cons o74_11 marks_nil)) (B:=fun a:TWork×W .u32×W .u32×TInst×Unit=>B_step_work_reckon_5 a.1 a.2.1 a.2.2.1 a.2.2.2.1) (fun a=>by kernel_rfl) (fun a kx=>by kernel_rfl)
theorem h74:MarksE t74 q74 fuel g74.keep g74.body:=(marksE (l:=[(3,[(0,.any),(2,.any),(3,.any),(5,.any),(17,.any)],(mOf g74 3)),(5,[(0,.any),(2,.any),(3,.any),(5,.any)],(mOf g74 5))]) (by kernel_rfl) (marks_cons o74_3 (marks_cons o74_5 marks_nil)))
theorem e74:FnE t74 q74 fuel g74 N74 (fun d:TWork×TInst×W .u32×W .u32×Unit=>T_step_work_reckon d.1 d.2.1 d.2.2.1 d.2.2.2.1):=fun d k=>by kernel_rfl
theorem e82:FnE t82 q0 fuel g82 N82 (fun d:TWork×TInst×W .u32×W .u32×Unit=>T_step_work_keeps d.1 d.2.1 d.2.2.1 d.2.2.2.1):=fun d k=>by kernel_rfl
theorem e84:FnE t84 q0 fuel g84 N84 (fun d:TWork×TInst×W .u32×W .u32×Unit=>T_step_work_goes d.1 d.2.1 d.2.2.1 d.2.2.2.1):=fun d k=>by kernel_rfl
theorem e85:FnE t85 q0 fuel g85 N85 (fun d:TWork×TInst×W .u32×W .u32×Unit=>T_step_work_atOnce d.1 d.2.1 d.2.2.1 d.2.2.2.1):=fun d k=>by kernel_rfl
theorem e87:FnE t87 q0 fuel g87 N87 (fun d:TArch×W .i64×Bool×Unit=>T_csr_may d.1 d.2.1 d.2.2.1):=fun d k=>by kernel_rfl
theorem e92:FnE t0 q0 fuel g92 N92 (fun d:TArch×Unit=>T_csr_Count d.1):=fun d k=>by kernel_rfl
theorem e93:FnE t93 q0 fuel g93 N93 (fun d:TArch×Unit=>T_trap_Single d.1):=fun d k=>by kernel_rfl
end Go.Proofs.YtpofngmiepljeaaDoor
