/- YtiadkommiljbpaaGreatDoorEq0: the functions' runs are their trees. No statement of the seat is proved here. -/
import Derived.Test.YtiadkommiljbpaaGreatDoorTabs
set_option linter.unusedSimpArgs false
set_option linter.unusedVariables false
set_option maxRecDepth 100000
namespace Go.Proofs.YtiadkommiljbpaaGreatDoor
open Go Go.A2
theorem e9:FnE t9 q0 fuel g9 N9 (fun d:TImage×W .i64×Unit=>T_step_New d.1 d.2.1):=fun d k=>by kernel_rfl
theorem e10:FnE t0 q0 fuel g10 N10 (fun d:TArch×Unit=>T_csr_Kernel d.1):=fun d k=>by kernel_rfl
theorem o12_13:Mo t12 q12 g12 13 [(3,.any),(22,.any),(23,.any)] (.trim [(2,.any)] (.loop (.mark 15 [(3,.any),(22,.any),(23,.any)] (mOf g12 15)))):=loop_mark (fnsC_mono _) (m:=K12_13) rfl (by kernel_rfl) (by kernel_rfl) (fun a=>by kernel_rfl) (marksE (by kernel_rfl) marks_nil) (B:=fun a:W .u32×Arr 3 (TSource)×W .i64×Unit=>B_trap_Pending_13 a.1 a.2.1 a.2.2.1) (fun a=>by kernel_rfl) (fun a kn kx=>by kernel_rfl)
theorem h12:MarksE t12 q12 fuel g12.keep g12.body:=(marksE (l:=[(13,[(3,.any),(22,.any),(23,.any)],(.trim [(2,.any)] (.loop (.mark 15 [(3,.any),(22,.any),(23,.any)] (mOf g12 15)))))]) (by kernel_rfl) (marks_cons o12_13 marks_nil))
theorem e12:FnE t12 q12 fuel g12 N12 (fun d:TArch×Unit=>T_trap_Pending d.1):=fun d k=>by kernel_rfl
theorem e18:FnE t0 q0 fuel g18 N18 (fun d:W .u32×W .i64×Unit=>T_bits_Aligned d.1 d.2.1):=fun d k=>by kernel_rfl
theorem e21:FnE t0 q0 fuel g21 N21 (fun d:W .i64×W .i64×W .i64×Unit=>T_bits_clamp d.1 d.2.1 d.2.2.1):=fun d k=>by kernel_rfl
theorem e23:FnE t23 q0 fuel g23 N23 (fun d:W .i64×W .i64×Unit=>T_bits_mask d.1 d.2.1):=fun d k=>by kernel_rfl
theorem e25:FnE t25 q0 fuel g25 N25 (fun d:W .u32×W .i64×Unit=>T_pte_Index d.1 d.2.1):=fun d k=>by kernel_rfl
theorem e26:FnE t0 q0 fuel g26 N26 (fun d:Sl 1 (W .u8)×W .u32×W .i64×Unit=>T_mem_Check d.1 d.2.1 d.2.2.1):=fun d k=>by kernel_rfl
theorem e31:FnE t0 q0 fuel g31 N31 (fun d:TPte×Unit=>T_pte_Leaf d.1):=fun d k=>by kernel_rfl
theorem e41:FnE t41 q0 fuel g41 N41 (fun d:W .u32×W .i64×Unit=>T_bits_Zext d.1 d.2.1):=fun d k=>by kernel_rfl
theorem e42:FnE t42 q0 fuel g42 N42 (fun d:W .i64×Unit=>T_inst_width d.1):=fun d k=>by kernel_rfl
theorem e45:FnE t0 q0 fuel g45 N45 (fun d:W .i64×W .i64×Unit=>T_inst_within d.1 d.2.1):=fun d k=>by kernel_rfl
theorem o53_5:Mo t0 q53 g53 5 [(0,.any),(3,.any)] (.trim [(3,.any)] (.loop (.mark 7 [(0,.any),(3,.any)] (mOf g53 7)))):=loop_mark (fnsC_mono _) (m:=K53_5) rfl (by kernel_rfl) (by kernel_rfl) (fun a=>by kernel_rfl) (marksE (by kernel_rfl) marks_nil) (B:=fun a:W .u32×W .i64×Unit=>B_alu_Pop_5 a.1 a.2.1) (fun a=>by kernel_rfl) (fun a kn kx=>by kernel_rfl)
theorem h53:MarksE t0 q53 fuel g53.keep g53.body:=(marksE (l:=[(5,[(0,.any),(3,.any)],(.trim [(3,.any)] (.loop (.mark 7 [(0,.any),(3,.any)] (mOf g53 7)))))]) (by kernel_rfl) (marks_cons o53_5 marks_nil))
theorem e53:FnE t0 q53 fuel g53 N53 (fun d:W .u32×Unit=>T_alu_Pop d.1):=fun d k=>by kernel_rfl
theorem e56:FnE t0 q0 fuel g56 N56 (fun d:W .u32×Unit=>T_alu_low d.1):=fun d k=>by kernel_rfl
theorem e65:FnE t65 q0 fuel g65 N65 (fun d:W .i64×W .u32×W .u32×Unit=>T_mul_Do d.1 d.2.1 d.2.2.1):=fun d k=>by kernel_rfl
theorem e66:FnE t0 q0 fuel g66 N66 (fun d:W .u32×W .u32×Unit=>T_div_New d.1 d.2.1):=fun d k=>by kernel_rfl
theorem o69_5:Mo t69 q69 g69 5 [(1,.any),(6,.any),(7,.any)] (.trim [(1,.any)] (.loop (.mark 7 [(1,.any),(6,.any),(7,.any)] (mOf g69 7)))):=loop_mark (fnsC_mono _) (m:=K69_5) rfl (by kernel_rfl) (by kernel_rfl) (fun a=>by kernel_rfl) (marksE (by kernel_rfl) marks_nil) (B:=fun a:TDiv×W .i64×W .i64×Unit=>B_div_Run_5 a.1 a.2.1 a.2.2.1) (fun a=>by kernel_rfl) (fun a kn kx=>by kernel_rfl)
theorem h69:MarksE t69 q69 fuel g69.keep g69.body:=(marksE (l:=[(5,[(1,.any),(6,.any),(7,.any)],(.trim [(1,.any)] (.loop (.mark 7 [(1,.any),(6,.any),(7,.any)] (mOf g69 7)))))]) (by kernel_rfl) (marks_cons o69_5 marks_nil))
theorem e69:FnE t69 q69 fuel g69 N69 (fun d:TDiv×Unit=>T_div_Run d.1):=fun d k=>by kernel_rfl
theorem e70:FnE t0 q0 fuel g70 N70 (fun d:W .u32×Unit=>T_div_away d.1):=fun d k=>by kernel_rfl
theorem e77:FnE t77 q0 fuel g77 N77 (fun d:TWork×TInst×W .u32×Unit=>T_step_work_loads d.1 d.2.1 d.2.2.1):=fun d k=>by kernel_rfl
theorem e81:FnE t81 q0 fuel g81 N81 (fun d:TWork×W .u32×W .i64×W .u32×Unit=>T_step_work_stores d.1 d.2.1 d.2.2.1 d.2.2.2.1):=fun d k=>by kernel_rfl
theorem e89:FnE t89 q0 fuel g89 N89 (fun d:TArch×W .i64×W .u32×Unit=>T_csr_Write d.1 d.2.1 d.2.2.1):=fun d k=>by kernel_rfl
theorem e91:FnE t91 q0 fuel g91 N91 (fun d:TMach×W .u32×TInst×Unit=>T_step_does d.1 d.2.1 d.2.2.1):=fun d k=>by kernel_rfl
theorem e100:FnE t0 q0 fuel g100 N100 (fun d:TArch×Unit=>T_ref11_Kernel d.1):=fun d k=>by kernel_rfl
theorem e110:FnE t0 q0 fuel g110 N110 (fun d:W .u32×W .i64×Unit=>T_ref12_Index d.1 d.2.1):=fun d k=>by kernel_rfl
theorem e111:FnE t0 q0 fuel g111 N111 (fun d:Sl 1 (W .u8)×W .u32×W .i64×Unit=>T_ref10_Check d.1 d.2.1 d.2.2.1):=fun d k=>by kernel_rfl
theorem o112_15:Mo t112 q112 g112 15 [(0,.any),(1,.any),(9,.any),(10,.any)] (.trim [(9,.any)] (.loop (.mark 17 [(0,.any),(1,.any),(9,.any),(10,.any)] (mOf g112 17)))):=loop_mark (fnsC_mono _) (m:=K112_15) rfl (by kernel_rfl) (by kernel_rfl) (fun a=>by kernel_rfl) (marksE (by kernel_rfl) marks_nil) (B:=fun a:Sl 1 (W .u8)×W .u32×W .u32×W .i64×Unit=>B_ref10_Read_15 a.1 a.2.1 a.2.2.1 a.2.2.2.1) (fun a=>by kernel_rfl) (fun a kn kx=>by kernel_rfl)
theorem h112:MarksE t112 q112 fuel g112.keep g112.body:=(marksE (l:=[(15,[(0,.any),(1,.any),(9,.any),(10,.any)],(.trim [(9,.any)] (.loop (.mark 17 [(0,.any),(1,.any),(9,.any),(10,.any)] (mOf g112 17)))))]) (by kernel_rfl) (marks_cons o112_15 marks_nil))
theorem e112:FnE t112 q112 fuel g112 N112 (fun d:Sl 1 (W .u8)×W .u32×W .i64×Unit=>T_ref10_Read d.1 d.2.1 d.2.2.1):=fun d k=>by kernel_rfl
theorem e113:FnE t0 q0 fuel g113 N113 (fun d:W .u32×Unit=>T_ref12_Of d.1):=fun d k=>by kernel_rfl
theorem e118:FnE t0 q0 fuel g118 N118 (fun d:W .i64×Unit=>T_ref12_page d.1):=fun d k=>by kernel_rfl
theorem e120:FnE t120 q0 fuel g120 N120 (fun d:TArch×Sl 1 (W .u8)×W .u32×W .i64×Unit=>T_ref13_Trans d.1 d.2.1 d.2.2.1 d.2.2.2.1):=fun d k=>by kernel_rfl
theorem o133_7:Mo t0 q133 g133 7 [(0,.any),(3,.any),(4,.any)] (.trim [(3,.any)] (.loop (.mark 9 [(0,.any),(3,.any),(4,.any)] (mOf g133 9)))):=loop_mark (fnsC_mono _) (m:=K133_7) rfl (by kernel_rfl) (by kernel_rfl) (fun a=>by kernel_rfl) (marksE (by kernel_rfl) marks_nil) (B:=fun a:W .i64×W .u32×W .i64×Unit=>B_ref01_power_7 a.1 a.2.1 a.2.2.1) (fun a=>by kernel_rfl) (fun a kn kx=>by kernel_rfl)
theorem h133:MarksE t0 q133 fuel g133.keep g133.body:=(marksE (l:=[(7,[(0,.any),(3,.any),(4,.any)],(.trim [(3,.any)] (.loop (.mark 9 [(0,.any),(3,.any),(4,.any)] (mOf g133 9)))))]) (by kernel_rfl) (marks_cons o133_7 marks_nil))
theorem e133:FnE t0 q133 fuel g133 N133 (fun d:W .i64×Unit=>T_ref01_power d.1):=fun d k=>by kernel_rfl
theorem o136_15:Mo t136 q136 g136 15 [(1,.any),(2,.any),(3,.any),(11,.any),(12,.any)] (.trim [(11,.any)] (.loop (.mark 17 [(1,.any),(2,.any),(3,.any),(11,.any),(12,.any)] (mOf g136 17)))):=loop_mark (fnsC_mono _) (m:=K136_15) rfl (by kernel_rfl) (by kernel_rfl) (fun a=>by kernel_rfl) (marksE (by kernel_rfl) marks_nil) (B:=fun a:W .u32×W .i64×W .u32×Sl 1 (W .u8)×W .i64×Unit=>B_ref10_Write_15 a.1 a.2.1 a.2.2.1 a.2.2.2.1 a.2.2.2.2.1) (fun a=>by kernel_rfl) (fun a kn kx=>by kernel_rfl)
theorem h136:MarksE t136 q136 fuel g136.keep g136.body:=(marksE (l:=[(15,[(1,.any),(2,.any),(3,.any),(11,.any),(12,.any)],(.trim [(11,.any)] (.loop (.mark 17 [(1,.any),(2,.any),(3,.any),(11,.any),(12,.any)] (mOf g136 17)))))]) (by kernel_rfl) (marks_cons o136_15 marks_nil))
theorem e136:FnE t136 q136 fuel g136 N136 (fun d:Sl 1 (W .u8)×W .u32×W .i64×W .u32×Unit=>T_ref10_Write d.1 d.2.1 d.2.2.1 d.2.2.2.1):=fun d k=>by kernel_rfl
theorem o137_15:Mo t137 q137 g137 15 [(5,.any),(6,.any)] (.trim [(5,.any)] (.loop (.mark 17 [(5,.any),(6,.any)] (mOf g137 17)))):=loop_mark (fnsC_mono _) (m:=K137_15) rfl (by kernel_rfl) (by kernel_rfl) (fun a=>by kernel_rfl) (marksE (by kernel_rfl) marks_nil) (B:=fun a:W .u32×W .i64×Unit=>B_ref01_Sext_15 a.1 a.2.1) (fun a=>by kernel_rfl) (fun a kn kx=>by kernel_rfl)
theorem h137:MarksE t137 q137 fuel g137.keep g137.body:=(marksE (l:=[(15,[(5,.any),(6,.any)],(.trim [(5,.any)] (.loop (.mark 17 [(5,.any),(6,.any)] (mOf g137 17)))))]) (by kernel_rfl) (marks_cons o137_15 marks_nil))
theorem e137:FnE t137 q137 fuel g137 N137 (fun d:W .u32×W .i64×Unit=>T_ref01_Sext d.1 d.2.1):=fun d k=>by kernel_rfl
theorem e141:FnE t141 q0 fuel g141 N141 (fun d:TArch×Unit=>T_ref14_Return d.1):=fun d k=>by kernel_rfl
theorem e146:FnE t146 q0 fuel g146 N146 (fun d:W .i64×W .u32×W .u32×Unit=>T_ref03_Taken d.1 d.2.1 d.2.2.1):=fun d k=>by kernel_rfl
theorem e155:FnE t0 q0 fuel g155 N155 (fun d:Bool×Unit=>T_ref03_one d.1):=fun d k=>by kernel_rfl
theorem o156_7:Mo t156 q156 g156 7 [(0,.any),(1,.any),(5,.any),(6,.any)] (.trim [(5,.any)] (.loop (.mark 9 [(0,.any),(1,.any),(5,.any),(6,.any)] (mOf g156 9)))):=loop_mark (fnsC_mono _) (m:=K156_7) rfl (by kernel_rfl) (by kernel_rfl) (fun a=>by kernel_rfl) (marksE (by kernel_rfl) marks_nil) (B:=fun a:W .u32×W .i64×Arr 32 (W .u32)×W .i64×Unit=>B_ref03_turned_7 a.1 a.2.1 a.2.2.1 a.2.2.2.1) (fun a=>by kernel_rfl) (fun a kn kx=>by kernel_rfl)
theorem h156:MarksE t156 q156 fuel g156.keep g156.body:=(marksE (l:=[(7,[(0,.any),(1,.any),(5,.any),(6,.any)],(.trim [(5,.any)] (.loop (.mark 9 [(0,.any),(1,.any),(5,.any),(6,.any)] (mOf g156 9)))))]) (by kernel_rfl) (marks_cons o156_7 marks_nil))
theorem e156:FnE t156 q156 fuel g156 N156 (fun d:W .u32×W .i64×Unit=>T_ref03_turned d.1 d.2.1):=fun d k=>by kernel_rfl
theorem e167:FnE t167 q0 fuel g167 N167 (fun d:TMach×TMach×Unit=>T_same_Mach d.1 d.2.1):=fun d k=>by kernel_rfl
theorem o169_13:Mo t0 q169 g169 13 [(1,.any),(3,.any),(4,.any)] (.trim [(2,.any)] (.loop (.mark 15 [(1,.any),(3,.any),(4,.any)] (mOf g169 15)))):=loop_mark (fnsC_mono _) (m:=K169_13) rfl (by kernel_rfl) (by kernel_rfl) (fun a=>by kernel_rfl) (marksE (by kernel_rfl) marks_nil) (B:=fun a:TImage×W .i64×W .i64×Unit=>B_ref09_Right_13 a.1 a.2.1 a.2.2.1) (fun a=>by kernel_rfl) (fun a kn kx=>by kernel_rfl)
theorem h169:MarksE t0 q169 fuel g169.keep g169.body:=(marksE (l:=[(13,[(1,.any),(3,.any),(4,.any)],(.trim [(2,.any)] (.loop (.mark 15 [(1,.any),(3,.any),(4,.any)] (mOf g169 15)))))]) (by kernel_rfl) (marks_cons o169_13 marks_nil))
theorem e169:FnE t0 q169 fuel g169 N169 (fun d:TImage×Unit=>T_ref09_Right d.1):=fun d k=>by kernel_rfl
theorem o170_38:Mo t170 q170 g170 38 [(0,.any),(3,.any),(7,.any),(8,.any),(9,.any),(10,.any)] (.trim [(0,.any),(3,.any),(7,.any),(8,.any)] (.loop (.mark 40 [(0,.any),(3,.any),(7,.any),(8,.any),(9,.any),(10,.any)] (mOf g170 40)))):=loop_mark (fnsC_mono _) (m:=K170_38) rfl (by kernel_rfl) (by kernel_rfl) (fun a=>by kernel_rfl) (marksE (by kernel_rfl) marks_nil) (B:=fun a:W .i64×TImage×Sl 1 (W .u8)×W .i64×W .i64×W .i64×Unit=>B_ref09_Load_38 a.1 a.2.1 a.2.2.1 a.2.2.2.1 a.2.2.2.2.1 a.2.2.2.2.2.1) (fun a=>by kernel_rfl) (fun a kn kx=>by kernel_rfl)
theorem o170_21:Mo t170 q170 g170 21 [(0,.any),(3,.any),(7,.any),(8,.any)] (.trim [(4,.any),(5,.any),(7,.any)] (.loop (.mark 23 [(0,.any),(3,.any),(7,.any),(8,.any)] (mOf g170 23)))):=loop_mark (fnsC_mono _) (m:=K170_21) rfl (by kernel_rfl) (by kernel_rfl) (fun a=>by kernel_rfl) (marksE (l:=[(38,[(0,.any),(3,.any),(7,.any),(8,.any),(9,.any),(10,.any)],(.trim [(0,.any),(3,.any),(7,.any),(8,.any)] (.loop (.mark 40 [(0,.any),(3,.any),(7,.any),(8,.any),(9,.any),(10,.any)] (mOf g170 40)))))]) (by kernel_rfl) (marks_cons o170_38 marks_nil)) (B:=fun a:W .i64×TImage×Sl 1 (W .u8)×W .i64×Unit=>B_ref09_Load_21 a.1 a.2.1 a.2.2.1 a.2.2.2.1) (fun a=>by kernel_rfl) (fun a kn kx=>by kernel_rfl)
theorem h170:MarksE t170 q170 fuel g170.keep g170.body:=(marksE (l:=[(21,[(0,.any),(3,.any),(7,.any),(8,.any)],(.trim [(4,.any),(5,.any),(7,.any)] (.loop (.mark 23 [(0,.any),(3,.any),(7,.any),(8,.any)] (mOf g170 23)))))]) (by kernel_rfl) (marks_cons o170_21 marks_nil))
theorem e170:FnE t170 q170 fuel g170 N170 (fun d:W .i64×TImage×Unit=>T_ref09_Load d.1 d.2.1):=fun d k=>by kernel_rfl
theorem o172_11:Mo t172 q172 g172 11 [(1,.any),(3,.any),(5,.any),(7,.any)] (.trim [(1,.any),(3,.any),(5,.any),(6,.any)] (.loop (.mark 13 [(1,.any),(3,.any),(5,.any),(7,.any)] (mOf g172 13)))):=loop_mark (fnsC_mono _) (m:=K172_11) rfl (by kernel_rfl) (by kernel_rfl) (fun a=>by kernel_rfl) (marksE (by kernel_rfl) marks_nil) (B:=fun a:W .i64×TImage×TMach×W .i64×Unit=>B_law15_StepNew_11 a.1 a.2.1 a.2.2.1 a.2.2.2.1) (fun a=>by kernel_rfl) (fun a kn kx=>by kernel_rfl)
theorem h172:MarksE t172 q172 fuel g172.keep g172.body:=(marksE (l:=[(11,[(1,.any),(3,.any),(5,.any),(7,.any)],(.trim [(1,.any),(3,.any),(5,.any),(6,.any)] (.loop (.mark 13 [(1,.any),(3,.any),(5,.any),(7,.any)] (mOf g172 13)))))]) (by kernel_rfl) (marks_cons o172_11 marks_nil))
theorem e172:FnE t172 q172 fuel g172 N172 (fun d:TImage×W .i64×TMach×Unit=>T_law15_StepNew d.1 d.2.1 d.2.2.1):=fun d k=>by kernel_rfl
theorem e173:FnE t173 q0 fuel g173 N173 (fun d:TMach×Unit=>T_law15_StepPrecise d.1):=fun d k=>by kernel_rfl
end Go.Proofs.YtiadkommiljbpaaGreatDoor
