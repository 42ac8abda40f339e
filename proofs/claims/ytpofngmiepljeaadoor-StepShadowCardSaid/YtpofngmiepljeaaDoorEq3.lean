/- YtpofngmiepljeaaDoorEq3: the functions' runs are their trees. No statement of the seat is proved here. -/
import Derived.Test.YtpofngmiepljeaaDoorTabs
set_option linter.unusedSimpArgs false
set_option linter.unusedVariables false
set_option maxRecDepth 100000
namespace Go.Proofs.YtpofngmiepljeaaDoor
open Go Go.A2
theorem e2:FnE t0 q0 fuel g2 N2 (fun d:W .i64×Unit=>T_ref11_Masked d.1):=fun d k=>by kernel_rfl
theorem e4:FnE t4 q0 fuel g4 N4 (fun d:TMach×Unit=>T_law15_Light d.1):=fun d k=>by kernel_rfl
theorem e10:FnE t0 q0 fuel g10 N10 (fun d:TArch×Unit=>T_csr_Kernel d.1):=fun d k=>by kernel_rfl
theorem e20:FnE t0 q0 fuel g20 N20 (fun d:W .i64×Unit=>T_walk_Fault d.1):=fun d k=>by kernel_rfl
theorem e21:FnE t0 q0 fuel g21 N21 (fun d:W .i64×W .i64×W .i64×Unit=>T_bits_clamp d.1 d.2.1 d.2.2.1):=fun d k=>by kernel_rfl
theorem e23:FnE t23 q0 fuel g23 N23 (fun d:W .i64×W .i64×Unit=>T_bits_mask d.1 d.2.1):=fun d k=>by kernel_rfl
theorem o27_7:Mo t0 q27 g27 7 [(3,.any),(10,.any),(11,.any),(12,.any)] (.trim [(3,.any)] (.loop (.mark 9 [(3,.any),(10,.any),(11,.any),(12,.any)] (mOf g27 9)))):=loop_mark (fnsC_mono _) (m:=K27_7) rfl (by kernel_rfl) (by kernel_rfl) (fun a=>by kernel_rfl) (marksE (by kernel_rfl) marks_nil) (B:=fun a:W .u32×Sl 1 (W .u8)×W .i64×W .i64×Unit=>B_bits_Of_7 a.1 a.2.1 a.2.2.1 a.2.2.2.1) (fun a=>by kernel_rfl) (fun a kn kx=>by kernel_rfl)
theorem h27:MarksE t0 q27 fuel g27.keep g27.body:=(marksE (l:=[(7,[(3,.any),(10,.any),(11,.any),(12,.any)],(.trim [(3,.any)] (.loop (.mark 9 [(3,.any),(10,.any),(11,.any),(12,.any)] (mOf g27 9)))))]) (by kernel_rfl) (marks_cons o27_7 marks_nil))
theorem e27:FnE t0 q27 fuel g27 N27 (fun d:Sl 1 (W .u8)×Unit=>T_bits_Of d.1):=fun d k=>by kernel_rfl
theorem e31:FnE t0 q0 fuel g31 N31 (fun d:TPte×Unit=>T_pte_Leaf d.1):=fun d k=>by kernel_rfl
theorem e32:FnE t32 q0 fuel g32 N32 (fun d:Sl 1 (W .u8)×W .u32×W .u32×Unit=>T_walk_Walk d.1 d.2.1 d.2.2.1):=fun d k=>by kernel_rfl
theorem e41:FnE t41 q0 fuel g41 N41 (fun d:W .u32×W .i64×Unit=>T_bits_Zext d.1 d.2.1):=fun d k=>by kernel_rfl
theorem e42:FnE t42 q0 fuel g42 N42 (fun d:W .i64×Unit=>T_inst_width d.1):=fun d k=>by kernel_rfl
theorem e45:FnE t0 q0 fuel g45 N45 (fun d:W .i64×W .i64×Unit=>T_inst_within d.1 d.2.1):=fun d k=>by kernel_rfl
theorem o46_11:Mo t46 q46 g46 11 [(1,.any),(18,.any),(19,.any)] (.trim [(1,.any),(2,.any)] (.loop (.mark 13 [(1,.any),(18,.any),(19,.any)] (mOf g46 13)))):=loop_mark (fnsC_mono _) (m:=K46_11) rfl (by kernel_rfl) (by kernel_rfl) (fun a=>by kernel_rfl) (marksE (by kernel_rfl) marks_nil) (B:=fun a:TInst×Arr 3 (TS116)×W .i64×Unit=>B_inst_Right_11 a.1 a.2.1 a.2.2.1) (fun a=>by kernel_rfl) (fun a kn kx=>by kernel_rfl)
theorem h46:MarksE t46 q46 fuel g46.keep g46.body:=(marksE (l:=[(11,[(1,.any),(18,.any),(19,.any)],(.trim [(1,.any),(2,.any)] (.loop (.mark 13 [(1,.any),(18,.any),(19,.any)] (mOf g46 13)))))]) (by kernel_rfl) (marks_cons o46_11 marks_nil))
theorem e46:FnE t46 q46 fuel g46 N46 (fun d:TInst×Unit=>T_inst_Right d.1):=fun d k=>by kernel_rfl
theorem e56:FnE t0 q0 fuel g56 N56 (fun d:W .u32×Unit=>T_alu_low d.1):=fun d k=>by kernel_rfl
theorem e62:FnE t0 q0 fuel g62 N62 (fun d:TMul×Unit=>T_mul_Step d.1):=fun d k=>by kernel_rfl
theorem e65:FnE t65 q0 fuel g65 N65 (fun d:W .i64×W .u32×W .u32×Unit=>T_mul_Do d.1 d.2.1 d.2.2.1):=fun d k=>by kernel_rfl
theorem e66:FnE t0 q0 fuel g66 N66 (fun d:W .u32×W .u32×Unit=>T_div_New d.1 d.2.1):=fun d k=>by kernel_rfl
theorem e70:FnE t0 q0 fuel g70 N70 (fun d:W .u32×Unit=>T_div_away d.1):=fun d k=>by kernel_rfl
theorem e71:FnE t71 q0 fuel g71 N71 (fun d:W .i64×W .u32×W .u32×Unit=>T_div_Do d.1 d.2.1 d.2.2.1):=fun d k=>by kernel_rfl
theorem e77:FnE t77 q0 fuel g77 N77 (fun d:TWork×TInst×W .u32×Unit=>T_step_work_loads d.1 d.2.1 d.2.2.1):=fun d k=>by kernel_rfl
theorem o79_7:Mo t79 q79 g79 7 [(0,.any),(5,.any),(11,.any),(12,.any)] (.trim [(5,.any)] (.loop (.mark 9 [(0,.any),(5,.any),(11,.any),(12,.any)] (mOf g79 9)))):=loop_mark (fnsC_mono _) (m:=K79_7) rfl (by kernel_rfl) (by kernel_rfl) (fun a=>by kernel_rfl) (marksE (by kernel_rfl) marks_nil) (B:=fun a:W .u32×Sl 1 (W .u8)×W .i64×W .i64×Unit=>B_bits_Bytes_7 a.1 a.2.1 a.2.2.1 a.2.2.2.1) (fun a=>by kernel_rfl) (fun a kn kx=>by kernel_rfl)
theorem h79:MarksE t79 q79 fuel g79.keep g79.body:=(marksE (l:=[(7,[(0,.any),(5,.any),(11,.any),(12,.any)],(.trim [(5,.any)] (.loop (.mark 9 [(0,.any),(5,.any),(11,.any),(12,.any)] (mOf g79 9)))))]) (by kernel_rfl) (marks_cons o79_7 marks_nil))
theorem e79:FnE t79 q79 fuel g79 N79 (fun d:W .u32×W .i64×Unit=>T_bits_Bytes d.1 d.2.1):=fun d k=>by kernel_rfl
theorem e81:FnE t81 q0 fuel g81 N81 (fun d:TWork×W .u32×W .i64×W .u32×Unit=>T_step_work_stores d.1 d.2.1 d.2.2.1 d.2.2.2.1):=fun d k=>by kernel_rfl
theorem e83:FnE t0 q0 fuel g83 N83 (fun d:W .i64×W .u32×W .u32×Unit=>T_alu_Taken d.1 d.2.1 d.2.2.1):=fun d k=>by kernel_rfl
theorem e89:FnE t89 q0 fuel g89 N89 (fun d:TArch×W .i64×W .u32×Unit=>T_csr_Write d.1 d.2.1 d.2.2.1):=fun d k=>by kernel_rfl
theorem o96_11:Mo t0 q96 g96 11 [(0,.any),(1,.any),(12,.any),(13,.any)] (.trim [(4,.any)] (.loop (.mark 13 [(0,.any),(1,.any),(12,.any),(13,.any)] (mOf g96 13)))):=loop_mark (fnsC_mono _) (m:=K96_11) rfl (by kernel_rfl) (by kernel_rfl) (fun a=>by kernel_rfl) (marksE (by kernel_rfl) marks_nil) (B:=fun a:Sl 4 (W .u32)×Sl 4 (W .u32)×W .i64×W .i64×Unit=>B_step_alike_uint32_11 a.1 a.2.1 a.2.2.1 a.2.2.2.1) (fun a=>by kernel_rfl) (fun a kn kx=>by kernel_rfl)
theorem h96:MarksE t0 q96 fuel g96.keep g96.body:=(marksE (l:=[(11,[(0,.any),(1,.any),(12,.any),(13,.any)],(.trim [(4,.any)] (.loop (.mark 13 [(0,.any),(1,.any),(12,.any),(13,.any)] (mOf g96 13)))))]) (by kernel_rfl) (marks_cons o96_11 marks_nil))
theorem e96:FnE t0 q96 fuel g96 N96 (fun d:Sl 4 (W .u32)×Sl 4 (W .u32)×Unit=>T_step_alike_uint32 d.1 d.2.1):=fun d k=>by kernel_rfl
end Go.Proofs.YtpofngmiepljeaaDoor
