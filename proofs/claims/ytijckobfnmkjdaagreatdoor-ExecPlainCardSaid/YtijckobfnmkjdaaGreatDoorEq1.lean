/- YtijckobfnmkjdaaGreatDoorEq1: the functions' runs are their trees. No statement of the seat is proved here. -/
import Derived.Test.YtijckobfnmkjdaaGreatDoorTabs
set_option linter.unusedSimpArgs false
set_option linter.unusedVariables false
set_option maxRecDepth 100000
namespace Go.Proofs.YtijckobfnmkjdaaGreatDoor
open Go Go.A2
theorem e2:FnE t2 q0 fuel g2 N2 (fun d:W .i64×W .i64×Unit=>T_inst_has d.1 d.2.1):=fun d k=>by kernel_rfl
theorem e3:FnE t0 q0 fuel g3 N3 (fun d:W .i64×W .i64×Unit=>T_inst_within d.1 d.2.1):=fun d k=>by kernel_rfl
theorem e6:FnE t0 q0 fuel g6 N6 (fun d:W .i64×Unit=>T_bits_ones d.1):=fun d k=>by kernel_rfl
theorem e10:FnE t10 q0 fuel g10 N10 (fun d:TInst×Unit=>T_inst_Enc d.1):=fun d k=>by kernel_rfl
theorem e19:FnE t19 q0 fuel g19 N19 (fun d:W .i64×W .u32×W .u32×Unit=>T_mul_Do d.1 d.2.1 d.2.2.1):=fun d k=>by kernel_rfl
theorem e20:FnE t0 q0 fuel g20 N20 (fun d:W .u32×W .u32×Unit=>T_div_New d.1 d.2.1):=fun d k=>by kernel_rfl
theorem o23_5:Mo t23 q23 g23 5 [(1,.any),(6,.any),(7,.any)] (.trim [(1,.any)] (.loop (.mark 7 [(1,.any),(6,.any),(7,.any)] (mOf g23 7)))):=loop_mark (fnsC_mono _) (m:=K23_5) rfl (by kernel_rfl) (by kernel_rfl) (fun a=>by kernel_rfl) (marksE (by kernel_rfl) marks_nil) (B:=fun a:TDiv×W .i64×W .i64×Unit=>B_div_Run_5 a.1 a.2.1 a.2.2.1) (fun a=>by kernel_rfl) (fun a kn kx=>by kernel_rfl)
theorem h23:MarksE t23 q23 fuel g23.keep g23.body:=(marksE (l:=[(5,[(1,.any),(6,.any),(7,.any)],(.trim [(1,.any)] (.loop (.mark 7 [(1,.any),(6,.any),(7,.any)] (mOf g23 7)))))]) (by kernel_rfl) (marks_cons o23_5 marks_nil))
theorem e23:FnE t23 q23 fuel g23 N23 (fun d:TDiv×Unit=>T_div_Run d.1):=fun d k=>by kernel_rfl
theorem e24:FnE t0 q0 fuel g24 N24 (fun d:W .u32×Unit=>T_div_away d.1):=fun d k=>by kernel_rfl
theorem e32:FnE t0 q0 fuel g32 N32 (fun d:W .u32×W .i64×Unit=>T_bits_RotateLeft32 d.1 d.2.1):=fun d k=>by kernel_rfl
theorem e34:FnE t34 q0 fuel g34 N34 (fun d:W .i64×W .u32×W .u32×Unit=>T_alu_logic d.1 d.2.1 d.2.2.1):=fun d k=>by kernel_rfl
theorem e35:FnE t35 q0 fuel g35 N35 (fun d:W .i64×W .u32×W .u32×Unit=>T_alu_Do d.1 d.2.1 d.2.2.1):=fun d k=>by kernel_rfl
theorem e38:FnE t0 q0 fuel g38 N38 (fun d:W .i64×W .u32×W .u32×Unit=>T_alu_Taken d.1 d.2.1 d.2.2.1):=fun d k=>by kernel_rfl
theorem e42:FnE t42 q0 fuel g42 N42 (fun d:W .u32×W .i64×Unit=>T_bits_Zext d.1 d.2.1):=fun d k=>by kernel_rfl
theorem o48_13:Mo t48 q48 g48 13 [(3,.any),(11,.any),(12,.any),(13,.any)] (.trim [(2,.any)] (.loop (.mark 15 [(3,.any),(11,.any),(12,.any),(13,.any)] (mOf g48 15)))):=loop_mark (fnsC_mono _) (m:=K48_13) rfl (by kernel_rfl) (by kernel_rfl) (fun a=>by kernel_rfl) (marksE (by kernel_rfl) marks_nil) (B:=fun a:W .i64×Sl 32 (TSeg)×W .i64×W .i64×Unit=>B_rom_Right_13 a.1 a.2.1 a.2.2.1 a.2.2.2.1) (fun a=>by kernel_rfl) (fun a kn kx=>by kernel_rfl)
theorem h48:MarksE t48 q48 fuel g48.keep g48.body:=(marksE (l:=[(13,[(3,.any),(11,.any),(12,.any),(13,.any)],(.trim [(2,.any)] (.loop (.mark 15 [(3,.any),(11,.any),(12,.any),(13,.any)] (mOf g48 15)))))]) (by kernel_rfl) (marks_cons o48_13 marks_nil))
theorem e48:FnE t48 q48 fuel g48 N48 (fun d:TImage×Unit=>T_rom_Right d.1):=fun d k=>by kernel_rfl
theorem e50:FnE t50 q0 fuel g50 N50 (fun d:TImage×W .i64×Unit=>T_step_New d.1 d.2.1):=fun d k=>by kernel_rfl
theorem e52:FnE t52 q0 fuel g52 N52 (fun d:TSlot×W .i64×W .u32×Unit=>T_crack_trap d.1 d.2.1 d.2.2.1):=fun d k=>by kernel_rfl
theorem e62:FnE t0 q0 fuel g62 N62 (fun d:Unit=>T_trap_sources):=fun d k=>by kernel_rfl
theorem e64:FnE t0 q0 fuel g64 N64 (fun d:W .i64×Unit=>T_csr_Masked d.1):=fun d k=>by kernel_rfl
theorem e69:FnE t0 q0 fuel g69 N69 (fun d:W .u32×W .i64×Unit=>T_bits_Aligned d.1 d.2.1):=fun d k=>by kernel_rfl
theorem e70:FnE t70 q0 fuel g70 N70 (fun d:TArch×Unit=>T_walk_Paged d.1):=fun d k=>by kernel_rfl
theorem e78:FnE t0 q0 fuel g78 N78 (fun d:TPte×Unit=>T_pte_Leaf d.1):=fun d k=>by kernel_rfl
theorem e87:FnE t0 q0 fuel g87 N87 (fun d:TWork×W .i64×W .u32×Unit=>T_step_work_put d.1 d.2.1 d.2.2.1):=fun d k=>by kernel_rfl
theorem e89:FnE t0 q0 fuel g89 N89 (fun d:W .i64×Unit=>T_step_sizeOf d.1):=fun d k=>by kernel_rfl
theorem e99:FnE t99 q0 fuel g99 N99 (fun d:TArch×Unit=>T_trap_Return d.1):=fun d k=>by kernel_rfl
theorem e104:FnE t104 q0 fuel g104 N104 (fun d:TMach×W .u32×TInst×Unit=>T_step_does d.1 d.2.1 d.2.2.1):=fun d k=>by kernel_rfl
theorem e105:FnE t0 q0 fuel g105 N105 (fun d:TArch×Unit=>T_csr_Count d.1):=fun d k=>by kernel_rfl
theorem o108_33:Mo t108 q108 g108 33 [(4,.any),(11,.any),(13,.any),(14,.any),(15,.any)] (.trim [(11,.any),(13,.any),(14,.any)] (.loop (.mark 35 [(4,.any),(11,.any),(13,.any),(14,.any),(15,.any)] (mOf g108 35)))):=loop_mark (fnsC_mono _) (m:=K108_33) rfl (by kernel_rfl) (by kernel_rfl) (fun a=>by kernel_rfl) (marksE (by kernel_rfl) marks_nil) (B:=fun a:Arr 16 (W .u32)×TMach×Sl 168 (TUop)×Arr 3 (W .u32)×W .i64×Unit=>B_law32_ExecPlain_33 a.1 a.2.1 a.2.2.1 a.2.2.2.1 a.2.2.2.2.1) (fun a=>by kernel_rfl) (fun a kn kx=>by kernel_rfl)
theorem h108:MarksE t108 q108 fuel g108.keep g108.body:=(marksE (l:=[(33,[(4,.any),(11,.any),(13,.any),(14,.any),(15,.any)],(.trim [(11,.any),(13,.any),(14,.any)] (.loop (.mark 35 [(4,.any),(11,.any),(13,.any),(14,.any),(15,.any)] (mOf g108 35)))))]) (by kernel_rfl) (marks_cons o108_33 marks_nil))
theorem e108:FnE t108 q108 fuel g108 N108 (fun d:TInst×Arr 16 (W .u32)×W .u8×Unit=>T_law32_ExecPlain d.1 d.2.1 d.2.2.1):=fun d k=>by kernel_rfl
end Go.Proofs.YtijckobfnmkjdaaGreatDoor
