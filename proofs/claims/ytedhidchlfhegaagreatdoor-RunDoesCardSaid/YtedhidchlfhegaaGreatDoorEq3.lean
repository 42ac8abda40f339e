/- YtedhidchlfhegaaGreatDoorEq3: the functions' runs are their trees. No statement of the seat is proved here. -/
import Derived.Test.YtedhidchlfhegaaGreatDoorTabs
set_option linter.unusedSimpArgs false
set_option linter.unusedVariables false
set_option maxRecDepth 100000
namespace Go.Proofs.YtedhidchlfhegaaGreatDoor
open Go Go.A2
theorem o3_11:Mo t3 q3 g3 11 [(1,.any),(3,.any)] (.trim [(2,.any)] (.loop (.mark 13 [(1,.any),(3,.any)] (mOf g3 13)))):=loop_mark (fnsC_mono _) (m:=K3_11) rfl (by kernel_rfl) (by kernel_rfl) (fun a=>by kernel_rfl) (marksE (by kernel_rfl) marks_nil) (B:=fun a:TMach×W .i64×Unit=>B_ref15_Right_11 a.1 a.2.1) (fun a=>by kernel_rfl) (fun a kn kx=>by kernel_rfl)
theorem h3:MarksE t3 q3 fuel g3.keep g3.body:=(marksE (l:=[(11,[(1,.any),(3,.any)],(.trim [(2,.any)] (.loop (.mark 13 [(1,.any),(3,.any)] (mOf g3 13)))))]) (by kernel_rfl) (marks_cons o3_11 marks_nil))
theorem e3:FnE t3 q3 fuel g3 N3 (fun d:TMach×Unit=>T_ref15_Right d.1):=fun d k=>by kernel_rfl
theorem e6:FnE t0 q0 fuel g6 N6 (fun d:TArch×Unit=>T_csr_Kernel d.1):=fun d k=>by kernel_rfl
theorem e13:FnE t13 q0 fuel g13 N13 (fun d:TArch×W .u32×Unit=>T_trap_Stops d.1 d.2.1):=fun d k=>by kernel_rfl
theorem e15:FnE t15 q0 fuel g15 N15 (fun d:TArch×Unit=>T_walk_Paged d.1):=fun d k=>by kernel_rfl
theorem e17:FnE t0 q0 fuel g17 N17 (fun d:W .i64×W .i64×W .i64×Unit=>T_bits_clamp d.1 d.2.1 d.2.2.1):=fun d k=>by kernel_rfl
theorem e21:FnE t21 q0 fuel g21 N21 (fun d:W .u32×W .i64×Unit=>T_pte_Index d.1 d.2.1):=fun d k=>by kernel_rfl
theorem e27:FnE t0 q0 fuel g27 N27 (fun d:TPte×Unit=>T_pte_Leaf d.1):=fun d k=>by kernel_rfl
theorem e34:FnE t34 q0 fuel g34 N34 (fun d:TMach×Unit=>T_step_Fetch d.1):=fun d k=>by kernel_rfl
theorem e35:FnE t0 q0 fuel g35 N35 (fun d:W .i64×Unit=>T_inst_Form d.1):=fun d k=>by kernel_rfl
theorem e37:FnE t37 q0 fuel g37 N37 (fun d:W .u32×W .i64×Unit=>T_bits_Zext d.1 d.2.1):=fun d k=>by kernel_rfl
theorem e41:FnE t0 q0 fuel g41 N41 (fun d:W .i64×W .i64×Unit=>T_inst_within d.1 d.2.1):=fun d k=>by kernel_rfl
theorem o42_11:Mo t42 q42 g42 11 [(1,.any),(18,.any),(19,.any)] (.trim [(1,.any),(2,.any)] (.loop (.mark 13 [(1,.any),(18,.any),(19,.any)] (mOf g42 13)))):=loop_mark (fnsC_mono _) (m:=K42_11) rfl (by kernel_rfl) (by kernel_rfl) (fun a=>by kernel_rfl) (marksE (by kernel_rfl) marks_nil) (B:=fun a:TInst×Arr 3 (TS141)×W .i64×Unit=>B_inst_Right_11 a.1 a.2.1 a.2.2.1) (fun a=>by kernel_rfl) (fun a kn kx=>by kernel_rfl)
theorem h42:MarksE t42 q42 fuel g42.keep g42.body:=(marksE (l:=[(11,[(1,.any),(18,.any),(19,.any)],(.trim [(1,.any),(2,.any)] (.loop (.mark 13 [(1,.any),(18,.any),(19,.any)] (mOf g42 13)))))]) (by kernel_rfl) (marks_cons o42_11 marks_nil))
theorem e42:FnE t42 q42 fuel g42 N42 (fun d:TInst×Unit=>T_inst_Right d.1):=fun d k=>by kernel_rfl
theorem e46:FnE t0 q0 fuel g46 N46 (fun d:W .i64×Unit=>T_inst_Priv d.1):=fun d k=>by kernel_rfl
theorem o49_5:Mo t0 q49 g49 5 [(0,.any),(3,.any)] (.trim [(3,.any)] (.loop (.mark 7 [(0,.any),(3,.any)] (mOf g49 7)))):=loop_mark (fnsC_mono _) (m:=K49_5) rfl (by kernel_rfl) (by kernel_rfl) (fun a=>by kernel_rfl) (marksE (by kernel_rfl) marks_nil) (B:=fun a:W .u32×W .i64×Unit=>B_alu_Pop_5 a.1 a.2.1) (fun a=>by kernel_rfl) (fun a kn kx=>by kernel_rfl)
theorem h49:MarksE t0 q49 fuel g49.keep g49.body:=(marksE (l:=[(5,[(0,.any),(3,.any)],(.trim [(3,.any)] (.loop (.mark 7 [(0,.any),(3,.any)] (mOf g49 7)))))]) (by kernel_rfl) (marks_cons o49_5 marks_nil))
theorem e49:FnE t0 q49 fuel g49 N49 (fun d:W .u32×Unit=>T_alu_Pop d.1):=fun d k=>by kernel_rfl
theorem e52:FnE t0 q0 fuel g52 N52 (fun d:W .u32×Unit=>T_alu_low d.1):=fun d k=>by kernel_rfl
theorem e60:FnE t0 q0 fuel g60 N60 (fun d:W .u32×W .u32×Unit=>T_mul_less d.1 d.2.1):=fun d k=>by kernel_rfl
theorem e62:FnE t0 q0 fuel g62 N62 (fun d:W .u32×W .u32×Unit=>T_div_New d.1 d.2.1):=fun d k=>by kernel_rfl
theorem o65_5:Mo t65 q65 g65 5 [(1,.any),(6,.any),(7,.any)] (.trim [(1,.any)] (.loop (.mark 7 [(1,.any),(6,.any),(7,.any)] (mOf g65 7)))):=loop_mark (fnsC_mono _) (m:=K65_5) rfl (by kernel_rfl) (by kernel_rfl) (fun a=>by kernel_rfl) (marksE (by kernel_rfl) marks_nil) (B:=fun a:TDiv×W .i64×W .i64×Unit=>B_div_Run_5 a.1 a.2.1 a.2.2.1) (fun a=>by kernel_rfl) (fun a kn kx=>by kernel_rfl)
theorem h65:MarksE t65 q65 fuel g65.keep g65.body:=(marksE (l:=[(5,[(1,.any),(6,.any),(7,.any)],(.trim [(1,.any)] (.loop (.mark 7 [(1,.any),(6,.any),(7,.any)] (mOf g65 7)))))]) (by kernel_rfl) (marks_cons o65_5 marks_nil))
theorem e65:FnE t65 q65 fuel g65 N65 (fun d:TDiv×Unit=>T_div_Run d.1):=fun d k=>by kernel_rfl
theorem e76:FnE t76 q0 fuel g76 N76 (fun d:Sl 1 (W .u8)×W .u32×W .i64×W .u32×Unit=>T_mem_Write d.1 d.2.1 d.2.2.1 d.2.2.2.1):=fun d k=>by kernel_rfl
theorem e81:FnE t81 q0 fuel g81 N81 (fun d:TWork×TInst×W .u32×W .u32×Unit=>T_step_work_atOnce d.1 d.2.1 d.2.2.1 d.2.2.2.1):=fun d k=>by kernel_rfl
theorem e83:FnE t83 q0 fuel g83 N83 (fun d:TArch×W .i64×Bool×Unit=>T_csr_may d.1 d.2.1 d.2.2.1):=fun d k=>by kernel_rfl
theorem e84:FnE t84 q0 fuel g84 N84 (fun d:TArch×W .i64×Unit=>T_csr_Read d.1 d.2.1):=fun d k=>by kernel_rfl
theorem o93_13:Mo t0 q93 g93 13 [(0,.any),(3,.any),(4,.any),(5,.any)] (.trim [(0,.any),(3,.any),(4,.any),(5,.any)] (.loop (.mark 15 [(0,.any),(3,.any),(4,.any),(5,.any)] (mOf g93 15)))):=loop_mark (fnsC_mono _) (m:=K93_13) rfl (by kernel_rfl) (by kernel_rfl) (fun a=>by kernel_rfl) (marksE (by kernel_rfl) marks_nil) (B:=fun a:W .i64×Arr 20 (W .u8)×W .u64×W .i64×Unit=>B_num_Dec_13 a.1 a.2.1 a.2.2.1 a.2.2.2.1) (fun a=>by kernel_rfl) (fun a kn kx=>by kernel_rfl)
theorem h93:MarksE t0 q93 fuel g93.keep g93.body:=(marksE (l:=[(13,[(0,.any),(3,.any),(4,.any),(5,.any)],(.trim [(0,.any),(3,.any),(4,.any),(5,.any)] (.loop (.mark 15 [(0,.any),(3,.any),(4,.any),(5,.any)] (mOf g93 15)))))]) (by kernel_rfl) (marks_cons o93_13 marks_nil))
theorem e93:FnE t0 q93 fuel g93 N93 (fun d:W .i64×Unit=>T_num_Dec d.1):=fun d k=>by kernel_rfl
theorem e99:FnE t0 q0 fuel g99 N99 (fun d:W .i64×W .u32×TArch×Unit=>T_run_Replay_1 d.1 d.2.1 d.2.2.1):=fun d k=>by kernel_rfl
theorem e102:FnE t0 q0 fuel g102 N102 (fun d:Sl 16 (TIrq)×Unit=>T_law16_few d.1):=fun d k=>by kernel_rfl
theorem e107:FnE t0 q0 fuel g107 N107 (fun d:W .u32×W .u32×Bool×Unit=>T_ref14_put d.1 d.2.1 d.2.2.1):=fun d k=>by kernel_rfl
theorem e108:FnE t108 q0 fuel g108 N108 (fun d:TArch×W .i64×W .u32×W .u32×Unit=>T_ref14_Take d.1 d.2.1 d.2.2.1 d.2.2.2.1):=fun d k=>by kernel_rfl
theorem e113:FnE t0 q0 fuel g113 N113 (fun d:W .i64×Unit=>T_ref13_Fault d.1):=fun d k=>by kernel_rfl
theorem o118_5:Mo t0 q118 g118 5 [(0,.any),(1,.any),(5,.any)] (.trim [(0,.any)] (.loop (.mark 7 [(0,.any),(1,.any),(5,.any)] (mOf g118 7)))):=loop_mark (fnsC_mono _) (m:=K118_5) rfl (by kernel_rfl) (by kernel_rfl) (fun a=>by kernel_rfl) (marksE (by kernel_rfl) marks_nil) (B:=fun a:W .u32×W .i64×W .i64×Unit=>B_ref12_bit_5 a.1 a.2.1 a.2.2.1) (fun a=>by kernel_rfl) (fun a kn kx=>by kernel_rfl)
theorem h118:MarksE t0 q118 fuel g118.keep g118.body:=(marksE (l:=[(5,[(0,.any),(1,.any),(5,.any)],(.trim [(0,.any)] (.loop (.mark 7 [(0,.any),(1,.any),(5,.any)] (mOf g118 7)))))]) (by kernel_rfl) (marks_cons o118_5 marks_nil))
theorem e118:FnE t0 q118 fuel g118 N118 (fun d:W .u32×W .i64×Unit=>T_ref12_bit d.1 d.2.1):=fun d k=>by kernel_rfl
theorem e120:FnE t120 q0 fuel g120 N120 (fun d:Sl 1 (W .u8)×W .u32×W .u32×Unit=>T_ref13_Walk d.1 d.2.1 d.2.2.1):=fun d k=>by kernel_rfl
theorem e124:FnE t124 q0 fuel g124 N124 (fun d:TArch×Sl 1 (W .u8)×W .u32×W .i64×Unit=>T_ref13_Trans d.1 d.2.1 d.2.2.1 d.2.2.2.1):=fun d k=>by kernel_rfl
theorem e132:FnE t132 q0 fuel g132 N132 (fun d:W .u32×Unit=>T_ref06_Dec d.1):=fun d k=>by kernel_rfl
theorem e133:FnE t0 q0 fuel g133 N133 (fun d:W .i64×Unit=>T_ref06_Priv d.1):=fun d k=>by kernel_rfl
theorem e134:FnE t134 q0 fuel g134 N134 (fun d:TArch×Unit=>T_ref14_Single d.1):=fun d k=>by kernel_rfl
theorem e135:FnE t0 q0 fuel g135 N135 (fun d:W .i64×Unit=>T_ref15_Size d.1):=fun d k=>by kernel_rfl
theorem e138:FnE t138 q0 fuel g138 N138 (fun d:W .u32×W .i64×Unit=>T_ref01_bit d.1 d.2.1):=fun d k=>by kernel_rfl
theorem o139_9:Mo t139 q139 g139 9 [(0,.any),(1,.any),(5,.any),(6,.any)] (.trim [(5,.any)] (.loop (.mark 11 [(0,.any),(1,.any),(5,.any),(6,.any)] (mOf g139 11)))):=loop_mark (fnsC_mono _) (m:=K139_9) rfl (by kernel_rfl) (by kernel_rfl) (fun a=>by kernel_rfl) (marksE (by kernel_rfl) marks_nil) (B:=fun a:W .u32×W .i64×W .u32×W .i64×Unit=>B_ref01_Zext_9 a.1 a.2.1 a.2.2.1 a.2.2.2.1) (fun a=>by kernel_rfl) (fun a kn kx=>by kernel_rfl)
theorem h139:MarksE t139 q139 fuel g139.keep g139.body:=(marksE (l:=[(9,[(0,.any),(1,.any),(5,.any),(6,.any)],(.trim [(5,.any)] (.loop (.mark 11 [(0,.any),(1,.any),(5,.any),(6,.any)] (mOf g139 11)))))]) (by kernel_rfl) (marks_cons o139_9 marks_nil))
theorem e139:FnE t139 q139 fuel g139 N139 (fun d:W .u32×W .i64×Unit=>T_ref01_Zext d.1 d.2.1):=fun d k=>by kernel_rfl
theorem e151:FnE t0 q0 fuel g151 N151 (fun d:W .u32×W .u32×W .u32×Unit=>T_ref03_Cmov d.1 d.2.1 d.2.2.1):=fun d k=>by kernel_rfl
theorem e154:FnE t0 q0 fuel g154 N154 (fun d:W .i64×W .u32×W .u32×Unit=>T_ref05_Do d.1 d.2.1 d.2.2.1):=fun d k=>by kernel_rfl
theorem o161_5:Mo t161 q161 g161 5 [(0,.any),(3,.any)] (.trim [(3,.any)] (.loop (.mark 7 [(0,.any),(3,.any)] (mOf g161 7)))):=loop_mark (fnsC_mono _) (m:=K161_5) rfl (by kernel_rfl) (by kernel_rfl) (fun a=>by kernel_rfl) (marksE (by kernel_rfl) marks_nil) (B:=fun a:W .u32×W .i64×Unit=>B_ref03_Clz_5 a.1 a.2.1) (fun a=>by kernel_rfl) (fun a kn kx=>by kernel_rfl)
theorem h161:MarksE t161 q161 fuel g161.keep g161.body:=(marksE (l:=[(5,[(0,.any),(3,.any)],(.trim [(3,.any)] (.loop (.mark 7 [(0,.any),(3,.any)] (mOf g161 7)))))]) (by kernel_rfl) (marks_cons o161_5 marks_nil))
theorem e161:FnE t161 q161 fuel g161 N161 (fun d:W .u32×Unit=>T_ref03_Clz d.1):=fun d k=>by kernel_rfl
theorem o162_7:Mo t162 q162 g162 7 [(0,.any),(3,.any),(4,.any)] (.trim [(3,.any)] (.loop (.mark 9 [(0,.any),(3,.any),(4,.any)] (mOf g162 9)))):=loop_mark (fnsC_mono _) (m:=K162_7) rfl (by kernel_rfl) (by kernel_rfl) (fun a=>by kernel_rfl) (marksE (by kernel_rfl) marks_nil) (B:=fun a:W .u32×W .i64×W .i64×Unit=>B_ref03_Pop_7 a.1 a.2.1 a.2.2.1) (fun a=>by kernel_rfl) (fun a kn kx=>by kernel_rfl)
theorem h162:MarksE t162 q162 fuel g162.keep g162.body:=(marksE (l:=[(7,[(0,.any),(3,.any),(4,.any)],(.trim [(3,.any)] (.loop (.mark 9 [(0,.any),(3,.any),(4,.any)] (mOf g162 9)))))]) (by kernel_rfl) (marks_cons o162_7 marks_nil))
theorem e162:FnE t162 q162 fuel g162 N162 (fun d:W .u32×Unit=>T_ref03_Pop d.1):=fun d k=>by kernel_rfl
theorem e164:FnE t164 q0 fuel g164 N164 (fun d:W .i64×W .u32×W .u32×Unit=>T_ref03_Do d.1 d.2.1 d.2.2.1):=fun d k=>by kernel_rfl
theorem e168:FnE t168 q0 fuel g168 N168 (fun d:TMach×Unit=>T_ref15_Step d.1):=fun d k=>by kernel_rfl
theorem o170_11:Mo t0 q170 g170 11 [(0,.any),(1,.any),(5,.any)] (.trim [(4,.any)] (.loop (.mark 13 [(0,.any),(1,.any),(5,.any)] (mOf g170 13)))):=loop_mark (fnsC_mono _) (m:=K170_11) rfl (by kernel_rfl) (by kernel_rfl) (fun a=>by kernel_rfl) (marksE (by kernel_rfl) marks_nil) (B:=fun a:Sl 1 (W .u8)×Sl 1 (W .u8)×W .i64×Unit=>B_same_Bytes_11 a.1 a.2.1 a.2.2.1) (fun a=>by kernel_rfl) (fun a kn kx=>by kernel_rfl)
theorem h170:MarksE t0 q170 fuel g170.keep g170.body:=(marksE (l:=[(11,[(0,.any),(1,.any),(5,.any)],(.trim [(4,.any)] (.loop (.mark 13 [(0,.any),(1,.any),(5,.any)] (mOf g170 13)))))]) (by kernel_rfl) (marks_cons o170_11 marks_nil))
theorem e170:FnE t0 q170 fuel g170 N170 (fun d:Sl 1 (W .u8)×Sl 1 (W .u8)×Unit=>T_same_Bytes d.1 d.2.1):=fun d k=>by kernel_rfl
end Go.Proofs.YtedhidchlfhegaaGreatDoor
