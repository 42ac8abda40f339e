/- YtiadkommiljbpaaGreatDoorEq2: the functions' runs are their trees. No statement of the seat is proved here. -/
import Derived.Test.YtiadkommiljbpaaGreatDoorTabs
set_option linter.unusedSimpArgs false
set_option linter.unusedVariables false
set_option maxRecDepth 100000
namespace Go.Proofs.YtiadkommiljbpaaGreatDoor
open Go Go.A2
theorem e1:FnE t0 q0 fuel g1 N1 (fun d:Sl 1 (W .u8)×Unit=>T_ref10_Right d.1):=fun d k=>by kernel_rfl
theorem e2:FnE t0 q0 fuel g2 N2 (fun d:W .i64×Unit=>T_ref11_Masked d.1):=fun d k=>by kernel_rfl
theorem e5:FnE t0 q0 fuel g5 N5 (fun d:Unit=>T_law15_word):=fun d k=>by kernel_rfl
theorem e14:FnE t0 q0 fuel g14 N14 (fun d:W .u32×W .u32×W .u32×Unit=>T_trap_moved d.1 d.2.1 d.2.2.1):=fun d k=>by kernel_rfl
theorem e15:FnE t15 q0 fuel g15 N15 (fun d:TArch×W .i64×W .u32×W .u32×Unit=>T_trap_Take d.1 d.2.1 d.2.2.1 d.2.2.2.1):=fun d k=>by kernel_rfl
theorem e20:FnE t0 q0 fuel g20 N20 (fun d:W .i64×Unit=>T_walk_Fault d.1):=fun d k=>by kernel_rfl
theorem e24:FnE t24 q0 fuel g24 N24 (fun d:W .u32×W .i64×W .i64×Unit=>T_bits_Field d.1 d.2.1 d.2.2.1):=fun d k=>by kernel_rfl
theorem o27_7:Mo t0 q27 g27 7 [(3,.any),(10,.any),(11,.any),(12,.any)] (.trim [(3,.any)] (.loop (.mark 9 [(3,.any),(10,.any),(11,.any),(12,.any)] (mOf g27 9)))):=loop_mark (fnsC_mono _) (m:=K27_7) rfl (by kernel_rfl) (by kernel_rfl) (fun a=>by kernel_rfl) (marksE (by kernel_rfl) marks_nil) (B:=fun a:W .u32×Sl 1 (W .u8)×W .i64×W .i64×Unit=>B_bits_Of_7 a.1 a.2.1 a.2.2.1 a.2.2.2.1) (fun a=>by kernel_rfl) (fun a kn kx=>by kernel_rfl)
theorem h27:MarksE t0 q27 fuel g27.keep g27.body:=(marksE (l:=[(7,[(3,.any),(10,.any),(11,.any),(12,.any)],(.trim [(3,.any)] (.loop (.mark 9 [(3,.any),(10,.any),(11,.any),(12,.any)] (mOf g27 9)))))]) (by kernel_rfl) (marks_cons o27_7 marks_nil))
theorem e27:FnE t0 q27 fuel g27 N27 (fun d:Sl 1 (W .u8)×Unit=>T_bits_Of d.1):=fun d k=>by kernel_rfl
theorem e30:FnE t30 q0 fuel g30 N30 (fun d:TWalker×W .u32×Unit=>T_walk_walker_entry d.1 d.2.1):=fun d k=>by kernel_rfl
theorem e32:FnE t32 q0 fuel g32 N32 (fun d:Sl 1 (W .u8)×W .u32×W .u32×Unit=>T_walk_Walk d.1 d.2.1 d.2.2.1):=fun d k=>by kernel_rfl
theorem e35:FnE t35 q0 fuel g35 N35 (fun d:TPte×W .u32×Unit=>T_pte_Addr d.1 d.2.1):=fun d k=>by kernel_rfl
theorem e36:FnE t36 q0 fuel g36 N36 (fun d:TArch×Sl 1 (W .u8)×W .u32×W .i64×Unit=>T_walk_Trans d.1 d.2.1 d.2.2.1 d.2.2.2.1):=fun d k=>by kernel_rfl
theorem e47:FnE t47 q0 fuel g47 N47 (fun d:W .u32×W .i64×W .i64×W .u32×Unit=>T_bits_Put d.1 d.2.1 d.2.2.1 d.2.2.2.1):=fun d k=>by kernel_rfl
theorem e49:FnE t49 q0 fuel g49 N49 (fun d:W .u32×Unit=>T_inst_Dec d.1):=fun d k=>by kernel_rfl
theorem e51:FnE t0 q0 fuel g51 N51 (fun d:Bool×Unit=>T_alu_one d.1):=fun d k=>by kernel_rfl
theorem e58:FnE t58 q0 fuel g58 N58 (fun d:W .u32×W .i64×Unit=>T_bits_Rot d.1 d.2.1):=fun d k=>by kernel_rfl
theorem e60:FnE t60 q0 fuel g60 N60 (fun d:W .i64×W .u32×W .u32×Unit=>T_alu_Do d.1 d.2.1 d.2.2.1):=fun d k=>by kernel_rfl
theorem e62:FnE t0 q0 fuel g62 N62 (fun d:TMul×Unit=>T_mul_Step d.1):=fun d k=>by kernel_rfl
theorem e71:FnE t71 q0 fuel g71 N71 (fun d:W .i64×W .u32×W .u32×Unit=>T_div_Do d.1 d.2.1 d.2.2.1):=fun d k=>by kernel_rfl
theorem e73:FnE t0 q0 fuel g73 N73 (fun d:TWork×W .i64×W .u32×Unit=>T_step_work_put d.1 d.2.1 d.2.2.1):=fun d k=>by kernel_rfl
theorem e75:FnE t0 q0 fuel g75 N75 (fun d:W .i64×Unit=>T_step_sizeOf d.1):=fun d k=>by kernel_rfl
theorem e76:FnE t0 q0 fuel g76 N76 (fun d:TWork×W .i64×W .u32×Unit=>T_step_work_fails d.1 d.2.1 d.2.2.1):=fun d k=>by kernel_rfl
theorem o79_7:Mo t79 q79 g79 7 [(0,.any),(5,.any),(11,.any),(12,.any)] (.trim [(5,.any)] (.loop (.mark 9 [(0,.any),(5,.any),(11,.any),(12,.any)] (mOf g79 9)))):=loop_mark (fnsC_mono _) (m:=K79_7) rfl (by kernel_rfl) (by kernel_rfl) (fun a=>by kernel_rfl) (marksE (by kernel_rfl) marks_nil) (B:=fun a:W .u32×Sl 1 (W .u8)×W .i64×W .i64×Unit=>B_bits_Bytes_7 a.1 a.2.1 a.2.2.1 a.2.2.2.1) (fun a=>by kernel_rfl) (fun a kn kx=>by kernel_rfl)
theorem h79:MarksE t79 q79 fuel g79.keep g79.body:=(marksE (l:=[(7,[(0,.any),(5,.any),(11,.any),(12,.any)],(.trim [(5,.any)] (.loop (.mark 9 [(0,.any),(5,.any),(11,.any),(12,.any)] (mOf g79 9)))))]) (by kernel_rfl) (marks_cons o79_7 marks_nil))
theorem e79:FnE t79 q79 fuel g79 N79 (fun d:W .u32×W .i64×Unit=>T_bits_Bytes d.1 d.2.1):=fun d k=>by kernel_rfl
theorem e84:FnE t84 q0 fuel g84 N84 (fun d:TWork×TInst×W .u32×W .u32×Unit=>T_step_work_goes d.1 d.2.1 d.2.2.1 d.2.2.2.1):=fun d k=>by kernel_rfl
theorem e86:FnE t86 q0 fuel g86 N86 (fun d:TArch×Unit=>T_trap_Return d.1):=fun d k=>by kernel_rfl
theorem e90:FnE t90 q0 fuel g90 N90 (fun d:TWork×TInst×W .u32×Unit=>T_step_work_system d.1 d.2.1 d.2.2.1):=fun d k=>by kernel_rfl
theorem e94:FnE t94 q0 fuel g94 N94 (fun d:TMach×Unit=>T_step_Step d.1):=fun d k=>by kernel_rfl
theorem o95_11:Mo t0 q95 g95 11 [(0,.any),(1,.any),(12,.any),(13,.any)] (.trim [(4,.any)] (.loop (.mark 13 [(0,.any),(1,.any),(12,.any),(13,.any)] (mOf g95 13)))):=loop_mark (fnsC_mono _) (m:=K95_11) rfl (by kernel_rfl) (by kernel_rfl) (fun a=>by kernel_rfl) (marksE (by kernel_rfl) marks_nil) (B:=fun a:Sl 1 (W .u8)×Sl 1 (W .u8)×W .i64×W .i64×Unit=>B_step_alike_byte_11 a.1 a.2.1 a.2.2.1 a.2.2.2.1) (fun a=>by kernel_rfl) (fun a kn kx=>by kernel_rfl)
theorem h95:MarksE t0 q95 fuel g95.keep g95.body:=(marksE (l:=[(11,[(0,.any),(1,.any),(12,.any),(13,.any)],(.trim [(4,.any)] (.loop (.mark 13 [(0,.any),(1,.any),(12,.any),(13,.any)] (mOf g95 13)))))]) (by kernel_rfl) (marks_cons o95_11 marks_nil))
theorem e95:FnE t0 q95 fuel g95 N95 (fun d:Sl 1 (W .u8)×Sl 1 (W .u8)×Unit=>T_step_alike_byte d.1 d.2.1):=fun d k=>by kernel_rfl
theorem e99:FnE t99 q0 fuel g99 N99 (fun d:Unit=>T_law15_awake):=fun d k=>by kernel_rfl
theorem e103:FnE t0 q0 fuel g103 N103 (fun d:W .u32×W .u32×Bool×Unit=>T_ref14_put d.1 d.2.1 d.2.2.1):=fun d k=>by kernel_rfl
theorem e104:FnE t104 q0 fuel g104 N104 (fun d:TArch×W .i64×W .u32×W .u32×Unit=>T_ref14_Take d.1 d.2.1 d.2.2.1 d.2.2.2.1):=fun d k=>by kernel_rfl
theorem o114_5:Mo t0 q114 g114 5 [(0,.any),(1,.any),(5,.any)] (.trim [(0,.any)] (.loop (.mark 7 [(0,.any),(1,.any),(5,.any)] (mOf g114 7)))):=loop_mark (fnsC_mono _) (m:=K114_5) rfl (by kernel_rfl) (by kernel_rfl) (fun a=>by kernel_rfl) (marksE (by kernel_rfl) marks_nil) (B:=fun a:W .u32×W .i64×W .i64×Unit=>B_ref12_bit_5 a.1 a.2.1 a.2.2.1) (fun a=>by kernel_rfl) (fun a kn kx=>by kernel_rfl)
theorem h114:MarksE t0 q114 fuel g114.keep g114.body:=(marksE (l:=[(5,[(0,.any),(1,.any),(5,.any)],(.trim [(0,.any)] (.loop (.mark 7 [(0,.any),(1,.any),(5,.any)] (mOf g114 7)))))]) (by kernel_rfl) (marks_cons o114_5 marks_nil))
theorem e114:FnE t0 q114 fuel g114 N114 (fun d:W .u32×W .i64×Unit=>T_ref12_bit d.1 d.2.1):=fun d k=>by kernel_rfl
theorem e121:FnE t121 q0 fuel g121 N121 (fun d:TMach×Sl 1 (W .u8)×W .u32×W .i64×W .i64×Unit=>T_ref15_Access d.1 d.2.1 d.2.2.1 d.2.2.2.1 d.2.2.2.2.1):=fun d k=>by kernel_rfl
theorem e130:FnE t130 q0 fuel g130 N130 (fun d:TArch×Unit=>T_ref14_Single d.1):=fun d k=>by kernel_rfl
theorem e131:FnE t0 q0 fuel g131 N131 (fun d:W .i64×Unit=>T_ref15_Size d.1):=fun d k=>by kernel_rfl
theorem e134:FnE t134 q0 fuel g134 N134 (fun d:W .u32×W .i64×Unit=>T_ref01_bit d.1 d.2.1):=fun d k=>by kernel_rfl
theorem o135_9:Mo t135 q135 g135 9 [(0,.any),(1,.any),(5,.any),(6,.any)] (.trim [(5,.any)] (.loop (.mark 11 [(0,.any),(1,.any),(5,.any),(6,.any)] (mOf g135 11)))):=loop_mark (fnsC_mono _) (m:=K135_9) rfl (by kernel_rfl) (by kernel_rfl) (fun a=>by kernel_rfl) (marksE (by kernel_rfl) marks_nil) (B:=fun a:W .u32×W .i64×W .u32×W .i64×Unit=>B_ref01_Zext_9 a.1 a.2.1 a.2.2.1 a.2.2.2.1) (fun a=>by kernel_rfl) (fun a kn kx=>by kernel_rfl)
theorem h135:MarksE t135 q135 fuel g135.keep g135.body:=(marksE (l:=[(9,[(0,.any),(1,.any),(5,.any),(6,.any)],(.trim [(5,.any)] (.loop (.mark 11 [(0,.any),(1,.any),(5,.any),(6,.any)] (mOf g135 11)))))]) (by kernel_rfl) (marks_cons o135_9 marks_nil))
theorem e135:FnE t135 q135 fuel g135 N135 (fun d:W .u32×W .i64×Unit=>T_ref01_Zext d.1 d.2.1):=fun d k=>by kernel_rfl
theorem e143:FnE t143 q0 fuel g143 N143 (fun d:TArch×W .i64×W .u32×Unit=>T_ref11_Write d.1 d.2.1 d.2.2.1):=fun d k=>by kernel_rfl
theorem e147:FnE t0 q0 fuel g147 N147 (fun d:W .u32×W .u32×W .u32×Unit=>T_ref03_Cmov d.1 d.2.1 d.2.2.1):=fun d k=>by kernel_rfl
theorem o153_7:Mo t153 q153 g153 7 [(0,.any),(1,.any),(2,.any),(3,.any),(9,.any),(10,.any)] (.trim [(9,.any)] (.loop (.mark 9 [(0,.any),(1,.any),(2,.any),(3,.any),(9,.any),(10,.any)] (mOf g153 9)))):=loop_mark (fnsC_mono _) (m:=K153_7) rfl (by kernel_rfl) (by kernel_rfl) (fun a=>by kernel_rfl) (marksE (by kernel_rfl) marks_nil) (B:=fun a:W .u32×W .u32×W .u32×W .u32×Arr 32 (W .u32)×W .i64×Unit=>B_ref03_logic_7 a.1 a.2.1 a.2.2.1 a.2.2.2.1 a.2.2.2.2.1 a.2.2.2.2.2.1) (fun a=>by kernel_rfl) (fun a kn kx=>by kernel_rfl)
theorem h153:MarksE t153 q153 fuel g153.keep g153.body:=(marksE (l:=[(7,[(0,.any),(1,.any),(2,.any),(3,.any),(9,.any),(10,.any)],(.trim [(9,.any)] (.loop (.mark 9 [(0,.any),(1,.any),(2,.any),(3,.any),(9,.any),(10,.any)] (mOf g153 9)))))]) (by kernel_rfl) (marks_cons o153_7 marks_nil))
theorem e153:FnE t153 q153 fuel g153 N153 (fun d:W .u32×W .u32×W .u32×W .u32×Unit=>T_ref03_logic d.1 d.2.1 d.2.2.1 d.2.2.2.1):=fun d k=>by kernel_rfl
theorem o158_7:Mo t158 q158 g158 7 [(0,.any),(3,.any),(4,.any)] (.trim [(3,.any)] (.loop (.mark 9 [(0,.any),(3,.any),(4,.any)] (mOf g158 9)))):=loop_mark (fnsC_mono _) (m:=K158_7) rfl (by kernel_rfl) (by kernel_rfl) (fun a=>by kernel_rfl) (marksE (by kernel_rfl) marks_nil) (B:=fun a:W .u32×W .i64×W .i64×Unit=>B_ref03_Pop_7 a.1 a.2.1 a.2.2.1) (fun a=>by kernel_rfl) (fun a kn kx=>by kernel_rfl)
theorem h158:MarksE t158 q158 fuel g158.keep g158.body:=(marksE (l:=[(7,[(0,.any),(3,.any),(4,.any)],(.trim [(3,.any)] (.loop (.mark 9 [(0,.any),(3,.any),(4,.any)] (mOf g158 9)))))]) (by kernel_rfl) (marks_cons o158_7 marks_nil))
theorem e158:FnE t158 q158 fuel g158 N158 (fun d:W .u32×Unit=>T_ref03_Pop d.1):=fun d k=>by kernel_rfl
theorem e160:FnE t160 q0 fuel g160 N160 (fun d:W .i64×W .u32×W .u32×Unit=>T_ref03_Do d.1 d.2.1 d.2.2.1):=fun d k=>by kernel_rfl
theorem e161:FnE t161 q0 fuel g161 N161 (fun d:TArch×TInst×Unit=>T_ref15_value d.1 d.2.1):=fun d k=>by kernel_rfl
theorem o165_11:Mo t0 q165 g165 11 [(0,.any),(1,.any),(5,.any)] (.trim [(4,.any)] (.loop (.mark 13 [(0,.any),(1,.any),(5,.any)] (mOf g165 13)))):=loop_mark (fnsC_mono _) (m:=K165_11) rfl (by kernel_rfl) (by kernel_rfl) (fun a=>by kernel_rfl) (marksE (by kernel_rfl) marks_nil) (B:=fun a:Sl 1 (W .u8)×Sl 1 (W .u8)×W .i64×Unit=>B_same_Bytes_11 a.1 a.2.1 a.2.2.1) (fun a=>by kernel_rfl) (fun a kn kx=>by kernel_rfl)
theorem h165:MarksE t0 q165 fuel g165.keep g165.body:=(marksE (l:=[(11,[(0,.any),(1,.any),(5,.any)],(.trim [(4,.any)] (.loop (.mark 13 [(0,.any),(1,.any),(5,.any)] (mOf g165 13)))))]) (by kernel_rfl) (marks_cons o165_11 marks_nil))
theorem e165:FnE t0 q165 fuel g165 N165 (fun d:Sl 1 (W .u8)×Sl 1 (W .u8)×Unit=>T_same_Bytes d.1 d.2.1):=fun d k=>by kernel_rfl
end Go.Proofs.YtiadkommiljbpaaGreatDoor
