/- YtchpjkadpdajkaaGreatDoorEq1: the functions' runs are their trees. No statement of the seat is proved here. -/
import Derived.Test.YtchpjkadpdajkaaGreatDoorTabs
set_option linter.unusedSimpArgs false
set_option linter.unusedVariables false
set_option maxRecDepth 100000
namespace Go.Proofs.YtchpjkadpdajkaaGreatDoor
open Go Go.A2
theorem e1:FnE t0 q0 fuel g1 N1 (fun d:W .i64×Unit=>T_inst_Form d.1):=fun d k=>by kernel_rfl
theorem e2:FnE t2 q0 fuel g2 N2 (fun d:W .i64×W .i64×Unit=>T_inst_has d.1 d.2.1):=fun d k=>by kernel_rfl
theorem e3:FnE t0 q0 fuel g3 N3 (fun d:W .i64×W .i64×Unit=>T_inst_within d.1 d.2.1):=fun d k=>by kernel_rfl
theorem e8:FnE t8 q0 fuel g8 N8 (fun d:W .u32×W .i64×W .i64×W .u32×Unit=>T_bits_Put d.1 d.2.1 d.2.2.1 d.2.2.2.1):=fun d k=>by kernel_rfl
theorem e14:FnE t14 q0 fuel g14 N14 (fun d:TImage×W .i64×Unit=>T_step_New d.1 d.2.1):=fun d k=>by kernel_rfl
theorem e19:FnE t19 q0 fuel g19 N19 (fun d:Sl 24 (TBound)×((Unit)×(Unit))×Unit=>T_slices_ContainsFunc_bound_of_core_Conf_1 d.1):=fun d k=>by kernel_rfl
theorem e23:FnE t23 q0 fuel g23 N23 (fun d:TMach×Unit=>T_core_right d.1):=fun d k=>by kernel_rfl
theorem e27:FnE t27 q0 fuel g27 N27 (fun d:W .u64×W .u64×Unit=>T_bits_Mul d.1 d.2.1):=fun d k=>by kernel_rfl
theorem o28_17:Mo t28 q28 g28 17 [(7,.any),(8,.any)] (.trim [(7,.any)] (.loop (.mark 19 [(7,.any),(8,.any)] (mOf g28 19)))):=loop_mark (fnsC_mono _) (m:=K28_17) rfl (by kernel_rfl) (by kernel_rfl) (fun a=>by kernel_rfl) (marksE (by kernel_rfl) marks_nil) (B:=fun a:Sl 1 (W .u8)×W .i64×Unit=>B_slices_Repeat_uint8_17 a.1 a.2.1) (fun a=>by kernel_rfl) (fun a kn kx=>by kernel_rfl)
theorem h28:MarksE t28 q28 fuel g28.keep g28.body:=(marksE (l:=[(17,[(7,.any),(8,.any)],(.trim [(7,.any)] (.loop (.mark 19 [(7,.any),(8,.any)] (mOf g28 19)))))]) (by kernel_rfl) (mcons o28_17 marks_nil))
theorem e28:FnE t28 q28 fuel g28 N28 (fun d:Sl 1 (W .u8)×W .i64×Unit=>T_slices_Repeat_uint8 d.1 d.2.1):=fun d k=>by kernel_rfl
theorem e32:FnE t32 q0 fuel g32 N32 (fun d:TConf×Unit=>T_pred_New d.1):=fun d k=>by kernel_rfl
theorem e39:FnE t39 q0 fuel g39 N39 (fun d:W .i64×Unit=>T_prf_New d.1):=fun d k=>by kernel_rfl
theorem e42:FnE t0 q0 fuel g42 N42 (fun d:TPhys×W .i64×Unit=>T_prf_has d.1 d.2.1):=fun d k=>by kernel_rfl
theorem o47_13:Mo t47 q47 g47 13 [(3,.any),(22,.any),(23,.any)] (.trim [(2,.any)] (.loop (.mark 15 [(3,.any),(22,.any),(23,.any)] (mOf g47 15)))):=loop_mark (fnsC_mono _) (m:=K47_13) rfl (by kernel_rfl) (by kernel_rfl) (fun a=>by kernel_rfl) (marksE (by kernel_rfl) marks_nil) (B:=fun a:W .u32×Arr 3 (TSource)×W .i64×Unit=>B_trap_Pending_13 a.1 a.2.1 a.2.2.1) (fun a=>by kernel_rfl) (fun a kn kx=>by kernel_rfl)
theorem h47:MarksE t47 q47 fuel g47.keep g47.body:=(marksE (l:=[(13,[(3,.any),(22,.any),(23,.any)],(.trim [(2,.any)] (.loop (.mark 15 [(3,.any),(22,.any),(23,.any)] (mOf g47 15)))))]) (by kernel_rfl) (mcons o47_13 marks_nil))
theorem e47:FnE t47 q47 fuel g47 N47 (fun d:TArch×Unit=>T_trap_Pending d.1):=fun d k=>by kernel_rfl
theorem e48:FnE t0 q0 fuel g48 N48 (fun d:W .u32×W .u32×W .u32×Unit=>T_trap_moved d.1 d.2.1 d.2.2.1):=fun d k=>by kernel_rfl
theorem e50:FnE t0 q0 fuel g50 N50 (fun d:TArch×TArch×W .i64×W .u32×Unit=>T_retire_trapped d.1 d.2.1 d.2.2.1 d.2.2.2.1):=fun d k=>by kernel_rfl
theorem e57:FnE t0 q0 fuel g57 N57 (fun d:TFree×Unit=>T_freel_ring_sound d.1):=fun d k=>by kernel_rfl
theorem e61:FnE t61 q0 fuel g61 N61 (fun d:TNames×TRen×Unit=>T_rename_Undo d.1 d.2.1):=fun d k=>by kernel_rfl
theorem e66:FnE t66 q0 fuel g66 N66 (fun d:Sl 224 (TIq)×W .u64×Unit=>T_iq_Cut d.1 d.2.1):=fun d k=>by kernel_rfl
theorem o69_5:Mo t69 q69 g69 5 [(0,.any),(1,.any),(7,.any),(8,.any)] (.trim [(4,.any)] (.loop (.mark 7 [(0,.any),(1,.any),(7,.any),(8,.any)] (mOf g69 7)))):=loop_mark (fnsC_mono _) (m:=K69_5) rfl (by kernel_rfl) (by kernel_rfl) (fun a=>by kernel_rfl) (marksE (by kernel_rfl) marks_nil) (B:=fun a:Sl 48 (TLq)×((Unit)×(W .u64×Unit))×W .i64×W .i64×Unit=>B_slices_IndexFunc_Lq_of_lq_Cut_1_5 a.1 a.2.1.2.1 a.2.2.1 a.2.2.2.1) (fun a=>by kernel_rfl) (fun a kn kx=>by kernel_rfl)
theorem h69:MarksE t69 q69 fuel g69.keep g69.body:=(marksE (l:=[(5,[(0,.any),(1,.any),(7,.any),(8,.any)],(.trim [(4,.any)] (.loop (.mark 7 [(0,.any),(1,.any),(7,.any),(8,.any)] (mOf g69 7)))))]) (by kernel_rfl) (mcons o69_5 marks_nil))
theorem e69:FnE t69 q69 fuel g69 N69 (fun d:Sl 48 (TLq)×((Unit)×(W .u64×Unit))×Unit=>T_slices_IndexFunc_Lq_of_lq_Cut_1 d.1 d.2.1.2.1):=fun d k=>by kernel_rfl
theorem e76:FnE t76 q0 fuel g76 N76 (fun d:Sl 32 (TSq)×W .u64×Unit=>T_sq_Cut d.1 d.2.1):=fun d k=>by kernel_rfl
theorem e81:FnE t81 q0 fuel g81 N81 (fun d:Sl 4 (W .u32)×W .i64×W .u32×Unit=>T_ras_Back d.1 d.2.1 d.2.2.1):=fun d k=>by kernel_rfl
theorem e84:FnE t84 q0 fuel g84 N84 (fun d:TStage×W .i64×W .u32×TEvent×Unit=>T_retire_stage_trap d.1 d.2.1 d.2.2.1 d.2.2.2.1):=fun d k=>by kernel_rfl
theorem e86:FnE t86 q0 fuel g86 N86 (fun d:TArch×W .u32×Unit=>T_trap_Stops d.1 d.2.1):=fun d k=>by kernel_rfl
theorem o88_7:Mo t88 q88 g88 7 [(3,.any),(6,.any),(7,.any),(8,.any)] (.trim [(3,.any)] (.loop (.mark 9 [(3,.any),(6,.any),(7,.any),(8,.any)] (mOf g88 9)))):=loop_mark (fnsC_mono _) (m:=K88_7) rfl (by kernel_rfl) (by kernel_rfl) (fun a=>by kernel_rfl) (marksE (by kernel_rfl) marks_nil) (B:=fun a:W .i64×Sl 248 (TRob)×W .i64×W .i64×Unit=>B_rob_Ready_7 a.1 a.2.1 a.2.2.1 a.2.2.2.1) (fun a=>by kernel_rfl) (fun a kn kx=>by kernel_rfl)
theorem h88:MarksE t88 q88 fuel g88.keep g88.body:=(marksE (l:=[(7,[(3,.any),(6,.any),(7,.any),(8,.any)],(.trim [(3,.any)] (.loop (.mark 9 [(3,.any),(6,.any),(7,.any),(8,.any)] (mOf g88 9)))))]) (by kernel_rfl) (mcons o88_7 marks_nil))
theorem e88:FnE t88 q88 fuel g88 N88 (fun d:Sl 248 (TRob)×Unit=>T_rob_Ready d.1):=fun d k=>by kernel_rfl
theorem e92:FnE t0 q0 fuel g92 N92 (fun d:TRob×Unit=>T_retire_stage_boundary_1 d.1):=fun d k=>by kernel_rfl
theorem e98:FnE t0 q0 fuel g98 N98 (fun d:TRob×Unit=>T_retire_Event_1 d.1):=fun d k=>by kernel_rfl
theorem o99_5:Mo t99 q99 g99 5 [(0,.any),(1,.any),(7,.any),(8,.any)] (.trim [(4,.any)] (.loop (.mark 7 [(0,.any),(1,.any),(7,.any),(8,.any)] (mOf g99 7)))):=loop_mark (fnsC_mono _) (m:=K99_5) rfl (by kernel_rfl) (by kernel_rfl) (fun a=>by kernel_rfl) (marksE (by kernel_rfl) marks_nil) (B:=fun a:Sl 248 (TRob)×((Unit)×(Unit))×W .i64×W .i64×Unit=>B_slices_IndexFunc_Rob_of_retire_Event_1_5 a.1 a.2.2.1 a.2.2.2.1) (fun a=>by kernel_rfl) (fun a kn kx=>by kernel_rfl)
theorem h99:MarksE t99 q99 fuel g99.keep g99.body:=(marksE (l:=[(5,[(0,.any),(1,.any),(7,.any),(8,.any)],(.trim [(4,.any)] (.loop (.mark 7 [(0,.any),(1,.any),(7,.any),(8,.any)] (mOf g99 7)))))]) (by kernel_rfl) (mcons o99_5 marks_nil))
theorem e99:FnE t99 q99 fuel g99 N99 (fun d:Sl 248 (TRob)×((Unit)×(Unit))×Unit=>T_slices_IndexFunc_Rob_of_retire_Event_1 d.1):=fun d k=>by kernel_rfl
theorem e104:FnE t104 q0 fuel g104 N104 (fun d:TArch×W .i64×Unit=>T_retire_reg d.1 d.2.1):=fun d k=>by kernel_rfl
theorem e112:FnE t112 q0 fuel g112 N112 (fun d:TArch×Unit=>T_trap_Return d.1):=fun d k=>by kernel_rfl
theorem o121_7:Mo t0 q121 g121 7 [(3,.any),(10,.any),(11,.any),(12,.any)] (.trim [(3,.any)] (.loop (.mark 9 [(3,.any),(10,.any),(11,.any),(12,.any)] (mOf g121 9)))):=loop_mark (fnsC_mono _) (m:=K121_7) rfl (by kernel_rfl) (by kernel_rfl) (fun a=>by kernel_rfl) (marksE (by kernel_rfl) marks_nil) (B:=fun a:W .u32×Sl 1 (W .u8)×W .i64×W .i64×Unit=>B_bits_Of_7 a.1 a.2.1 a.2.2.1 a.2.2.2.1) (fun a=>by kernel_rfl) (fun a kn kx=>by kernel_rfl)
theorem h121:MarksE t0 q121 fuel g121.keep g121.body:=(marksE (l:=[(7,[(3,.any),(10,.any),(11,.any),(12,.any)],(.trim [(3,.any)] (.loop (.mark 9 [(3,.any),(10,.any),(11,.any),(12,.any)] (mOf g121 9)))))]) (by kernel_rfl) (mcons o121_7 marks_nil))
theorem e121:FnE t0 q121 fuel g121 N121 (fun d:Sl 1 (W .u8)×Unit=>T_bits_Of d.1):=fun d k=>by kernel_rfl
theorem e122:FnE t122 q0 fuel g122 N122 (fun d:Sl 1 (W .u8)×W .u32×W .i64×Unit=>T_mem_Read d.1 d.2.1 d.2.2.1):=fun d k=>by kernel_rfl
theorem e123:FnE t123 q0 fuel g123 N123 (fun d:W .u32×Unit=>T_pte_Of d.1):=fun d k=>by kernel_rfl
theorem e132:FnE t132 q0 fuel g132 N132 (fun d:TSerial×Unit=>T_retire_serial_fault d.1):=fun d k=>by kernel_rfl
theorem e134:FnE t0 q0 fuel g134 N134 (fun d:W .u32×Unit=>T_mem_LineOf d.1):=fun d k=>by kernel_rfl
theorem e137:FnE t0 q0 fuel g137 N137 (fun d:TWay×W .u32×Unit=>T_cache_Find_1 d.1 d.2.1):=fun d k=>by kernel_rfl
theorem e146:FnE t146 q0 fuel g146 N146 (fun d:W .i64×W .i64×Unit=>T_mesi_Snoop d.1 d.2.1):=fun d k=>by kernel_rfl
theorem e150:FnE t150 q0 fuel g150 N150 (fun d:TCache×W .u32×W .i64×Unit=>T_cache_Set d.1 d.2.1 d.2.2.1):=fun d k=>by kernel_rfl
theorem e152:FnE t152 q0 fuel g152 N152 (fun d:TCache×W .u32×W .i64×Unit=>T_cache_place d.1 d.2.1 d.2.2.1):=fun d k=>by kernel_rfl
theorem e153:FnE t153 q0 fuel g153 N153 (fun d:TCache×W .u32×W .i64×Unit=>T_cache_Read d.1 d.2.1 d.2.2.1):=fun d k=>by kernel_rfl
theorem e162:FnE t0 q0 fuel g162 N162 (fun d:Sl 24 (TTlb)×Unit=>T_tlb_Flush d.1):=fun d k=>by kernel_rfl
theorem e171:FnE t171 q0 fuel g171 N171 (fun d:TArch×Unit=>T_trap_Single d.1):=fun d k=>by kernel_rfl
theorem e172:FnE t172 q0 fuel g172 N172 (fun d:TFree×W .i64×Unit=>T_freel_Give d.1 d.2.1):=fun d k=>by kernel_rfl
theorem e177:FnE t177 q0 fuel g177 N177 (fun d:TCore×TCoh×W .i64×TRob×Unit=>T_retire_Serial d.1 d.2.1 d.2.2.1 d.2.2.2.1):=fun d k=>by kernel_rfl
theorem e178:FnE t0 q0 fuel g178 N178 (fun d:TStage×TRob×Unit=>T_retire_stage_note d.1 d.2.1):=fun d k=>by kernel_rfl
theorem o190_11:Mo t190 q190 g190 11 [(2,.any),(4,.any),(8,.any),(9,.any),(13,.any),(24,.any)] (.trim [(2,.any),(8,.any),(9,.any),(13,.any),(24,.fz)] (.loop (.mark 13 [(2,.any),(4,.any),(8,.any),(9,.any),(13,.any),(24,.any)] (mOf g190 13)))):=loop_mark (fnsC_mono _) (m:=K190_11) rfl (by kernel_rfl) (by kernel_rfl) (fun a=>by kernel_rfl) (marksE (by kernel_rfl) marks_nil) (B:=fun a:W .i64×TCore×TCore×TCoh×Unit×TStage×Unit=>B_retire_Stage_11 a.1 a.2.1 a.2.2.1 a.2.2.2.1 a.2.2.2.2.2.1) (fun a=>by kernel_rfl) (fun a kn kx=>by kernel_rfl)
theorem h190:MarksE t190 q190 fuel g190.keep g190.body:=(marksE (l:=[(11,[(2,.any),(4,.any),(8,.any),(9,.any),(13,.any),(24,.any)],(.trim [(2,.any),(8,.any),(9,.any),(13,.any),(24,.fz)] (.loop (.mark 13 [(2,.any),(4,.any),(8,.any),(9,.any),(13,.any),(24,.any)] (mOf g190 13)))))]) (by kernel_rfl) (mcons o190_11 marks_nil))
theorem e190:FnE t190 q190 fuel g190 N190 (fun d:TCore×TCoh×W .i64×TTick×Unit=>T_retire_Stage d.1 d.2.1 d.2.2.1 d.2.2.2.1):=fun d k=>by kernel_rfl
theorem e191:FnE t191 q0 fuel g191 N191 (fun d:Unit=>T_law48_awake):=fun d k=>by kernel_rfl
theorem e194:FnE t0 q0 fuel g194 N194 (fun d:TArch×W .i64×Unit=>T_ref48_reg d.1 d.2.1):=fun d k=>by kernel_rfl
theorem e200:FnE t200 q0 fuel g200 N200 (fun d:TUop×Arr 3 (W .u32)×Unit=>T_ref32_Data d.1 d.2.1):=fun d k=>by kernel_rfl
end Go.Proofs.YtchpjkadpdajkaaGreatDoor
