/- YtchpjkadpdajkaaGreatDoorEq2: the functions' runs are their trees. No statement of the seat is proved here. -/
import Derived.Test.YtchpjkadpdajkaaGreatDoorTabs
set_option linter.unusedSimpArgs false
set_option linter.unusedVariables false
set_option maxRecDepth 100000
namespace Go.Proofs.YtchpjkadpdajkaaGreatDoor
open Go Go.A2
theorem e6:FnE t0 q0 fuel g6 N6 (fun d:W .i64×Unit=>T_bits_ones d.1):=fun d k=>by kernel_rfl
theorem e10:FnE t10 q0 fuel g10 N10 (fun d:TInst×Unit=>T_inst_Enc d.1):=fun d k=>by kernel_rfl
theorem e16:FnE t0 q0 fuel g16 N16 (fun d:TConf×Unit=>T_core_bounds d.1):=fun d k=>by kernel_rfl
theorem o18_5:Mo t18 q18 g18 5 [(0,.any),(1,.any),(7,.any),(8,.any)] (.trim [(4,.any)] (.loop (.mark 7 [(0,.any),(1,.any),(7,.any),(8,.any)] (mOf g18 7)))):=loop_mark (fnsC_mono _) (m:=K18_5) rfl (by kernel_rfl) (by kernel_rfl) (fun a=>by kernel_rfl) (marksE (by kernel_rfl) marks_nil) (B:=fun a:Sl 24 (TBound)×((Unit)×(Unit))×W .i64×W .i64×Unit=>B_slices_IndexFunc_bound_of_core_Conf_1_5 a.1 a.2.2.1 a.2.2.2.1) (fun a=>by kernel_rfl) (fun a kn kx=>by kernel_rfl)
theorem h18:MarksE t18 q18 fuel g18.keep g18.body:=(marksE (l:=[(5,[(0,.any),(1,.any),(7,.any),(8,.any)],(.trim [(4,.any)] (.loop (.mark 7 [(0,.any),(1,.any),(7,.any),(8,.any)] (mOf g18 7)))))]) (by kernel_rfl) (mcons o18_5 marks_nil))
theorem e18:FnE t18 q18 fuel g18 N18 (fun d:Sl 24 (TBound)×((Unit)×(Unit))×Unit=>T_slices_IndexFunc_bound_of_core_Conf_1 d.1):=fun d k=>by kernel_rfl
theorem e20:FnE t20 q0 fuel g20 N20 (fun d:TConf×Unit=>T_core_Conf d.1):=fun d k=>by kernel_rfl
theorem e26:FnE t0 q0 fuel g26 N26 (fun d:W .u64×W .u64×Unit=>T_bits_Mul64 d.1 d.2.1):=fun d k=>by kernel_rfl
theorem e31:FnE t0 q0 fuel g31 N31 (fun d:W .i64×Unit=>T_ras_New d.1):=fun d k=>by kernel_rfl
theorem o35_7:Mo t0 q35 g35 7 [(0,.any),(1,.any),(2,.any)] (.trim [(0,.any),(1,.any)] (.loop (.mark 9 [(0,.any),(1,.any),(2,.any)] (mOf g35 9)))):=loop_mark (fnsC_mono _) (m:=K35_7) rfl (by kernel_rfl) (by kernel_rfl) (fun a=>by kernel_rfl) (marksE (by kernel_rfl) marks_nil) (B:=fun a:Arr 16 (W .i64)×Arr 16 (W .i64)×W .i64×Unit=>B_rat_New_7 a.1 a.2.1 a.2.2.1) (fun a=>by kernel_rfl) (fun a kn kx=>by kernel_rfl)
theorem h35:MarksE t0 q35 fuel g35.keep g35.body:=(marksE (l:=[(7,[(0,.any),(1,.any),(2,.any)],(.trim [(0,.any),(1,.any)] (.loop (.mark 9 [(0,.any),(1,.any),(2,.any)] (mOf g35 9)))))]) (by kernel_rfl) (mcons o35_7 marks_nil))
theorem e35:FnE t0 q35 fuel g35 N35 (fun d:Unit=>T_rat_New):=fun d k=>by kernel_rfl
theorem e37:FnE t37 q0 fuel g37 N37 (fun d:W .i64×Unit=>T_rename_New d.1):=fun d k=>by kernel_rfl
theorem o44_27:Mo t44 q44 g44 27 [(3,.any),(4,.any),(7,.any),(8,.any)] (.trim [(4,.any),(7,.any)] (.loop (.mark 29 [(3,.any),(4,.any),(7,.any),(8,.any)] (mOf g44 29)))):=loop_mark (fnsC_mono _) (m:=K44_27) rfl (by kernel_rfl) (by kernel_rfl) (fun a=>by kernel_rfl) (marksE (by kernel_rfl) marks_nil) (B:=fun a:TMach×TCore×TCore×W .i64×Unit=>B_core_New_27 a.1 a.2.1 a.2.2.1 a.2.2.2.1) (fun a=>by kernel_rfl) (fun a kn kx=>by kernel_rfl)
theorem h44:MarksE t44 q44 fuel g44.keep g44.body:=(marksE (l:=[(27,[(3,.any),(4,.any),(7,.any),(8,.any)],(.trim [(4,.any),(7,.any)] (.loop (.mark 29 [(3,.any),(4,.any),(7,.any),(8,.any)] (mOf g44 29)))))]) (by kernel_rfl) (mcons o44_27 marks_nil))
theorem e44:FnE t44 q44 fuel g44 N44 (fun d:TConf×TMach×Unit=>T_core_New d.1 d.2.1):=fun d k=>by kernel_rfl
theorem e49:FnE t49 q0 fuel g49 N49 (fun d:TArch×W .i64×W .u32×W .u32×Unit=>T_trap_Take d.1 d.2.1 d.2.2.1 d.2.2.2.1):=fun d k=>by kernel_rfl
theorem e51:FnE t0 q0 fuel g51 N51 (fun d:TCore×Unit=>T_flush_oldest d.1):=fun d k=>by kernel_rfl
theorem e55:FnE t0 q0 fuel g55 N55 (fun d:W .i64×Unit=>T_rat_is d.1):=fun d k=>by kernel_rfl
theorem e63:FnE t0 q0 fuel g63 N63 (fun d:TIq×W .u64×Unit=>T_iq_Cut_1 d.1 d.2.1):=fun d k=>by kernel_rfl
theorem o70_13:Mo t70 q70 g70 13 [(0,.any),(1,.any),(5,.any),(6,.any)] (.trim [(0,.any),(5,.any)] (.loop (.mark 15 [(0,.any),(1,.any),(5,.any),(6,.any)] (mOf g70 15)))):=loop_mark (fnsC_mono _) (m:=K70_13) rfl (by kernel_rfl) (by kernel_rfl) (fun a=>by kernel_rfl) (marksE (by kernel_rfl) marks_nil) (B:=fun a:Sl 48 (TLq)×((Unit)×(W .u64×Unit))×W .i64×W .i64×Unit=>B_slices_DeleteFunc_Lq_of_lq_Cut_1_13 a.1 a.2.1.2.1 a.2.2.1 a.2.2.2.1) (fun a=>by kernel_rfl) (fun a kn kx=>by kernel_rfl)
theorem h70:MarksE t70 q70 fuel g70.keep g70.body:=(marksE (l:=[(13,[(0,.any),(1,.any),(5,.any),(6,.any)],(.trim [(0,.any),(5,.any)] (.loop (.mark 15 [(0,.any),(1,.any),(5,.any),(6,.any)] (mOf g70 15)))))]) (by kernel_rfl) (mcons o70_13 marks_nil))
theorem e70:FnE t70 q70 fuel g70 N70 (fun d:Sl 48 (TLq)×((Unit)×(W .u64×Unit))×Unit=>T_slices_DeleteFunc_Lq_of_lq_Cut_1 d.1 d.2.1.2.1):=fun d k=>by kernel_rfl
theorem e73:FnE t0 q0 fuel g73 N73 (fun d:TSq×W .u64×Unit=>T_sq_Cut_1 d.1 d.2.1):=fun d k=>by kernel_rfl
theorem o78_9:Mo t78 q78 g78 9 [(1,.any),(2,.any),(3,.any),(6,.any),(8,.any),(10,.own),(20,.any),(21,.any),(22,.any)] (.trim [(1,.any),(2,.any),(3,.any),(6,.any),(8,.any),(10,.any)] (.loop (.mark 11 [(1,.any),(2,.any),(3,.any),(6,.any),(8,.any),(10,.own),(20,.any),(21,.any),(22,.any)] (mOf g78 11)))):=loop_mark (fnsC_mono _) (m:=K78_9) rfl (by kernel_rfl) (by kernel_rfl) (fun a=>by kernel_rfl) (marksE (by kernel_rfl) marks_nil) (B:=fun a:W .u64×W .u32×TCore×TCore×Sl 248 (TRob)×Sl 32 (TNote)×Sl 248 (TRob)×W .i64×W .i64×Unit=>B_flush_After_9 a.1 a.2.1 a.2.2.1 a.2.2.2.1 a.2.2.2.2.1 a.2.2.2.2.2.1 a.2.2.2.2.2.2.1 a.2.2.2.2.2.2.2.1 a.2.2.2.2.2.2.2.2.1) (fun a=>by kernel_rfl) (fun a kn kx=>by kernel_rfl)
theorem h78:MarksE t78 q78 fuel g78.keep g78.body:=(marksE (l:=[(9,[(1,.any),(2,.any),(3,.any),(6,.any),(8,.any),(10,.own),(20,.any),(21,.any),(22,.any)],(.trim [(1,.any),(2,.any),(3,.any),(6,.any),(8,.any),(10,.any)] (.loop (.mark 11 [(1,.any),(2,.any),(3,.any),(6,.any),(8,.any),(10,.own),(20,.any),(21,.any),(22,.any)] (mOf g78 11)))))]) (by kernel_rfl) (mcons o78_9 marks_nil))
theorem e78:FnE t78 q78 fuel g78 N78 (fun d:TCore×W .u64×W .u32×Unit=>T_flush_After d.1 d.2.1 d.2.2.1):=fun d k=>by kernel_rfl
theorem e83:FnE t83 q0 fuel g83 N83 (fun d:TStage×Unit=>T_retire_stage_flush d.1):=fun d k=>by kernel_rfl
theorem o90_5:Mo t90 q90 g90 5 [(0,.any),(1,.any),(7,.any),(8,.any)] (.trim [(4,.any)] (.loop (.mark 7 [(0,.any),(1,.any),(7,.any),(8,.any)] (mOf g90 7)))):=loop_mark (fnsC_mono _) (m:=K90_5) rfl (by kernel_rfl) (by kernel_rfl) (fun a=>by kernel_rfl) (marksE (by kernel_rfl) marks_nil) (B:=fun a:Sl 248 (TRob)×((Unit)×(Unit))×W .i64×W .i64×Unit=>B_slices_IndexFunc_Rob_of_retire_stage_front_1_5 a.1 a.2.2.1 a.2.2.2.1) (fun a=>by kernel_rfl) (fun a kn kx=>by kernel_rfl)
theorem h90:MarksE t90 q90 fuel g90.keep g90.body:=(marksE (l:=[(5,[(0,.any),(1,.any),(7,.any),(8,.any)],(.trim [(4,.any)] (.loop (.mark 7 [(0,.any),(1,.any),(7,.any),(8,.any)] (mOf g90 7)))))]) (by kernel_rfl) (mcons o90_5 marks_nil))
theorem e90:FnE t90 q90 fuel g90 N90 (fun d:Sl 248 (TRob)×((Unit)×(Unit))×Unit=>T_slices_IndexFunc_Rob_of_retire_stage_front_1 d.1):=fun d k=>by kernel_rfl
theorem e91:FnE t91 q0 fuel g91 N91 (fun d:TStage×Unit=>T_retire_stage_front d.1):=fun d k=>by kernel_rfl
theorem e97:FnE t97 q0 fuel g97 N97 (fun d:TStage×Sl 248 (TRob)×Unit=>T_retire_stage_stale d.1 d.2.1):=fun d k=>by kernel_rfl
theorem e100:FnE t0 q0 fuel g100 N100 (fun d:W .i64×Unit=>T_retire_is d.1):=fun d k=>by kernel_rfl
theorem o103_5:Mo t103 q103 g103 5 [(0,.any),(1,.any),(7,.any),(8,.any)] (.trim [(4,.any)] (.loop (.mark 7 [(0,.any),(1,.any),(7,.any),(8,.any)] (mOf g103 7)))):=loop_mark (fnsC_mono _) (m:=K103_5) rfl (by kernel_rfl) (by kernel_rfl) (fun a=>by kernel_rfl) (marksE (by kernel_rfl) marks_nil) (B:=fun a:Sl 248 (TRob)×((Unit)×(Unit))×W .i64×W .i64×Unit=>B_slices_IndexFunc_Rob_of_retire_Event_2_5 a.1 a.2.2.1 a.2.2.2.1) (fun a=>by kernel_rfl) (fun a kn kx=>by kernel_rfl)
theorem h103:MarksE t103 q103 fuel g103.keep g103.body:=(marksE (l:=[(5,[(0,.any),(1,.any),(7,.any),(8,.any)],(.trim [(4,.any)] (.loop (.mark 7 [(0,.any),(1,.any),(7,.any),(8,.any)] (mOf g103 7)))))]) (by kernel_rfl) (mcons o103_5 marks_nil))
theorem e103:FnE t103 q103 fuel g103 N103 (fun d:Sl 248 (TRob)×((Unit)×(Unit))×Unit=>T_slices_IndexFunc_Rob_of_retire_Event_2 d.1):=fun d k=>by kernel_rfl
theorem e105:FnE t0 q0 fuel g105 N105 (fun d:W .i64×Unit=>T_crack_Size d.1):=fun d k=>by kernel_rfl
theorem e108:FnE t108 q0 fuel g108 N108 (fun d:TUop×Arr 3 (W .u32)×Unit=>T_exec_Data d.1 d.2.1):=fun d k=>by kernel_rfl
theorem e115:FnE t115 q0 fuel g115 N115 (fun d:TArch×W .i64×W .u32×Unit=>T_csr_Write d.1 d.2.1 d.2.2.1):=fun d k=>by kernel_rfl
theorem e117:FnE t0 q0 fuel g117 N117 (fun d:W .i64×Unit=>T_walk_Fault d.1):=fun d k=>by kernel_rfl
theorem e118:FnE t118 q0 fuel g118 N118 (fun d:W .u32×W .i64×W .i64×Unit=>T_bits_Field d.1 d.2.1 d.2.2.1):=fun d k=>by kernel_rfl
theorem e120:FnE t0 q0 fuel g120 N120 (fun d:Sl 1 (W .u8)×W .u32×W .i64×Unit=>T_mem_Check d.1 d.2.1 d.2.2.1):=fun d k=>by kernel_rfl
theorem e127:FnE t0 q0 fuel g127 N127 (fun d:TPte×W .i64×Bool×Unit=>T_pte_Allows d.1 d.2.1 d.2.2.1):=fun d k=>by kernel_rfl
theorem e129:FnE t129 q0 fuel g129 N129 (fun d:TPte×W .u32×Unit=>T_pte_Addr d.1 d.2.1):=fun d k=>by kernel_rfl
theorem e131:FnE t131 q0 fuel g131 N131 (fun d:TSerial×Unit=>T_retire_serial_place d.1):=fun d k=>by kernel_rfl
theorem e135:FnE t0 q0 fuel g135 N135 (fun d:TCache×W .u32×Unit=>T_cache_setOf d.1 d.2.1):=fun d k=>by kernel_rfl
theorem e141:FnE t0 q0 fuel g141 N141 (fun d:W .i64×Unit=>T_mesi_known d.1):=fun d k=>by kernel_rfl
theorem e156:FnE t156 q0 fuel g156 N156 (fun d:TCoh×W .i64×TCache×Unit=>T_coh_with d.1 d.2.1 d.2.2.1):=fun d k=>by kernel_rfl
theorem e158:FnE t158 q0 fuel g158 N158 (fun d:TCoh×W .i64×W .u32×W .i64×Unit=>T_coh_Read d.1 d.2.1 d.2.2.1 d.2.2.2.1):=fun d k=>by kernel_rfl
theorem e160:FnE t160 q0 fuel g160 N160 (fun d:TCoh×W .i64×W .u32×W .i64×W .u32×Unit=>T_coh_Write d.1 d.2.1 d.2.2.1 d.2.2.2.1 d.2.2.2.2.1):=fun d k=>by kernel_rfl
theorem e161:FnE t161 q0 fuel g161 N161 (fun d:TSerial×Unit=>T_retire_serial_atomic d.1):=fun d k=>by kernel_rfl
theorem e168:FnE t168 q0 fuel g168 N168 (fun d:TCoh×Unit=>T_coh_View d.1):=fun d k=>by kernel_rfl
theorem e176:FnE t176 q0 fuel g176 N176 (fun d:TSerial×TRob×Unit=>T_retire_serial_ends d.1 d.2.1):=fun d k=>by kernel_rfl
theorem e180:FnE t180 q0 fuel g180 N180 (fun d:Sl 32 (TSq)×W .u64×Unit=>T_sq_Pop d.1 d.2.1):=fun d k=>by kernel_rfl
theorem e181:FnE t0 q0 fuel g181 N181 (fun d:Sl 16 (TSb)×TSq×W .i64×Unit=>T_sb_Put d.1 d.2.1 d.2.2.1):=fun d k=>by kernel_rfl
theorem o184_7:Mo t184 q184 g184 7 [(0,.any),(1,.any),(5,.any),(19,.any),(20,.any),(21,.any)] (.trim [(0,.any),(1,.any),(4,.any),(5,.any)] (.loop (.mark 9 [(0,.any),(1,.any),(5,.any),(19,.any),(20,.any),(21,.any)] (mOf g184 9)))):=loop_mark (fnsC_mono _) (m:=K184_7) rfl (by kernel_rfl) (by kernel_rfl) (fun a=>by kernel_rfl) (marksE (by kernel_rfl) marks_nil) (B:=fun a:TStage×Sl 248 (TRob)×TCore×Sl 248 (TRob)×W .i64×W .i64×Unit=>B_retire_stage_whole_7 a.1 a.2.1 a.2.2.1 a.2.2.2.1 a.2.2.2.2.1 a.2.2.2.2.2.1) (fun a=>by kernel_rfl) (fun a kn kx=>by kernel_rfl)
theorem o184_32:Mo t184 q184 g184 32 [(0,.any),(1,.any),(5,.any),(9,.any),(10,.any),(57,.any),(58,.any)] (.trim [(0,.any),(1,.any),(5,.any),(9,.any),(10,.any)] (.loop (.mark 34 [(0,.any),(1,.any),(5,.any),(9,.any),(10,.any),(57,.any),(58,.any)] (mOf g184 34)))):=loop_mark (fnsC_mono _) (m:=K184_32) rfl (by kernel_rfl) (by kernel_rfl) (fun a=>by kernel_rfl) (marksE (by kernel_rfl) marks_nil) (B:=fun a:TStage×Sl 248 (TRob)×TCore×TEvent×Bool×Arr 2 (TS305)×W .i64×Unit=>B_retire_stage_whole_32 a.1 a.2.1 a.2.2.1 a.2.2.2.1 a.2.2.2.2.1 a.2.2.2.2.2.1 a.2.2.2.2.2.2.1) (fun a=>by kernel_rfl) (fun a kn kx=>by kernel_rfl)
theorem o184_57:Mo t184 q184 g184 57 [(0,.any),(5,.any),(9,.any),(10,.any),(91,.any),(92,.any),(93,.any)] (.trim [(0,.any),(5,.any),(9,.any),(10,.any)] (.loop (.mark 59 [(0,.any),(5,.any),(9,.any),(10,.any),(91,.any),(92,.any),(93,.any)] (mOf g184 59)))):=loop_mark (fnsC_mono _) (m:=K184_57) rfl (by kernel_rfl) (by kernel_rfl) (fun a=>by kernel_rfl) (marksE (by kernel_rfl) marks_nil) (B:=fun a:TStage×TCore×TEvent×Bool×Sl 248 (TRob)×W .i64×W .i64×Unit=>B_retire_stage_whole_57 a.1 a.2.1 a.2.2.1 a.2.2.2.1 a.2.2.2.2.1 a.2.2.2.2.2.1 a.2.2.2.2.2.2.1) (fun a=>by kernel_rfl) (fun a kn kx=>by kernel_rfl)
theorem h184:MarksE t184 q184 fuel g184.keep g184.body:=(marksE (l:=[(7,[(0,.any),(1,.any),(5,.any),(19,.any),(20,.any),(21,.any)],(.trim [(0,.any),(1,.any),(4,.any),(5,.any)] (.loop (.mark 9 [(0,.any),(1,.any),(5,.any),(19,.any),(20,.any),(21,.any)] (mOf g184 9))))),(32,[(0,.any),(1,.any),(5,.any),(9,.any),(10,.any),(57,.any),(58,.any)],(.trim [(0,.any),(1,.any),(5,.any),(9,.any),(10,.any)] (.loop (.mark 34 [(0,.any),(1,.any),(5,.any),(9,.any),(10,.any),(57,.any),(58,.any)] (mOf g184 34))))),(57,[(0,.any),(5,.any),(9,.any),(10,.any),(91,.any),(92,.any),(93,.any)],(.trim [(0,.any),(5,.any),(9,.any),(10,.any)] (.loop (.mark 59 [(0,.any),(5,.any),(9,.any),(10,.any),(91,.any),(92,.any),(93,.any)] (mOf g184 59)))))]) (by kernel_rfl) (mcons o184_7 (mcons o184_32 (mcons o184_57 marks_nil))))
theorem e184:FnE t184 q184 fuel g184 N184 (fun d:TStage×Sl 248 (TRob)×Unit=>T_retire_stage_whole d.1 d.2.1):=fun d k=>by kernel_rfl
theorem o192_5:Mo t0 q192 g192 5 [(0,.any),(3,.any)] (.trim [(2,.any)] (.loop (.mark 7 [(0,.any),(3,.any)] (mOf g192 7)))):=loop_mark (fnsC_mono _) (m:=K192_5) rfl (by kernel_rfl) (by kernel_rfl) (fun a=>by kernel_rfl) (marksE (by kernel_rfl) marks_nil) (B:=fun a:Sl 248 (TRob)×W .i64×Unit=>B_ref48_caused_5 a.1 a.2.1) (fun a=>by kernel_rfl) (fun a kn kx=>by kernel_rfl)
theorem h192:MarksE t0 q192 fuel g192.keep g192.body:=(marksE (l:=[(5,[(0,.any),(3,.any)],(.trim [(2,.any)] (.loop (.mark 7 [(0,.any),(3,.any)] (mOf g192 7)))))]) (by kernel_rfl) (mcons o192_5 marks_nil))
theorem e192:FnE t0 q192 fuel g192 N192 (fun d:Sl 248 (TRob)×Unit=>T_ref48_caused d.1):=fun d k=>by kernel_rfl
theorem e195:FnE t0 q0 fuel g195 N195 (fun d:W .i64×Unit=>T_ref24_Size d.1):=fun d k=>by kernel_rfl
theorem e196:FnE t0 q0 fuel g196 N196 (fun d:W .i64×W .i64×W .i64×Unit=>T_ref01_brought d.1 d.2.1 d.2.2.1):=fun d k=>by kernel_rfl
theorem o201_47:Mo t201 q201 g201 47 [(0,.any),(3,.any),(4,.any),(5,.any),(11,.any)] (.trim [(4,.any),(5,.any)] (.loop (.mark 49 [(0,.any),(3,.any),(4,.any),(5,.any),(11,.any)] (mOf g201 49)))):=loop_mark (fnsC_mono _) (m:=K201_47) rfl (by kernel_rfl) (by kernel_rfl) (fun a=>by kernel_rfl) (marksE (by kernel_rfl) marks_nil) (B:=fun a:Sl 248 (TRob)×TArch×TEvent×TEvent×W .i64×Unit=>B_ref48_Event_47 a.1 a.2.1 a.2.2.1 a.2.2.2.1 a.2.2.2.2.1) (fun a=>by kernel_rfl) (fun a kn kx=>by kernel_rfl)
theorem h201:MarksE t201 q201 fuel g201.keep g201.body:=(marksE (l:=[(47,[(0,.any),(3,.any),(4,.any),(5,.any),(11,.any)],(.trim [(4,.any),(5,.any)] (.loop (.mark 49 [(0,.any),(3,.any),(4,.any),(5,.any),(11,.any)] (mOf g201 49)))))]) (by kernel_rfl) (mcons o201_47 marks_nil))
theorem e201:FnE t201 q201 fuel g201 N201 (fun d:Sl 248 (TRob)×TArch×Unit=>T_ref48_Event d.1 d.2.1):=fun d k=>by kernel_rfl
theorem e202:FnE t202 q0 fuel g202 N202 (fun d:Sl 248 (TRob)×TArch×Unit=>T_law48_RetireTells d.1 d.2.1):=fun d k=>by kernel_rfl
end Go.Proofs.YtchpjkadpdajkaaGreatDoor
