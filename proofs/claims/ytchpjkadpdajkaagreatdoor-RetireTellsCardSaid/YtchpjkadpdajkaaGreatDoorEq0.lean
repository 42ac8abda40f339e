/- YtchpjkadpdajkaaGreatDoorEq0: the functions' runs are their trees. No statement of the seat is proved here. -/
import Derived.Test.YtchpjkadpdajkaaGreatDoorTabs
set_option linter.unusedSimpArgs false
set_option linter.unusedVariables false
set_option maxRecDepth 100000
namespace Go.Proofs.YtchpjkadpdajkaaGreatDoor
open Go Go.A2
theorem e9:FnE t9 q0 fuel g9 N9 (fun d:W .i64×Unit=>T_inst_width d.1):=fun d k=>by kernel_rfl
theorem e11:FnE t0 q0 fuel g11 N11 (fun d:TSeg×Unit=>T_rom_end d.1):=fun d k=>by kernel_rfl
theorem o12_13:Mo t12 q12 g12 13 [(3,.any),(11,.any),(12,.any),(13,.any)] (.trim [(2,.any)] (.loop (.mark 15 [(3,.any),(11,.any),(12,.any),(13,.any)] (mOf g12 15)))):=loop_mark (fnsC_mono _) (m:=K12_13) rfl (by kernel_rfl) (by kernel_rfl) (fun a=>by kernel_rfl) (marksE (by kernel_rfl) marks_nil) (B:=fun a:W .i64×Sl 32 (TSeg)×W .i64×W .i64×Unit=>B_rom_Right_13 a.1 a.2.1 a.2.2.1 a.2.2.2.1) (fun a=>by kernel_rfl) (fun a kn kx=>by kernel_rfl)
theorem h12:MarksE t12 q12 fuel g12.keep g12.body:=(marksE (l:=[(13,[(3,.any),(11,.any),(12,.any),(13,.any)],(.trim [(2,.any)] (.loop (.mark 15 [(3,.any),(11,.any),(12,.any),(13,.any)] (mOf g12 15)))))]) (by kernel_rfl) (mcons o12_13 marks_nil))
theorem e12:FnE t12 q12 fuel g12 N12 (fun d:TImage×Unit=>T_rom_Right d.1):=fun d k=>by kernel_rfl
theorem o13_21:Mo t13 q13 g13 21 [(0,.any),(7,.any),(29,.any),(30,.any),(31,.any)] (.trim [(4,.any),(5,.any),(7,.any)] (.loop (.mark 23 [(0,.any),(7,.any),(29,.any),(30,.any),(31,.any)] (mOf g13 23)))):=loop_mark (fnsC_mono _) (m:=K13_21) rfl (by kernel_rfl) (by kernel_rfl) (fun a=>by kernel_rfl) (marksE (by kernel_rfl) marks_nil) (B:=fun a:W .i64×Sl 1 (W .u8)×Sl 32 (TSeg)×W .i64×W .i64×Unit=>B_rom_Load_21 a.1 a.2.1 a.2.2.1 a.2.2.2.1 a.2.2.2.2.1) (fun a=>by kernel_rfl) (fun a kn kx=>by kernel_rfl)
theorem h13:MarksE t13 q13 fuel g13.keep g13.body:=(marksE (l:=[(21,[(0,.any),(7,.any),(29,.any),(30,.any),(31,.any)],(.trim [(4,.any),(5,.any),(7,.any)] (.loop (.mark 23 [(0,.any),(7,.any),(29,.any),(30,.any),(31,.any)] (mOf g13 23)))))]) (by kernel_rfl) (mcons o13_21 marks_nil))
theorem e13:FnE t13 q13 fuel g13 N13 (fun d:W .i64×TImage×Unit=>T_rom_Load d.1 d.2.1):=fun d k=>by kernel_rfl
theorem e21:FnE t0 q0 fuel g21 N21 (fun d:W .i64×Unit=>T_csr_Masked d.1):=fun d k=>by kernel_rfl
theorem o22_5:Mo t22 q22 g22 5 [(1,.any),(6,.any),(7,.any)] (.trim [(1,.any),(2,.any)] (.loop (.mark 7 [(1,.any),(6,.any),(7,.any)] (mOf g22 7)))):=loop_mark (fnsC_mono _) (m:=K22_5) rfl (by kernel_rfl) (by kernel_rfl) (fun a=>by kernel_rfl) (marksE (by kernel_rfl) marks_nil) (B:=fun a:TArch×Arr 12 (W .u32)×W .i64×Unit=>B_core_clean_5 a.1 a.2.1 a.2.2.1) (fun a=>by kernel_rfl) (fun a kn kx=>by kernel_rfl)
theorem h22:MarksE t22 q22 fuel g22.keep g22.body:=(marksE (l:=[(5,[(1,.any),(6,.any),(7,.any)],(.trim [(1,.any),(2,.any)] (.loop (.mark 7 [(1,.any),(6,.any),(7,.any)] (mOf g22 7)))))]) (by kernel_rfl) (mcons o22_5 marks_nil))
theorem e22:FnE t22 q22 fuel g22 N22 (fun d:TArch×Unit=>T_core_clean d.1):=fun d k=>by kernel_rfl
theorem e24:FnE t0 q0 fuel g24 N24 (fun d:TMach×Unit=>T_step_Copy d.1):=fun d k=>by kernel_rfl
theorem e29:FnE t29 q0 fuel g29 N29 (fun d:W .i64×Unit=>T_pht_New d.1):=fun d k=>by kernel_rfl
theorem e33:FnE t0 q0 fuel g33 N33 (fun d:W .i64×Unit=>T_tlb_New d.1):=fun d k=>by kernel_rfl
theorem o38_17:Mo t38 q38 g38 17 [(7,.any),(8,.any)] (.trim [(7,.any)] (.loop (.mark 19 [(7,.any),(8,.any)] (mOf g38 19)))):=loop_mark (fnsC_mono _) (m:=K38_17) rfl (by kernel_rfl) (by kernel_rfl) (fun a=>by kernel_rfl) (marksE (by kernel_rfl) marks_nil) (B:=fun a:Sl 1 (Bool)×W .i64×Unit=>B_slices_Repeat_bool_17 a.1 a.2.1) (fun a=>by kernel_rfl) (fun a kn kx=>by kernel_rfl)
theorem h38:MarksE t38 q38 fuel g38.keep g38.body:=(marksE (l:=[(17,[(7,.any),(8,.any)],(.trim [(7,.any)] (.loop (.mark 19 [(7,.any),(8,.any)] (mOf g38 19)))))]) (by kernel_rfl) (mcons o38_17 marks_nil))
theorem e38:FnE t38 q38 fuel g38 N38 (fun d:Sl 1 (Bool)×W .i64×Unit=>T_slices_Repeat_bool d.1 d.2.1):=fun d k=>by kernel_rfl
theorem e43:FnE t43 q0 fuel g43 N43 (fun d:TPhys×W .i64×W .u32×Unit=>T_prf_Put d.1 d.2.1 d.2.2.1):=fun d k=>by kernel_rfl
theorem e45:FnE t0 q0 fuel g45 N45 (fun d:TArch×Unit=>T_csr_Kernel d.1):=fun d k=>by kernel_rfl
theorem e56:FnE t56 q0 fuel g56 N56 (fun d:Arr 16 (W .i64)×W .i64×W .i64×Unit=>T_rat_Set d.1 d.2.1 d.2.2.1):=fun d k=>by kernel_rfl
theorem e58:FnE t0 q0 fuel g58 N58 (fun d:TFree×W .i64×Unit=>T_freel_ring_at d.1 d.2.1):=fun d k=>by kernel_rfl
theorem e60:FnE t60 q0 fuel g60 N60 (fun d:TFree×W .i64×Unit=>T_freel_Back d.1 d.2.1):=fun d k=>by kernel_rfl
theorem o65_13:Mo t65 q65 g65 13 [(0,.any),(1,.any),(5,.any),(6,.any)] (.trim [(0,.any),(5,.any)] (.loop (.mark 15 [(0,.any),(1,.any),(5,.any),(6,.any)] (mOf g65 15)))):=loop_mark (fnsC_mono _) (m:=K65_13) rfl (by kernel_rfl) (by kernel_rfl) (fun a=>by kernel_rfl) (marksE (by kernel_rfl) marks_nil) (B:=fun a:Sl 224 (TIq)×((Unit)×(W .u64×Unit))×W .i64×W .i64×Unit=>B_slices_DeleteFunc_Iq_of_iq_Cut_1_13 a.1 a.2.1.2.1 a.2.2.1 a.2.2.2.1) (fun a=>by kernel_rfl) (fun a kn kx=>by kernel_rfl)
theorem h65:MarksE t65 q65 fuel g65.keep g65.body:=(marksE (l:=[(13,[(0,.any),(1,.any),(5,.any),(6,.any)],(.trim [(0,.any),(5,.any)] (.loop (.mark 15 [(0,.any),(1,.any),(5,.any),(6,.any)] (mOf g65 15)))))]) (by kernel_rfl) (mcons o65_13 marks_nil))
theorem e65:FnE t65 q65 fuel g65 N65 (fun d:Sl 224 (TIq)×((Unit)×(W .u64×Unit))×Unit=>T_slices_DeleteFunc_Iq_of_iq_Cut_1 d.1 d.2.1.2.1):=fun d k=>by kernel_rfl
theorem e68:FnE t0 q0 fuel g68 N68 (fun d:TLq×W .u64×Unit=>T_lq_Cut_1 d.1 d.2.1):=fun d k=>by kernel_rfl
theorem o75_13:Mo t75 q75 g75 13 [(0,.any),(1,.any),(5,.any),(6,.any)] (.trim [(0,.any),(5,.any)] (.loop (.mark 15 [(0,.any),(1,.any),(5,.any),(6,.any)] (mOf g75 15)))):=loop_mark (fnsC_mono _) (m:=K75_13) rfl (by kernel_rfl) (by kernel_rfl) (fun a=>by kernel_rfl) (marksE (by kernel_rfl) marks_nil) (B:=fun a:Sl 32 (TSq)×((Unit)×(W .u64×Unit))×W .i64×W .i64×Unit=>B_slices_DeleteFunc_Sq_of_sq_Cut_1_13 a.1 a.2.1.2.1 a.2.2.1 a.2.2.2.1) (fun a=>by kernel_rfl) (fun a kn kx=>by kernel_rfl)
theorem h75:MarksE t75 q75 fuel g75.keep g75.body:=(marksE (l:=[(13,[(0,.any),(1,.any),(5,.any),(6,.any)],(.trim [(0,.any),(5,.any)] (.loop (.mark 15 [(0,.any),(1,.any),(5,.any),(6,.any)] (mOf g75 15)))))]) (by kernel_rfl) (mcons o75_13 marks_nil))
theorem e75:FnE t75 q75 fuel g75 N75 (fun d:Sl 32 (TSq)×((Unit)×(W .u64×Unit))×Unit=>T_slices_DeleteFunc_Sq_of_sq_Cut_1 d.1 d.2.1.2.1):=fun d k=>by kernel_rfl
theorem o77_7:Mo t0 q77 g77 7 [(1,.any),(5,.own),(8,.any),(9,.any),(10,.any)] (.trim [(5,.any)] (.loop (.mark 9 [(1,.any),(5,.own),(8,.any),(9,.any),(10,.any)] (mOf g77 9)))):=loop_mark (fnsC_mono _) (m:=K77_7) rfl (by kernel_rfl) (by kernel_rfl) (fun a=>by kernel_rfl) (marksE (by kernel_rfl) marks_nil) (B:=fun a:W .u64×Sl 256 (TFlight)×Sl 256 (TFlight)×W .i64×W .i64×Unit=>B_unit_Cut_7 a.1 a.2.1 a.2.2.1 a.2.2.2.1 a.2.2.2.2.1) (fun a=>by kernel_rfl) (fun a kn kx=>by kernel_rfl)
theorem h77:MarksE t0 q77 fuel g77.keep g77.body:=(marksE (l:=[(7,[(1,.any),(5,.own),(8,.any),(9,.any),(10,.any)],(.trim [(5,.any)] (.loop (.mark 9 [(1,.any),(5,.own),(8,.any),(9,.any),(10,.any)] (mOf g77 9)))))]) (by kernel_rfl) (mcons o77_7 marks_nil))
theorem e77:FnE t0 q77 fuel g77 N77 (fun d:Sl 256 (TFlight)×W .u64×Unit=>T_unit_Cut d.1 d.2.1):=fun d k=>by kernel_rfl
theorem e79:FnE t0 q0 fuel g79 N79 (fun d:Sl 4 (W .u32)×W .i64×Unit=>T_ras_place d.1 d.2.1):=fun d k=>by kernel_rfl
theorem e85:FnE t85 q0 fuel g85 N85 (fun d:TStage×W .i64×W .u32×Unit=>T_retire_stage_bare d.1 d.2.1 d.2.2.1):=fun d k=>by kernel_rfl
theorem e94:FnE t0 q0 fuel g94 N94 (fun d:TRob×Unit×Unit=>T_retire_stage_stale_1 d.1):=fun d k=>by kernel_rfl
theorem o95_5:Mo t95 q95 g95 5 [(0,.any),(1,.any),(7,.any),(8,.any)] (.trim [(4,.any)] (.loop (.mark 7 [(0,.any),(1,.any),(7,.any),(8,.any)] (mOf g95 7)))):=loop_mark (fnsC_mono _) (m:=K95_5) rfl (by kernel_rfl) (by kernel_rfl) (fun a=>by kernel_rfl) (marksE (by kernel_rfl) marks_nil) (B:=fun a:Sl 248 (TRob)×((Unit)×(Unit×Unit))×W .i64×W .i64×Unit=>B_slices_IndexFunc_Rob_of_retire_stage_stale_1_5 a.1 a.2.2.1 a.2.2.2.1) (fun a=>by kernel_rfl) (fun a kn kx=>by kernel_rfl)
theorem h95:MarksE t95 q95 fuel g95.keep g95.body:=(marksE (l:=[(5,[(0,.any),(1,.any),(7,.any),(8,.any)],(.trim [(4,.any)] (.loop (.mark 7 [(0,.any),(1,.any),(7,.any),(8,.any)] (mOf g95 7)))))]) (by kernel_rfl) (mcons o95_5 marks_nil))
theorem e95:FnE t95 q95 fuel g95 N95 (fun d:Sl 248 (TRob)×((Unit)×(Unit×Unit))×Unit=>T_slices_IndexFunc_Rob_of_retire_stage_stale_1 d.1):=fun d k=>by kernel_rfl
theorem e101:FnE t101 q0 fuel g101 N101 (fun d:TRob×Unit=>T_retire_written d.1):=fun d k=>by kernel_rfl
theorem e102:FnE t0 q0 fuel g102 N102 (fun d:TRob×Unit=>T_retire_Event_2 d.1):=fun d k=>by kernel_rfl
theorem e109:FnE t109 q0 fuel g109 N109 (fun d:Sl 248 (TRob)×TArch×Unit=>T_retire_Event d.1 d.2.1):=fun d k=>by kernel_rfl
theorem e110:FnE t0 q0 fuel g110 N110 (fun d:W .i64×Unit=>T_crack_Serial d.1):=fun d k=>by kernel_rfl
theorem e116:FnE t116 q0 fuel g116 N116 (fun d:TArch×Unit=>T_walk_Paged d.1):=fun d k=>by kernel_rfl
theorem e119:FnE t119 q0 fuel g119 N119 (fun d:W .u32×W .i64×Unit=>T_pte_Index d.1 d.2.1):=fun d k=>by kernel_rfl
theorem e125:FnE t0 q0 fuel g125 N125 (fun d:TPte×Unit=>T_pte_Leaf d.1):=fun d k=>by kernel_rfl
theorem e136:FnE t136 q0 fuel g136 N136 (fun d:TCache×W .u32×Unit=>T_cache_ways d.1 d.2.1):=fun d k=>by kernel_rfl
theorem o138_5:Mo t138 q138 g138 5 [(0,.any),(1,.any),(7,.any),(8,.any)] (.trim [(4,.any)] (.loop (.mark 7 [(0,.any),(1,.any),(7,.any),(8,.any)] (mOf g138 7)))):=loop_mark (fnsC_mono _) (m:=K138_5) rfl (by kernel_rfl) (by kernel_rfl) (fun a=>by kernel_rfl) (marksE (by kernel_rfl) marks_nil) (B:=fun a:Sl 40 (TWay)×((Unit)×(W .u32×Unit))×W .i64×W .i64×Unit=>B_slices_IndexFunc_Way_of_cache_Find_1_5 a.1 a.2.1.2.1 a.2.2.1 a.2.2.2.1) (fun a=>by kernel_rfl) (fun a kn kx=>by kernel_rfl)
theorem h138:MarksE t138 q138 fuel g138.keep g138.body:=(marksE (l:=[(5,[(0,.any),(1,.any),(7,.any),(8,.any)],(.trim [(4,.any)] (.loop (.mark 7 [(0,.any),(1,.any),(7,.any),(8,.any)] (mOf g138 7)))))]) (by kernel_rfl) (mcons o138_5 marks_nil))
theorem e138:FnE t138 q138 fuel g138 N138 (fun d:Sl 40 (TWay)×((Unit)×(W .u32×Unit))×Unit=>T_slices_IndexFunc_Way_of_cache_Find_1 d.1 d.2.1.2.1):=fun d k=>by kernel_rfl
theorem e140:FnE t140 q0 fuel g140 N140 (fun d:TLines×W .i64×Unit=>T_bus_lines_way d.1 d.2.1):=fun d k=>by kernel_rfl
theorem e142:FnE t142 q0 fuel g142 N142 (fun d:W .i64×Unit=>T_mesi_of d.1):=fun d k=>by kernel_rfl
theorem e145:FnE t0 q0 fuel g145 N145 (fun d:TCoh×W .u32×Unit=>T_bus_lies d.1 d.2.1):=fun d k=>by kernel_rfl
theorem e147:FnE t147 q0 fuel g147 N147 (fun d:TCoh×W .i64×TWay×Unit=>T_bus_Back d.1 d.2.1 d.2.2.1):=fun d k=>by kernel_rfl
theorem e159:FnE t159 q0 fuel g159 N159 (fun d:TCache×W .u32×W .i64×W .u32×Unit=>T_cache_Write d.1 d.2.1 d.2.2.1 d.2.2.2.1):=fun d k=>by kernel_rfl
theorem e163:FnE t163 q0 fuel g163 N163 (fun d:TSerial×Unit=>T_retire_serial_forget d.1):=fun d k=>by kernel_rfl
theorem o167_27:Mo t167 q167 g167 27 [(1,.any),(12,.any),(13,.any),(14,.any),(19,.any),(20,.any),(21,.any),(25,.any),(26,.any),(27,.any)] (.trim [(1,.any),(4,.any),(12,.any),(13,.any),(14,.any),(19,.any),(20,.any),(21,.any)] (.loop (.mark 29 [(1,.any),(12,.any),(13,.any),(14,.any),(19,.any),(20,.any),(21,.any),(25,.any),(26,.any),(27,.any)] (mOf g167 29)))):=loop_mark (fnsC_mono _) (m:=K167_27) rfl (by kernel_rfl) (by kernel_rfl) (fun a=>by kernel_rfl) (marksE (by kernel_rfl) marks_nil) (B:=fun a:Sl 1 (W .u8)×Sl 24 (TCache)×W .i64×W .i64×Sl 24 (Sl 40 (TWay))×W .i64×W .i64×Sl 40 (TWay)×W .i64×W .i64×Unit=>B_coh_each_27 a.1 a.2.1 a.2.2.1 a.2.2.2.1 a.2.2.2.2.1 a.2.2.2.2.2.1 a.2.2.2.2.2.2.1 a.2.2.2.2.2.2.2.1 a.2.2.2.2.2.2.2.2.1 a.2.2.2.2.2.2.2.2.2.1) (fun a=>by kernel_rfl) (fun a kn kx=>by kernel_rfl)
theorem o167_16:Mo t167 q167 g167 16 [(1,.any),(12,.any),(13,.any),(14,.any),(19,.any),(20,.any),(21,.any)] (.trim [(1,.any),(4,.any),(12,.any),(13,.any),(14,.any)] (.loop (.mark 18 [(1,.any),(12,.any),(13,.any),(14,.any),(19,.any),(20,.any),(21,.any)] (mOf g167 18)))):=loop_mark (fnsC_mono _) (m:=K167_16) rfl (by kernel_rfl) (by kernel_rfl) (fun a=>by kernel_rfl) (marksE (l:=[(27,[(1,.any),(12,.any),(13,.any),(14,.any),(19,.any),(20,.any),(21,.any),(25,.any),(26,.any),(27,.any)],(.trim [(1,.any),(4,.any),(12,.any),(13,.any),(14,.any),(19,.any),(20,.any),(21,.any)] (.loop (.mark 29 [(1,.any),(12,.any),(13,.any),(14,.any),(19,.any),(20,.any),(21,.any),(25,.any),(26,.any),(27,.any)] (mOf g167 29)))))]) (by kernel_rfl) (mcons o167_27 marks_nil)) (B:=fun a:Sl 1 (W .u8)×Sl 24 (TCache)×W .i64×W .i64×Sl 24 (Sl 40 (TWay))×W .i64×W .i64×Unit=>B_coh_each_16 a.1 a.2.1 a.2.2.1 a.2.2.2.1 a.2.2.2.2.1 a.2.2.2.2.2.1 a.2.2.2.2.2.2.1) (fun a=>by kernel_rfl) (fun a kn kx=>by kernel_rfl)
theorem o167_5:Mo t167 q167 g167 5 [(1,.any),(12,.any),(13,.any),(14,.any)] (.trim [(1,.any),(4,.any)] (.loop (.mark 7 [(1,.any),(12,.any),(13,.any),(14,.any)] (mOf g167 7)))):=loop_mark (fnsC_mono _) (m:=K167_5) rfl (by kernel_rfl) (by kernel_rfl) (fun a=>by kernel_rfl) (marksE (l:=[(16,[(1,.any),(12,.any),(13,.any),(14,.any),(19,.any),(20,.any),(21,.any)],(.trim [(1,.any),(4,.any),(12,.any),(13,.any),(14,.any)] (.loop (.mark 18 [(1,.any),(12,.any),(13,.any),(14,.any),(19,.any),(20,.any),(21,.any)] (mOf g167 18)))))]) (by kernel_rfl) (mcons o167_16 marks_nil)) (B:=fun a:Sl 1 (W .u8)×Sl 24 (TCache)×W .i64×W .i64×Unit=>B_coh_each_5 a.1 a.2.1 a.2.2.1 a.2.2.2.1) (fun a=>by kernel_rfl) (fun a kn kx=>by kernel_rfl)
theorem h167:MarksE t167 q167 fuel g167.keep g167.body:=(marksE (l:=[(5,[(1,.any),(12,.any),(13,.any),(14,.any)],(.trim [(1,.any),(4,.any)] (.loop (.mark 7 [(1,.any),(12,.any),(13,.any),(14,.any)] (mOf g167 7)))))]) (by kernel_rfl) (mcons o167_5 marks_nil))
theorem e167:FnE t167 q167 fuel g167 N167 (fun d:TCoh×Sl 1 (W .u8)×Unit=>T_coh_each d.1 d.2.1):=fun d k=>by kernel_rfl
theorem e170:FnE t0 q0 fuel g170 N170 (fun d:TArch×Unit=>T_csr_Count d.1):=fun d k=>by kernel_rfl
theorem e173:FnE t173 q0 fuel g173 N173 (fun d:TNames×TRen×Unit=>T_rename_Retire d.1 d.2.1):=fun d k=>by kernel_rfl
theorem e185:FnE t185 q0 fuel g185 N185 (fun d:TStage×Unit=>T_retire_stage_boundary d.1):=fun d k=>by kernel_rfl
theorem e186:FnE t186 q0 fuel g186 N186 (fun d:W .u32×W .i64×Unit=>T_bits_Sext d.1 d.2.1):=fun d k=>by kernel_rfl
theorem e187:FnE t187 q0 fuel g187 N187 (fun d:W .i64×W .u32×Unit=>T_inst_number d.1 d.2.1):=fun d k=>by kernel_rfl
theorem e188:FnE t188 q0 fuel g188 N188 (fun d:W .u32×Unit=>T_inst_Dec d.1):=fun d k=>by kernel_rfl
theorem e193:FnE t0 q0 fuel g193 N193 (fun d:TRob×Unit=>T_ref48_dst d.1):=fun d k=>by kernel_rfl
theorem o199_9:Mo t199 q199 g199 9 [(0,.any),(1,.any),(5,.any),(6,.any)] (.trim [(5,.any)] (.loop (.mark 11 [(0,.any),(1,.any),(5,.any),(6,.any)] (mOf g199 11)))):=loop_mark (fnsC_mono _) (m:=K199_9) rfl (by kernel_rfl) (by kernel_rfl) (fun a=>by kernel_rfl) (marksE (by kernel_rfl) marks_nil) (B:=fun a:W .u32×W .i64×W .u32×W .i64×Unit=>B_ref01_Zext_9 a.1 a.2.1 a.2.2.1 a.2.2.2.1) (fun a=>by kernel_rfl) (fun a kn kx=>by kernel_rfl)
theorem h199:MarksE t199 q199 fuel g199.keep g199.body:=(marksE (l:=[(9,[(0,.any),(1,.any),(5,.any),(6,.any)],(.trim [(5,.any)] (.loop (.mark 11 [(0,.any),(1,.any),(5,.any),(6,.any)] (mOf g199 11)))))]) (by kernel_rfl) (mcons o199_9 marks_nil))
theorem e199:FnE t199 q199 fuel g199 N199 (fun d:W .u32×W .i64×Unit=>T_ref01_Zext d.1 d.2.1):=fun d k=>by kernel_rfl
end Go.Proofs.YtchpjkadpdajkaaGreatDoor
