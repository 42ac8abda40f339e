/- YtkddkpmijhionaaGreatDoorEq3: the functions' runs are their trees. No statement of the seat is proved here. -/
import Derived.Test.YtkddkpmijhionaaGreatDoorTabs
set_option linter.unusedSimpArgs false
set_option linter.unusedVariables false
set_option maxRecDepth 100000
namespace Go.Proofs.YtkddkpmijhionaaGreatDoor
open Go Go.A2
theorem e2:FnE t0 q0 fuel g2 N2 (fun d:W .i64×Unit=>T_inst_Form d.1):=fun d k=>by kernel_rfl
theorem e3:FnE t3 q0 fuel g3 N3 (fun d:W .i64×W .i64×Unit=>T_inst_has d.1 d.2.1):=fun d k=>by kernel_rfl
theorem o5_11:Mo t5 q5 g5 11 [(1,.any),(18,.any),(19,.any)] (.trim [(1,.any),(2,.any)] (.loop (.mark 13 [(1,.any),(18,.any),(19,.any)] (mOf g5 13)))):=loop_mark (fnsC_mono _) (m:=K5_11) rfl (by kernel_rfl) (by kernel_rfl) (fun a=>by kernel_rfl) (marksE (by kernel_rfl) marks_nil) (B:=fun a:TInst×Arr 3 (TS214)×W .i64×Unit=>B_inst_Right_11 a.1 a.2.1 a.2.2.1) (fun a=>by kernel_rfl) (fun a kn kx=>by kernel_rfl)
theorem h5:MarksE t5 q5 fuel g5.keep g5.body:=(marksE (l:=[(11,[(1,.any),(18,.any),(19,.any)],(.trim [(1,.any),(2,.any)] (.loop (.mark 13 [(1,.any),(18,.any),(19,.any)] (mOf g5 13)))))]) (by kernel_rfl) (marks_cons o5_11 marks_nil))
theorem e5:FnE t5 q5 fuel g5 N5 (fun d:TInst×Unit=>T_inst_Right d.1):=fun d k=>by kernel_rfl
theorem e10:FnE t10 q0 fuel g10 N10 (fun d:W .i64×Unit=>T_inst_width d.1):=fun d k=>by kernel_rfl
theorem e11:FnE t11 q0 fuel g11 N11 (fun d:TInst×Unit=>T_inst_Enc d.1):=fun d k=>by kernel_rfl
theorem e12:FnE t0 q0 fuel g12 N12 (fun d:TSeg×Unit=>T_rom_end d.1):=fun d k=>by kernel_rfl
theorem o23_5:Mo t23 q23 g23 5 [(1,.any),(6,.any),(7,.any)] (.trim [(1,.any),(2,.any)] (.loop (.mark 7 [(1,.any),(6,.any),(7,.any)] (mOf g23 7)))):=loop_mark (fnsC_mono _) (m:=K23_5) rfl (by kernel_rfl) (by kernel_rfl) (fun a=>by kernel_rfl) (marksE (by kernel_rfl) marks_nil) (B:=fun a:TArch×Arr 12 (W .u32)×W .i64×Unit=>B_core_clean_5 a.1 a.2.1 a.2.2.1) (fun a=>by kernel_rfl) (fun a kn kx=>by kernel_rfl)
theorem h23:MarksE t23 q23 fuel g23.keep g23.body:=(marksE (l:=[(5,[(1,.any),(6,.any),(7,.any)],(.trim [(1,.any),(2,.any)] (.loop (.mark 7 [(1,.any),(6,.any),(7,.any)] (mOf g23 7)))))]) (by kernel_rfl) (marks_cons o23_5 marks_nil))
theorem e23:FnE t23 q23 fuel g23 N23 (fun d:TArch×Unit=>T_core_clean d.1):=fun d k=>by kernel_rfl
theorem e25:FnE t0 q0 fuel g25 N25 (fun d:TMach×Unit=>T_step_Copy d.1):=fun d k=>by kernel_rfl
theorem o29_17:Mo t29 q29 g29 17 [(7,.any),(8,.any)] (.trim [(7,.any)] (.loop (.mark 19 [(7,.any),(8,.any)] (mOf g29 19)))):=loop_mark (fnsC_mono _) (m:=K29_17) rfl (by kernel_rfl) (by kernel_rfl) (fun a=>by kernel_rfl) (marksE (by kernel_rfl) marks_nil) (B:=fun a:Sl 1 (W .u8)×W .i64×Unit=>B_slices_Repeat_uint8_17 a.1 a.2.1) (fun a=>by kernel_rfl) (fun a kn kx=>by kernel_rfl)
theorem h29:MarksE t29 q29 fuel g29.keep g29.body:=(marksE (l:=[(17,[(7,.any),(8,.any)],(.trim [(7,.any)] (.loop (.mark 19 [(7,.any),(8,.any)] (mOf g29 19)))))]) (by kernel_rfl) (marks_cons o29_17 marks_nil))
theorem e29:FnE t29 q29 fuel g29 N29 (fun d:Sl 1 (W .u8)×W .i64×Unit=>T_slices_Repeat_uint8 d.1 d.2.1):=fun d k=>by kernel_rfl
theorem e30:FnE t30 q0 fuel g30 N30 (fun d:W .i64×Unit=>T_pht_New d.1):=fun d k=>by kernel_rfl
theorem e34:FnE t0 q0 fuel g34 N34 (fun d:W .i64×Unit=>T_tlb_New d.1):=fun d k=>by kernel_rfl
theorem e43:FnE t0 q0 fuel g43 N43 (fun d:TPhys×W .i64×Unit=>T_prf_has d.1 d.2.1):=fun d k=>by kernel_rfl
theorem e44:FnE t44 q0 fuel g44 N44 (fun d:TPhys×W .i64×W .u32×Unit=>T_prf_Put d.1 d.2.1 d.2.2.1):=fun d k=>by kernel_rfl
theorem e46:FnE t0 q0 fuel g46 N46 (fun d:Unit=>T_crack_none):=fun d k=>by kernel_rfl
theorem e50:FnE t50 q0 fuel g50 N50 (fun d:W .u32×W .i64×Unit=>T_bits_Sext d.1 d.2.1):=fun d k=>by kernel_rfl
theorem e63:FnE t0 q0 fuel g63 N63 (fun d:TUop×W .i64×Unit=>T_place_of_1 d.1 d.2.1):=fun d k=>by kernel_rfl
theorem o64_7:Mo t64 q64 g64 7 [(1,.any),(5,.any),(8,.any),(9,.any),(10,.any)] (.trim [(5,.any)] (.loop (.mark 9 [(1,.any),(5,.any),(8,.any),(9,.any),(10,.any)] (mOf g64 9)))):=loop_mark (fnsC_mono _) (m:=K64_7) rfl (by kernel_rfl) (by kernel_rfl) (fun a=>by kernel_rfl) (marksE (by kernel_rfl) marks_nil) (B:=fun a:((Unit)×(W .i64×Unit))×W .i64×Sl 168 (TUop)×W .i64×W .i64×Unit=>B_place_many_v1_7 a.1.2.1 a.2.1 a.2.2.1 a.2.2.2.1 a.2.2.2.2.1) (fun a=>by kernel_rfl) (fun a kn kx=>by kernel_rfl)
theorem h64:MarksE t64 q64 fuel g64.keep g64.body:=(marksE (l:=[(7,[(1,.any),(5,.any),(8,.any),(9,.any),(10,.any)],(.trim [(5,.any)] (.loop (.mark 9 [(1,.any),(5,.any),(8,.any),(9,.any),(10,.any)] (mOf g64 9)))))]) (by kernel_rfl) (marks_cons o64_7 marks_nil))
theorem e64:FnE t64 q64 fuel g64 N64 (fun d:Sl 168 (TUop)×((Unit)×(W .i64×Unit))×Unit=>T_place_many_v1 d.1 d.2.1.2.1):=fun d k=>by kernel_rfl
theorem e65:FnE t0 q0 fuel g65 N65 (fun d:TUop×Unit=>T_place_writes d.1):=fun d k=>by kernel_rfl
theorem e67:FnE t0 q0 fuel g67 N67 (fun d:TFree×Unit=>T_freel_ring_sound d.1):=fun d k=>by kernel_rfl
theorem e75:FnE t75 q0 fuel g75 N75 (fun d:Arr 16 (W .i64)×W .i64×W .i64×Unit=>T_rat_Set d.1 d.2.1 d.2.2.1):=fun d k=>by kernel_rfl
theorem o76_7:Mo t76 q76 g76 7 [(2,.any),(3,.any),(4,.any),(5,.any),(7,.any),(18,.any),(19,.any)] (.trim [(2,.any),(3,.any),(4,.any),(5,.any),(7,.any)] (.loop (.mark 9 [(2,.any),(3,.any),(4,.any),(5,.any),(7,.any),(18,.any),(19,.any)] (mOf g76 9)))):=loop_mark (fnsC_mono _) (m:=K76_7) rfl (by kernel_rfl) (by kernel_rfl) (fun a=>by kernel_rfl) (marksE (by kernel_rfl) marks_nil) (B:=fun a:TNames×TUop×TNames×TRen×TRen×Arr 3 (W .i64)×W .i64×Unit=>B_rename_One_7 a.1 a.2.1 a.2.2.1 a.2.2.2.1 a.2.2.2.2.1 a.2.2.2.2.2.1 a.2.2.2.2.2.2.1) (fun a=>by kernel_rfl) (fun a kn kx=>by kernel_rfl)
theorem h76:MarksE t76 q76 fuel g76.keep g76.body:=(marksE (l:=[(7,[(2,.any),(3,.any),(4,.any),(5,.any),(7,.any),(18,.any),(19,.any)],(.trim [(2,.any),(3,.any),(4,.any),(5,.any),(7,.any)] (.loop (.mark 9 [(2,.any),(3,.any),(4,.any),(5,.any),(7,.any),(18,.any),(19,.any)] (mOf g76 9)))))]) (by kernel_rfl) (marks_cons o76_7 marks_nil))
theorem e76:FnE t76 q76 fuel g76 N76 (fun d:TNames×TUop×Unit=>T_rename_One d.1 d.2.1):=fun d k=>by kernel_rfl
theorem e83:FnE t0 q0 fuel g83 N83 (fun d:Sl 224 (TIq)×Sl 224 (TIq)×Bool×Unit=>T_place_kept_Iq d.1 d.2.1 d.2.2.1):=fun d k=>by kernel_rfl
theorem e89:FnE t89 q0 fuel g89 N89 (fun d:Sl 32 (TSq)×W .u64×W .i64×Unit=>T_sq_Put d.1 d.2.1 d.2.2.1):=fun d k=>by kernel_rfl
theorem o91_19:Mo t91 q91 g91 19 [(2,.any),(3,.any),(4,.any),(5,.any),(7,.any),(9,.any),(10,.any),(13,.any),(55,.any),(56,.any)] (.trim [(2,.any),(3,.any),(4,.any),(5,.any),(7,.any),(9,.any),(10,.any),(13,.any)] (.loop (.mark 21 [(2,.any),(3,.any),(4,.any),(5,.any),(7,.any),(9,.any),(10,.any),(13,.any),(55,.any),(56,.any)] (mOf g91 21)))):=loop_mark (fnsC_mono _) (m:=K91_19) rfl (by kernel_rfl) (by kernel_rfl) (fun a=>by kernel_rfl) (marksE (by kernel_rfl) marks_nil) (B:=fun a:TCore×TUop×TCore×TNote×TRen×TConf×W .u32×Arr 3 (Bool)×Arr 3 (W .i64)×W .i64×Unit=>B_place_put_19 a.1 a.2.1 a.2.2.1 a.2.2.2.1 a.2.2.2.2.1 a.2.2.2.2.2.1 a.2.2.2.2.2.2.1 a.2.2.2.2.2.2.2.1 a.2.2.2.2.2.2.2.2.1 a.2.2.2.2.2.2.2.2.2.1) (fun a=>by kernel_rfl) (fun a kn kx=>by kernel_rfl)
theorem h91:MarksE t91 q91 fuel g91.keep g91.body:=(marksE (l:=[(19,[(2,.any),(3,.any),(4,.any),(5,.any),(7,.any),(9,.any),(10,.any),(13,.any),(55,.any),(56,.any)],(.trim [(2,.any),(3,.any),(4,.any),(5,.any),(7,.any),(9,.any),(10,.any),(13,.any)] (.loop (.mark 21 [(2,.any),(3,.any),(4,.any),(5,.any),(7,.any),(9,.any),(10,.any),(13,.any),(55,.any),(56,.any)] (mOf g91 21)))))]) (by kernel_rfl) (marks_cons o91_19 marks_nil))
theorem e91:FnE t91 q91 fuel g91 N91 (fun d:TCore×TUop×Unit=>T_place_put d.1 d.2.1):=fun d k=>by kernel_rfl
theorem e93:FnE t93 q0 fuel g93 N93 (fun d:Unit=>T_law45_awake):=fun d k=>by kernel_rfl
theorem e94:FnE t94 q0 fuel g94 N94 (fun d:TCore×Unit=>T_core_rooms d.1):=fun d k=>by kernel_rfl
theorem o98_7:Mo t0 q98 g98 7 [(3,.own),(7,.any),(8,.any),(9,.any)] (.trim [(3,.any)] (.loop (.mark 9 [(3,.own),(7,.any),(8,.any),(9,.any)] (mOf g98 9)))):=loop_mark (fnsC_mono _) (m:=K98_7) rfl (by kernel_rfl) (by kernel_rfl) (fun a=>by kernel_rfl) (marksE (by kernel_rfl) marks_nil) (B:=fun a:Sl 216 (TRen)×Sl 248 (TRob)×W .i64×W .i64×Unit=>B_core_rens_7 a.1 a.2.1 a.2.2.1 a.2.2.2.1) (fun a=>by kernel_rfl) (fun a kn kx=>by kernel_rfl)
theorem h98:MarksE t0 q98 fuel g98.keep g98.body:=(marksE (l:=[(7,[(3,.own),(7,.any),(8,.any),(9,.any)],(.trim [(3,.any)] (.loop (.mark 9 [(3,.own),(7,.any),(8,.any),(9,.any)] (mOf g98 9)))))]) (by kernel_rfl) (marks_cons o98_7 marks_nil))
theorem e98:FnE t0 q98 fuel g98 N98 (fun d:TCore×Unit=>T_core_rens d.1):=fun d k=>by kernel_rfl
theorem o102_7:Mo t102 q102 g102 7 [(2,.any),(5,.any),(6,.any),(11,.any),(12,.any),(13,.any)] (.trim [(2,.any),(4,.any),(5,.any)] (.loop (.mark 9 [(2,.any),(5,.any),(6,.any),(11,.any),(12,.any),(13,.any)] (mOf g102 9)))):=loop_mark (fnsC_mono _) (m:=K102_7) rfl (by kernel_rfl) (by kernel_rfl) (fun a=>by kernel_rfl) (marksE (by kernel_rfl) marks_nil) (B:=fun a:TNames×Arr 16 (W .i64)×W .u64×Sl 216 (TRen)×W .i64×W .i64×Unit=>B_rename_steps_7 a.1 a.2.1 a.2.2.1 a.2.2.2.1 a.2.2.2.2.1 a.2.2.2.2.2.1) (fun a=>by kernel_rfl) (fun a kn kx=>by kernel_rfl)
theorem h102:MarksE t102 q102 fuel g102.keep g102.body:=(marksE (l:=[(7,[(2,.any),(5,.any),(6,.any),(11,.any),(12,.any),(13,.any)],(.trim [(2,.any),(4,.any),(5,.any)] (.loop (.mark 9 [(2,.any),(5,.any),(6,.any),(11,.any),(12,.any),(13,.any)] (mOf g102 9)))))]) (by kernel_rfl) (marks_cons o102_7 marks_nil))
theorem e102:FnE t102 q102 fuel g102 N102 (fun d:TNames×Sl 216 (TRen)×Unit=>T_rename_steps d.1 d.2.1):=fun d k=>by kernel_rfl
theorem e110:FnE t0 q0 fuel g110 N110 (fun d:TRen×TRen×Unit=>T_core_apart_1_1 d.1 d.2.1):=fun d k=>by kernel_rfl
theorem o114_5:Mo t114 q114 g114 5 [(0,.any),(1,.any),(7,.any),(8,.any)] (.trim [(4,.any)] (.loop (.mark 7 [(0,.any),(1,.any),(7,.any),(8,.any)] (mOf g114 7)))):=loop_mark (fnsC_mono _) (m:=K114_5) rfl (by kernel_rfl) (by kernel_rfl) (fun a=>by kernel_rfl) (marksE (by kernel_rfl) marks_nil) (B:=fun a:Sl 216 (TRen)×((Unit)×(Sl 216 (TRen)×Unit))×W .i64×W .i64×Unit=>B_slices_IndexFunc_Ren_of_core_apart_1_5 a.1 a.2.1.2.1 a.2.2.1 a.2.2.2.1) (fun a=>by kernel_rfl) (fun a kn kx=>by kernel_rfl)
theorem h114:MarksE t114 q114 fuel g114.keep g114.body:=(marksE (l:=[(5,[(0,.any),(1,.any),(7,.any),(8,.any)],(.trim [(4,.any)] (.loop (.mark 7 [(0,.any),(1,.any),(7,.any),(8,.any)] (mOf g114 7)))))]) (by kernel_rfl) (marks_cons o114_5 marks_nil))
theorem e114:FnE t114 q114 fuel g114 N114 (fun d:Sl 216 (TRen)×((Unit)×(Sl 216 (TRen)×Unit))×Unit=>T_slices_IndexFunc_Ren_of_core_apart_1 d.1 d.2.1.2.1):=fun d k=>by kernel_rfl
theorem e116:FnE t116 q0 fuel g116 N116 (fun d:Sl 216 (TRen)×Sl 216 (TRen)×Unit=>T_core_apart d.1 d.2.1):=fun d k=>by kernel_rfl
theorem o119_11:Mo t119 q119 g119 11 [(1,.any),(2,.any),(15,.any),(16,.any),(17,.any)] (.trim [(6,.any)] (.loop (.mark 13 [(1,.any),(2,.any),(15,.any),(16,.any),(17,.any)] (mOf g119 13)))):=loop_mark (fnsC_mono _) (m:=K119_11) rfl (by kernel_rfl) (by kernel_rfl) (fun a=>by kernel_rfl) (marksE (by kernel_rfl) marks_nil) (B:=fun a:Sl 8 (W .u64)×((Unit)×(Unit))×Sl 48 (TLq)×W .i64×W .i64×Unit=>B_slices_EqualFunc_Lq_uint64_of_core_memory_1_11 a.1 a.2.2.1 a.2.2.2.1 a.2.2.2.2.1) (fun a=>by kernel_rfl) (fun a kn kx=>by kernel_rfl)
theorem h119:MarksE t119 q119 fuel g119.keep g119.body:=(marksE (l:=[(11,[(1,.any),(2,.any),(15,.any),(16,.any),(17,.any)],(.trim [(6,.any)] (.loop (.mark 13 [(1,.any),(2,.any),(15,.any),(16,.any),(17,.any)] (mOf g119 13)))))]) (by kernel_rfl) (marks_cons o119_11 marks_nil))
theorem e119:FnE t119 q119 fuel g119 N119 (fun d:Sl 48 (TLq)×Sl 8 (W .u64)×((Unit)×(Unit))×Unit=>T_slices_EqualFunc_Lq_uint64_of_core_memory_1 d.1 d.2.1):=fun d k=>by kernel_rfl
theorem e127:FnE t127 q0 fuel g127 N127 (fun d:TCore×Unit=>T_core_valued d.1):=fun d k=>by kernel_rfl
end Go.Proofs.YtkddkpmijhionaaGreatDoor
