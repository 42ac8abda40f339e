/- YtkddkpmijhionaaGreatDoorEq0: the functions' runs are their trees. No statement of the seat is proved here. -/
import Derived.Test.YtkddkpmijhionaaGreatDoorTabs
set_option linter.unusedSimpArgs false
set_option linter.unusedVariables false
set_option maxRecDepth 100000
namespace Go.Proofs.YtkddkpmijhionaaGreatDoor
open Go Go.A2
theorem o5_11:Mo t5 q5 g5 11 [(1,.any),(18,.any),(19,.any)] (.trim [(1,.any),(2,.any)] (.loop (.mark 13 [(1,.any),(18,.any),(19,.any)] (mOf g5 13)))):=loop_mark (fnsC_mono _) (m:=K5_11) rfl (by kernel_rfl) (by kernel_rfl) (fun a=>by kernel_rfl) (marksE (by kernel_rfl) marks_nil) (B:=fun a:TInst×Arr 3 (TS214)×W .i64×Unit=>B_inst_Right_11 a.1 a.2.1 a.2.2.1) (fun a=>by kernel_rfl) (fun a kn kx=>by kernel_rfl)
theorem h5:MarksE t5 q5 fuel g5.keep g5.body:=(marksE (l:=[(11,[(1,.any),(18,.any),(19,.any)],(.trim [(1,.any),(2,.any)] (.loop (.mark 13 [(1,.any),(18,.any),(19,.any)] (mOf g5 13)))))]) (by kernel_rfl) (marks_cons o5_11 marks_nil))
theorem e5:FnE t5 q5 fuel g5 N5 (fun d:TInst×Unit=>T_inst_Right d.1):=fun d k=>by kernel_rfl
theorem e6:FnE t0 q0 fuel g6 N6 (fun d:W .i64×W .i64×W .i64×Unit=>T_bits_clamp d.1 d.2.1 d.2.2.1):=fun d k=>by kernel_rfl
theorem e10:FnE t10 q0 fuel g10 N10 (fun d:W .i64×Unit=>T_inst_width d.1):=fun d k=>by kernel_rfl
theorem o14_21:Mo t14 q14 g14 21 [(0,.any),(7,.any),(29,.any),(30,.any),(31,.any)] (.trim [(4,.any),(5,.any),(7,.any)] (.loop (.mark 23 [(0,.any),(7,.any),(29,.any),(30,.any),(31,.any)] (mOf g14 23)))):=loop_mark (fnsC_mono _) (m:=K14_21) rfl (by kernel_rfl) (by kernel_rfl) (fun a=>by kernel_rfl) (marksE (by kernel_rfl) marks_nil) (B:=fun a:W .i64×Sl 1 (W .u8)×Sl 32 (TSeg)×W .i64×W .i64×Unit=>B_rom_Load_21 a.1 a.2.1 a.2.2.1 a.2.2.2.1 a.2.2.2.2.1) (fun a=>by kernel_rfl) (fun a kn kx=>by kernel_rfl)
theorem h14:MarksE t14 q14 fuel g14.keep g14.body:=(marksE (l:=[(21,[(0,.any),(7,.any),(29,.any),(30,.any),(31,.any)],(.trim [(4,.any),(5,.any),(7,.any)] (.loop (.mark 23 [(0,.any),(7,.any),(29,.any),(30,.any),(31,.any)] (mOf g14 23)))))]) (by kernel_rfl) (marks_cons o14_21 marks_nil))
theorem e14:FnE t14 q14 fuel g14 N14 (fun d:W .i64×TImage×Unit=>T_rom_Load d.1 d.2.1):=fun d k=>by kernel_rfl
theorem e16:FnE t0 q0 fuel g16 N16 (fun d:Unit=>T_core_Plain):=fun d k=>by kernel_rfl
theorem e22:FnE t0 q0 fuel g22 N22 (fun d:W .i64×Unit=>T_csr_Masked d.1):=fun d k=>by kernel_rfl
theorem e24:FnE t24 q0 fuel g24 N24 (fun d:TMach×Unit=>T_core_right d.1):=fun d k=>by kernel_rfl
theorem e26:FnE t0 q0 fuel g26 N26 (fun d:W .i64×Unit=>T_pht_clamp d.1):=fun d k=>by kernel_rfl
theorem e31:FnE t0 q0 fuel g31 N31 (fun d:W .i64×Unit=>T_btb_New d.1):=fun d k=>by kernel_rfl
theorem e35:FnE t0 q0 fuel g35 N35 (fun d:W .i64×Unit=>T_dep_New d.1):=fun d k=>by kernel_rfl
theorem o39_17:Mo t39 q39 g39 17 [(7,.any),(8,.any)] (.trim [(7,.any)] (.loop (.mark 19 [(7,.any),(8,.any)] (mOf g39 19)))):=loop_mark (fnsC_mono _) (m:=K39_17) rfl (by kernel_rfl) (by kernel_rfl) (fun a=>by kernel_rfl) (marksE (by kernel_rfl) marks_nil) (B:=fun a:Sl 1 (Bool)×W .i64×Unit=>B_slices_Repeat_bool_17 a.1 a.2.1) (fun a=>by kernel_rfl) (fun a kn kx=>by kernel_rfl)
theorem h39:MarksE t39 q39 fuel g39.keep g39.body:=(marksE (l:=[(17,[(7,.any),(8,.any)],(.trim [(7,.any)] (.loop (.mark 19 [(7,.any),(8,.any)] (mOf g39 19)))))]) (by kernel_rfl) (marks_cons o39_17 marks_nil))
theorem e39:FnE t39 q39 fuel g39 N39 (fun d:Sl 1 (Bool)×W .i64×Unit=>T_slices_Repeat_bool d.1 d.2.1):=fun d k=>by kernel_rfl
theorem e44:FnE t44 q0 fuel g44 N44 (fun d:TPhys×W .i64×W .u32×Unit=>T_prf_Put d.1 d.2.1 d.2.2.1):=fun d k=>by kernel_rfl
theorem e47:FnE t47 q0 fuel g47 N47 (fun d:TSlot×W .i64×W .u32×Unit=>T_crack_trap d.1 d.2.1 d.2.2.1):=fun d k=>by kernel_rfl
theorem e58:FnE t58 q0 fuel g58 N58 (fun d:TSlot×TInst×W .i64×Bool×Unit=>T_crack_part d.1 d.2.1 d.2.2.1 d.2.2.2.1):=fun d k=>by kernel_rfl
theorem o64_7:Mo t64 q64 g64 7 [(1,.any),(5,.any),(8,.any),(9,.any),(10,.any)] (.trim [(5,.any)] (.loop (.mark 9 [(1,.any),(5,.any),(8,.any),(9,.any),(10,.any)] (mOf g64 9)))):=loop_mark (fnsC_mono _) (m:=K64_7) rfl (by kernel_rfl) (by kernel_rfl) (fun a=>by kernel_rfl) (marksE (by kernel_rfl) marks_nil) (B:=fun a:((Unit)×(W .i64×Unit))×W .i64×Sl 168 (TUop)×W .i64×W .i64×Unit=>B_place_many_v1_7 a.1.2.1 a.2.1 a.2.2.1 a.2.2.2.1 a.2.2.2.2.1) (fun a=>by kernel_rfl) (fun a kn kx=>by kernel_rfl)
theorem h64:MarksE t64 q64 fuel g64.keep g64.body:=(marksE (l:=[(7,[(1,.any),(5,.any),(8,.any),(9,.any),(10,.any)],(.trim [(5,.any)] (.loop (.mark 9 [(1,.any),(5,.any),(8,.any),(9,.any),(10,.any)] (mOf g64 9)))))]) (by kernel_rfl) (marks_cons o64_7 marks_nil))
theorem e64:FnE t64 q64 fuel g64 N64 (fun d:Sl 168 (TUop)×((Unit)×(W .i64×Unit))×Unit=>T_place_many_v1 d.1 d.2.1.2.1):=fun d k=>by kernel_rfl
theorem e65:FnE t0 q0 fuel g65 N65 (fun d:TUop×Unit=>T_place_writes d.1):=fun d k=>by kernel_rfl
theorem e68:FnE t0 q0 fuel g68 N68 (fun d:TFree×W .i64×Unit=>T_freel_ring_at d.1 d.2.1):=fun d k=>by kernel_rfl
theorem e75:FnE t75 q0 fuel g75 N75 (fun d:Arr 16 (W .i64)×W .i64×W .i64×Unit=>T_rat_Set d.1 d.2.1 d.2.2.1):=fun d k=>by kernel_rfl
theorem e83:FnE t0 q0 fuel g83 N83 (fun d:Sl 224 (TIq)×Sl 224 (TIq)×Bool×Unit=>T_place_kept_Iq d.1 d.2.1 d.2.2.1):=fun d k=>by kernel_rfl
theorem e89:FnE t89 q0 fuel g89 N89 (fun d:Sl 32 (TSq)×W .u64×W .i64×Unit=>T_sq_Put d.1 d.2.1 d.2.2.1):=fun d k=>by kernel_rfl
theorem o92_34:Mo t92 q92 g92 34 [(2,.any),(4,.any),(6,.own),(20,.any),(21,.any),(40,.any),(41,.any),(42,.any)] (.trim [(2,.any),(4,.any),(6,.any),(20,.any),(21,.any)] (.loop (.mark 36 [(2,.any),(4,.any),(6,.own),(20,.any),(21,.any),(40,.any),(41,.any),(42,.any)] (mOf g92 36)))):=loop_mark (fnsC_mono _) (m:=K92_34) rfl (by kernel_rfl) (by kernel_rfl) (fun a=>by kernel_rfl) (marksE (by kernel_rfl) marks_nil) (B:=fun a:TCore×TCore×Sl 32 (TNote)×W .i64×W .i64×Sl 168 (TUop)×W .i64×W .i64×Unit=>B_place_Stage_34 a.1 a.2.1 a.2.2.1 a.2.2.2.1 a.2.2.2.2.1 a.2.2.2.2.2.1 a.2.2.2.2.2.2.1 a.2.2.2.2.2.2.2.1) (fun a=>by kernel_rfl) (fun a kn kx=>by kernel_rfl)
theorem o92_13:Mo t92 q92 g92 13 [(2,.any),(4,.any),(6,.own),(20,.any),(21,.any)] (.trim [(2,.any),(4,.any),(6,.own)] (.loop (.mark 15 [(2,.any),(4,.any),(6,.own),(20,.any),(21,.any)] (mOf g92 15)))):=loop_mark (fnsC_mono _) (m:=K92_13) rfl (by kernel_rfl) (by kernel_rfl) (fun a=>by kernel_rfl) (marksE (l:=[(34,[(2,.any),(4,.any),(6,.own),(20,.any),(21,.any),(40,.any),(41,.any),(42,.any)],(.trim [(2,.any),(4,.any),(6,.any),(20,.any),(21,.any)] (.loop (.mark 36 [(2,.any),(4,.any),(6,.own),(20,.any),(21,.any),(40,.any),(41,.any),(42,.any)] (mOf g92 36)))))]) (by kernel_rfl) (marks_cons o92_34 marks_nil)) (B:=fun a:TCore×TCore×Sl 32 (TNote)×W .i64×W .i64×Unit=>B_place_Stage_13 a.1 a.2.1 a.2.2.1 a.2.2.2.1 a.2.2.2.2.1) (fun a=>by kernel_rfl) (fun a kn kx=>by kernel_rfl)
theorem h92:MarksE t92 q92 fuel g92.keep g92.body:=(marksE (l:=[(13,[(2,.any),(4,.any),(6,.own),(20,.any),(21,.any)],(.trim [(2,.any),(4,.any),(6,.own)] (.loop (.mark 15 [(2,.any),(4,.any),(6,.own),(20,.any),(21,.any)] (mOf g92 15)))))]) (by kernel_rfl) (marks_cons o92_13 marks_nil))
theorem e92:FnE t92 q92 fuel g92 N92 (fun d:TCore×TTick×Unit=>T_place_Stage d.1 d.2.1):=fun d k=>by kernel_rfl
theorem e99:FnE t99 q0 fuel g99 N99 (fun d:TInst×Unit=>T_ref06_Right d.1):=fun d k=>by kernel_rfl
theorem e101:FnE t0 q0 fuel g101 N101 (fun d:W .i64×Unit=>T_ref24_Unit d.1):=fun d k=>by kernel_rfl
theorem e103:FnE t0 q0 fuel g103 N103 (fun d:W .i64×Bool×Unit=>T_ref24_reg d.1 d.2.1):=fun d k=>by kernel_rfl
theorem o106_7:Mo t0 q106 g106 7 [(0,.any),(1,.any),(5,.any),(6,.any)] (.trim [(5,.any)] (.loop (.mark 9 [(0,.any),(1,.any),(5,.any),(6,.any)] (mOf g106 9)))):=loop_mark (fnsC_mono _) (m:=K106_7) rfl (by kernel_rfl) (by kernel_rfl) (fun a=>by kernel_rfl) (marksE (by kernel_rfl) marks_nil) (B:=fun a:Sl 168 (TUop)×W .i64×W .i64×W .i64×Unit=>B_ref45_count_7 a.1 a.2.1 a.2.2.1 a.2.2.2.1) (fun a=>by kernel_rfl) (fun a kn kx=>by kernel_rfl)
theorem h106:MarksE t0 q106 fuel g106.keep g106.body:=(marksE (l:=[(7,[(0,.any),(1,.any),(5,.any),(6,.any)],(.trim [(5,.any)] (.loop (.mark 9 [(0,.any),(1,.any),(5,.any),(6,.any)] (mOf g106 9)))))]) (by kernel_rfl) (marks_cons o106_7 marks_nil))
theorem e106:FnE t0 q106 fuel g106 N106 (fun d:Sl 168 (TUop)×W .i64×Unit=>T_ref45_count d.1 d.2.1):=fun d k=>by kernel_rfl
theorem o107_7:Mo t0 q107 g107 7 [(0,.any),(3,.any),(4,.any)] (.trim [(3,.any)] (.loop (.mark 9 [(0,.any),(3,.any),(4,.any)] (mOf g107 9)))):=loop_mark (fnsC_mono _) (m:=K107_7) rfl (by kernel_rfl) (by kernel_rfl) (fun a=>by kernel_rfl) (marksE (by kernel_rfl) marks_nil) (B:=fun a:Sl 168 (TUop)×W .i64×W .i64×Unit=>B_ref45_writers_7 a.1 a.2.1 a.2.2.1) (fun a=>by kernel_rfl) (fun a kn kx=>by kernel_rfl)
theorem h107:MarksE t0 q107 fuel g107.keep g107.body:=(marksE (l:=[(7,[(0,.any),(3,.any),(4,.any)],(.trim [(3,.any)] (.loop (.mark 9 [(0,.any),(3,.any),(4,.any)] (mOf g107 9)))))]) (by kernel_rfl) (marks_cons o107_7 marks_nil))
theorem e107:FnE t0 q107 fuel g107 N107 (fun d:Sl 168 (TUop)×Unit=>T_ref45_writers d.1):=fun d k=>by kernel_rfl
theorem o109_13:Mo t109 q109 g109 13 [(1,.any),(3,.any),(4,.any)] (.trim [(3,.any)] (.loop (.mark 15 [(1,.any),(3,.any),(4,.any)] (mOf g109 15)))):=loop_mark (fnsC_mono _) (m:=K109_13) rfl (by kernel_rfl) (by kernel_rfl) (fun a=>by kernel_rfl) (marksE (by kernel_rfl) marks_nil) (B:=fun a:TFree×Sl 8 (W .i64)×W .i64×Unit=>B_ref25_List_13 a.1 a.2.1 a.2.2.1) (fun a=>by kernel_rfl) (fun a kn kx=>by kernel_rfl)
theorem h109:MarksE t109 q109 fuel g109.keep g109.body:=(marksE (l:=[(13,[(1,.any),(3,.any),(4,.any)],(.trim [(3,.any)] (.loop (.mark 15 [(1,.any),(3,.any),(4,.any)] (mOf g109 15)))))]) (by kernel_rfl) (marks_cons o109_13 marks_nil))
theorem e109:FnE t109 q109 fuel g109 N109 (fun d:TFree×Unit=>T_ref25_List d.1):=fun d k=>by kernel_rfl
theorem e113:FnE t0 q0 fuel g113 N113 (fun d:TFree×W .i64×W .i64×Unit=>T_ref25_with d.1 d.2.1 d.2.2.1):=fun d k=>by kernel_rfl
theorem e118:FnE t0 q0 fuel g118 N118 (fun d:TPhys×W .i64×Unit=>T_ref27_is d.1 d.2.1):=fun d k=>by kernel_rfl
theorem e123:FnE t0 q0 fuel g123 N123 (fun d:Sl 48 (TLq)×W .u64×W .u32×W .i64×Unit=>T_ref35_Put d.1 d.2.1 d.2.2.1 d.2.2.2.1):=fun d k=>by kernel_rfl
theorem o127_11:Mo t0 q127 g127 11 [(0,.any),(1,.any),(5,.any)] (.trim [(4,.any)] (.loop (.mark 13 [(0,.any),(1,.any),(5,.any)] (mOf g127 13)))):=loop_mark (fnsC_mono _) (m:=K127_11) rfl (by kernel_rfl) (by kernel_rfl) (fun a=>by kernel_rfl) (marksE (by kernel_rfl) marks_nil) (B:=fun a:Sl 1 (W .u8)×Sl 1 (W .u8)×W .i64×Unit=>B_same_Bytes_11 a.1 a.2.1 a.2.2.1) (fun a=>by kernel_rfl) (fun a kn kx=>by kernel_rfl)
theorem h127:MarksE t0 q127 fuel g127.keep g127.body:=(marksE (l:=[(11,[(0,.any),(1,.any),(5,.any)],(.trim [(4,.any)] (.loop (.mark 13 [(0,.any),(1,.any),(5,.any)] (mOf g127 13)))))]) (by kernel_rfl) (marks_cons o127_11 marks_nil))
theorem e127:FnE t0 q127 fuel g127 N127 (fun d:Sl 1 (W .u8)×Sl 1 (W .u8)×Unit=>T_same_Bytes d.1 d.2.1):=fun d k=>by kernel_rfl
theorem o132_11:Mo t0 q132 g132 11 [(0,.any),(1,.any),(5,.any)] (.trim [(4,.any)] (.loop (.mark 13 [(0,.any),(1,.any),(5,.any)] (mOf g132 13)))):=loop_mark (fnsC_mono _) (m:=K132_11) rfl (by kernel_rfl) (by kernel_rfl) (fun a=>by kernel_rfl) (marksE (by kernel_rfl) marks_nil) (B:=fun a:Sl 56 (TSlot)×Sl 56 (TSlot)×W .i64×Unit=>B_same_Slots_11 a.1 a.2.1 a.2.2.1) (fun a=>by kernel_rfl) (fun a kn kx=>by kernel_rfl)
theorem h132:MarksE t0 q132 fuel g132.keep g132.body:=(marksE (l:=[(11,[(0,.any),(1,.any),(5,.any)],(.trim [(4,.any)] (.loop (.mark 13 [(0,.any),(1,.any),(5,.any)] (mOf g132 13)))))]) (by kernel_rfl) (marks_cons o132_11 marks_nil))
theorem e132:FnE t0 q132 fuel g132 N132 (fun d:Sl 56 (TSlot)×Sl 56 (TSlot)×Unit=>T_same_Slots d.1 d.2.1):=fun d k=>by kernel_rfl
theorem o139_11:Mo t0 q139 g139 11 [(0,.any),(1,.any),(5,.any)] (.trim [(4,.any)] (.loop (.mark 13 [(0,.any),(1,.any),(5,.any)] (mOf g139 13)))):=loop_mark (fnsC_mono _) (m:=K139_11) rfl (by kernel_rfl) (by kernel_rfl) (fun a=>by kernel_rfl) (marksE (by kernel_rfl) marks_nil) (B:=fun a:Sl 224 (TIq)×Sl 224 (TIq)×W .i64×Unit=>B_same_Iqs_11 a.1 a.2.1 a.2.2.1) (fun a=>by kernel_rfl) (fun a kn kx=>by kernel_rfl)
theorem h139:MarksE t0 q139 fuel g139.keep g139.body:=(marksE (l:=[(11,[(0,.any),(1,.any),(5,.any)],(.trim [(4,.any)] (.loop (.mark 13 [(0,.any),(1,.any),(5,.any)] (mOf g139 13)))))]) (by kernel_rfl) (marks_cons o139_11 marks_nil))
theorem e139:FnE t0 q139 fuel g139 N139 (fun d:Sl 224 (TIq)×Sl 224 (TIq)×Unit=>T_same_Iqs d.1 d.2.1):=fun d k=>by kernel_rfl
theorem o143_11:Mo t0 q143 g143 11 [(0,.any),(1,.any),(5,.any)] (.trim [(4,.any)] (.loop (.mark 13 [(0,.any),(1,.any),(5,.any)] (mOf g143 13)))):=loop_mark (fnsC_mono _) (m:=K143_11) rfl (by kernel_rfl) (by kernel_rfl) (fun a=>by kernel_rfl) (marksE (by kernel_rfl) marks_nil) (B:=fun a:Sl 256 (TFlight)×Sl 256 (TFlight)×W .i64×Unit=>B_same_Flights_11 a.1 a.2.1 a.2.2.1) (fun a=>by kernel_rfl) (fun a kn kx=>by kernel_rfl)
theorem h143:MarksE t0 q143 fuel g143.keep g143.body:=(marksE (l:=[(11,[(0,.any),(1,.any),(5,.any)],(.trim [(4,.any)] (.loop (.mark 13 [(0,.any),(1,.any),(5,.any)] (mOf g143 13)))))]) (by kernel_rfl) (marks_cons o143_11 marks_nil))
theorem e143:FnE t0 q143 fuel g143 N143 (fun d:Sl 256 (TFlight)×Sl 256 (TFlight)×Unit=>T_same_Flights d.1 d.2.1):=fun d k=>by kernel_rfl
end Go.Proofs.YtkddkpmijhionaaGreatDoor
