/- YtkddkpmijhionaaGreatDoorEq0: the functions' runs are their trees. No statement of the seat is proved here. -/
import Derived.Test.YtkddkpmijhionaaGreatDoorTabs
set_option linter.unusedSimpArgs false
set_option linter.unusedVariables false
set_option maxRecDepth 100000
namespace Go.Proofs.YtkddkpmijhionaaGreatDoor
open Go Go.A2
theorem e6:FnE t0 q0 fuel g6 N6 (fun d:W .i64×W .i64×W .i64×Unit=>T_bits_clamp d.1 d.2.1 d.2.2.1):=fun d k=>by kernel_rfl
theorem e8:FnE t8 q0 fuel g8 N8 (fun d:W .i64×W .i64×Unit=>T_bits_mask d.1 d.2.1):=fun d k=>by kernel_rfl
theorem e15:FnE t15 q0 fuel g15 N15 (fun d:TImage×W .i64×Unit=>T_step_New d.1 d.2.1):=fun d k=>by kernel_rfl
theorem e16:FnE t0 q0 fuel g16 N16 (fun d:Unit=>T_core_Plain):=fun d k=>by kernel_rfl
theorem e22:FnE t0 q0 fuel g22 N22 (fun d:W .i64×Unit=>T_csr_Masked d.1):=fun d k=>by kernel_rfl
theorem e24:FnE t24 q0 fuel g24 N24 (fun d:TMach×Unit=>T_core_right d.1):=fun d k=>by kernel_rfl
theorem e26:FnE t0 q0 fuel g26 N26 (fun d:W .i64×Unit=>T_pht_clamp d.1):=fun d k=>by kernel_rfl
theorem e31:FnE t0 q0 fuel g31 N31 (fun d:W .i64×Unit=>T_btb_New d.1):=fun d k=>by kernel_rfl
theorem e35:FnE t0 q0 fuel g35 N35 (fun d:W .i64×Unit=>T_dep_New d.1):=fun d k=>by kernel_rfl
theorem o39_17:Mo t39 q39 g39 17 [(7,.any),(8,.any)] (.trim [(7,.any)] (.loop (.mark 19 [(7,.any),(8,.any)] (mOf g39 19)))):=loop_mark (fnsC_mono _) (m:=K39_17) rfl (by kernel_rfl) (by kernel_rfl) (fun a=>by kernel_rfl) (marksE (by kernel_rfl) marks_nil) (B:=fun a:Sl 1 (Bool)×W .i64×Unit=>B_slices_Repeat_bool_17 a.1 a.2.1) (fun a=>by kernel_rfl) (fun a kn kx=>by kernel_rfl)
theorem h39:MarksE t39 q39 fuel g39.keep g39.body:=(marksE (l:=[(17,[(7,.any),(8,.any)],(.trim [(7,.any)] (.loop (.mark 19 [(7,.any),(8,.any)] (mOf g39 19)))))]) (by kernel_rfl) (marks_cons o39_17 marks_nil))
theorem e39:FnE t39 q39 fuel g39 N39 (fun d:Sl 1 (Bool)×W .i64×Unit=>T_slices_Repeat_bool d.1 d.2.1):=fun d k=>by kernel_rfl
theorem e47:FnE t47 q0 fuel g47 N47 (fun d:TSlot×W .i64×W .u32×Unit=>T_crack_trap d.1 d.2.1 d.2.2.1):=fun d k=>by kernel_rfl
theorem e51:FnE t51 q0 fuel g51 N51 (fun d:W .i64×W .u32×Unit=>T_inst_number d.1 d.2.1):=fun d k=>by kernel_rfl
theorem e54:FnE t54 q0 fuel g54 N54 (fun d:W .i64×Unit=>T_crack_Unit d.1):=fun d k=>by kernel_rfl
theorem e58:FnE t58 q0 fuel g58 N58 (fun d:TSlot×TInst×W .i64×Bool×Unit=>T_crack_part d.1 d.2.1 d.2.2.1 d.2.2.2.1):=fun d k=>by kernel_rfl
theorem o66_7:Mo t66 q66 g66 7 [(1,.any),(5,.any),(8,.any),(9,.any),(10,.any)] (.trim [(5,.any)] (.loop (.mark 9 [(1,.any),(5,.any),(8,.any),(9,.any),(10,.any)] (mOf g66 9)))):=loop_mark (fnsC_mono _) (m:=K66_7) rfl (by kernel_rfl) (by kernel_rfl) (fun a=>by kernel_rfl) (marksE (by kernel_rfl) marks_nil) (B:=fun a:((Unit)×(Unit))×W .i64×Sl 168 (TUop)×W .i64×W .i64×Unit=>B_place_many_v2_7 a.2.1 a.2.2.1 a.2.2.2.1 a.2.2.2.2.1) (fun a=>by kernel_rfl) (fun a kn kx=>by kernel_rfl)
theorem h66:MarksE t66 q66 fuel g66.keep g66.body:=(marksE (l:=[(7,[(1,.any),(5,.any),(8,.any),(9,.any),(10,.any)],(.trim [(5,.any)] (.loop (.mark 9 [(1,.any),(5,.any),(8,.any),(9,.any),(10,.any)] (mOf g66 9)))))]) (by kernel_rfl) (marks_cons o66_7 marks_nil))
theorem e66:FnE t66 q66 fuel g66 N66 (fun d:Sl 168 (TUop)×((Unit)×(Unit))×Unit=>T_place_many_v2 d.1):=fun d k=>by kernel_rfl
theorem e68:FnE t0 q0 fuel g68 N68 (fun d:TFree×W .i64×Unit=>T_freel_ring_at d.1 d.2.1):=fun d k=>by kernel_rfl
theorem e71:FnE t0 q0 fuel g71 N71 (fun d:W .i64×Unit=>T_rat_is d.1):=fun d k=>by kernel_rfl
theorem e78:FnE t78 q0 fuel g78 N78 (fun d:Sl 248 (TRob)×TRen×W .i64×Unit=>T_rob_Put d.1 d.2.1 d.2.2.1):=fun d k=>by kernel_rfl
theorem e84:FnE t84 q0 fuel g84 N84 (fun d:TPhys×W .i64×Unit=>T_prf_Drop d.1 d.2.1):=fun d k=>by kernel_rfl
theorem e90:FnE t0 q0 fuel g90 N90 (fun d:Sl 32 (TSq)×Sl 32 (TSq)×Bool×Unit=>T_place_kept_Sq d.1 d.2.1 d.2.2.1):=fun d k=>by kernel_rfl
theorem o92_34:Mo t92 q92 g92 34 [(2,.any),(4,.any),(6,.own),(20,.any),(21,.any),(40,.any),(41,.any),(42,.any)] (.trim [(2,.any),(4,.any),(6,.any),(20,.any),(21,.any)] (.loop (.mark 36 [(2,.any),(4,.any),(6,.own),(20,.any),(21,.any),(40,.any),(41,.any),(42,.any)] (mOf g92 36)))):=loop_mark (fnsC_mono _) (m:=K92_34) rfl (by kernel_rfl) (by kernel_rfl) (fun a=>by kernel_rfl) (marksE (by kernel_rfl) marks_nil) (B:=fun a:TCore×TCore×Sl 32 (TNote)×W .i64×W .i64×Sl 168 (TUop)×W .i64×W .i64×Unit=>B_place_Stage_34 a.1 a.2.1 a.2.2.1 a.2.2.2.1 a.2.2.2.2.1 a.2.2.2.2.2.1 a.2.2.2.2.2.2.1 a.2.2.2.2.2.2.2.1) (fun a=>by kernel_rfl) (fun a kn kx=>by kernel_rfl)
theorem o92_13:Mo t92 q92 g92 13 [(2,.any),(4,.any),(6,.own),(20,.any),(21,.any)] (.trim [(2,.any),(4,.any),(6,.own)] (.loop (.mark 15 [(2,.any),(4,.any),(6,.own),(20,.any),(21,.any)] (mOf g92 15)))):=loop_mark (fnsC_mono _) (m:=K92_13) rfl (by kernel_rfl) (by kernel_rfl) (fun a=>by kernel_rfl) (marksE (l:=[(34,[(2,.any),(4,.any),(6,.own),(20,.any),(21,.any),(40,.any),(41,.any),(42,.any)],(.trim [(2,.any),(4,.any),(6,.any),(20,.any),(21,.any)] (.loop (.mark 36 [(2,.any),(4,.any),(6,.own),(20,.any),(21,.any),(40,.any),(41,.any),(42,.any)] (mOf g92 36)))))]) (by kernel_rfl) (marks_cons o92_34 marks_nil)) (B:=fun a:TCore×TCore×Sl 32 (TNote)×W .i64×W .i64×Unit=>B_place_Stage_13 a.1 a.2.1 a.2.2.1 a.2.2.2.1 a.2.2.2.2.1) (fun a=>by kernel_rfl) (fun a kn kx=>by kernel_rfl)
theorem h92:MarksE t92 q92 fuel g92.keep g92.body:=(marksE (l:=[(13,[(2,.any),(4,.any),(6,.own),(20,.any),(21,.any)],(.trim [(2,.any),(4,.any),(6,.own)] (.loop (.mark 15 [(2,.any),(4,.any),(6,.own),(20,.any),(21,.any)] (mOf g92 15)))))]) (by kernel_rfl) (marks_cons o92_13 marks_nil))
theorem e92:FnE t92 q92 fuel g92 N92 (fun d:TCore×TTick×Unit=>T_place_Stage d.1 d.2.1):=fun d k=>by kernel_rfl
theorem o95_5:Mo t0 q95 g95 5 [(1,.any),(2,.own),(3,.own),(9,.any),(10,.any),(11,.any)] (.trim [(1,.any),(2,.any),(3,.own)] (.loop (.mark 7 [(1,.any),(2,.own),(3,.own),(9,.any),(10,.any),(11,.any)] (mOf g95 7)))):=loop_mark (fnsC_mono _) (m:=K95_5) rfl (by kernel_rfl) (by kernel_rfl) (fun a=>by kernel_rfl) (marksE (by kernel_rfl) marks_nil) (B:=fun a:TCore×Sl 216 (TRen)×Sl 216 (TRen)×Sl 224 (TIq)×W .i64×W .i64×Unit=>B_core_queued_5 a.1 a.2.1 a.2.2.1 a.2.2.2.1 a.2.2.2.2.1 a.2.2.2.2.2.1) (fun a=>by kernel_rfl) (fun a kn kx=>by kernel_rfl)
theorem o95_20:Mo t0 q95 g95 20 [(2,.any),(3,.own),(22,.any),(23,.any),(24,.any)] (.trim [(2,.any),(3,.any)] (.loop (.mark 22 [(2,.any),(3,.own),(22,.any),(23,.any),(24,.any)] (mOf g95 22)))):=loop_mark (fnsC_mono _) (m:=K95_20) rfl (by kernel_rfl) (by kernel_rfl) (fun a=>by kernel_rfl) (marksE (by kernel_rfl) marks_nil) (B:=fun a:Sl 216 (TRen)×Sl 216 (TRen)×Sl 256 (TFlight)×W .i64×W .i64×Unit=>B_core_queued_20 a.1 a.2.1 a.2.2.1 a.2.2.2.1 a.2.2.2.2.1) (fun a=>by kernel_rfl) (fun a kn kx=>by kernel_rfl)
theorem h95:MarksE t0 q95 fuel g95.keep g95.body:=(marksE (l:=[(5,[(1,.any),(2,.own),(3,.own),(9,.any),(10,.any),(11,.any)],(.trim [(1,.any),(2,.any),(3,.own)] (.loop (.mark 7 [(1,.any),(2,.own),(3,.own),(9,.any),(10,.any),(11,.any)] (mOf g95 7))))),(20,[(2,.any),(3,.own),(22,.any),(23,.any),(24,.any)],(.trim [(2,.any),(3,.any)] (.loop (.mark 22 [(2,.any),(3,.own),(22,.any),(23,.any),(24,.any)] (mOf g95 22)))))]) (by kernel_rfl) (marks_cons o95_5 (marks_cons o95_20 marks_nil)))
theorem e95:FnE t0 q95 fuel g95 N95 (fun d:TCore×Unit=>T_core_queued d.1):=fun d k=>by kernel_rfl
theorem o96_7:Mo t0 q96 g96 7 [(3,.any),(4,.any),(7,.any),(8,.any),(9,.any)] (.trim [(2,.any),(4,.any)] (.loop (.mark 9 [(3,.any),(4,.any),(7,.any),(8,.any),(9,.any)] (mOf g96 9)))):=loop_mark (fnsC_mono _) (m:=K96_7) rfl (by kernel_rfl) (by kernel_rfl) (fun a=>by kernel_rfl) (marksE (by kernel_rfl) marks_nil) (B:=fun a:W .u64×W .i64×Sl 248 (TRob)×W .i64×W .i64×Unit=>B_rob_Right_7 a.1 a.2.1 a.2.2.1 a.2.2.2.1 a.2.2.2.2.1) (fun a=>by kernel_rfl) (fun a kn kx=>by kernel_rfl)
theorem h96:MarksE t0 q96 fuel g96.keep g96.body:=(marksE (l:=[(7,[(3,.any),(4,.any),(7,.any),(8,.any),(9,.any)],(.trim [(2,.any),(4,.any)] (.loop (.mark 9 [(3,.any),(4,.any),(7,.any),(8,.any),(9,.any)] (mOf g96 9)))))]) (by kernel_rfl) (marks_cons o96_7 marks_nil))
theorem e96:FnE t0 q96 fuel g96 N96 (fun d:Sl 248 (TRob)×Unit=>T_rob_Right d.1):=fun d k=>by kernel_rfl
theorem e97:FnE t97 q0 fuel g97 N97 (fun d:TCore×Unit=>T_core_ordered d.1):=fun d k=>by kernel_rfl
theorem e112:FnE t112 q0 fuel g112 N112 (fun d:Sl 216 (TRen)×((Unit)×(TRen×Unit))×Unit=>T_slices_ContainsFunc_Ren_of_core_apart_1_1 d.1 d.2.1.2.1):=fun d k=>by kernel_rfl
theorem e118:FnE t0 q0 fuel g118 N118 (fun d:TLq×W .u64×Unit=>T_core_memory_1 d.1 d.2.1):=fun d k=>by kernel_rfl
theorem o121_11:Mo t121 q121 g121 11 [(1,.any),(2,.any),(15,.any),(16,.any),(17,.any)] (.trim [(6,.any)] (.loop (.mark 13 [(1,.any),(2,.any),(15,.any),(16,.any),(17,.any)] (mOf g121 13)))):=loop_mark (fnsC_mono _) (m:=K121_11) rfl (by kernel_rfl) (by kernel_rfl) (fun a=>by kernel_rfl) (marksE (by kernel_rfl) marks_nil) (B:=fun a:Sl 8 (W .u64)×((Unit)×(Unit))×Sl 32 (TSq)×W .i64×W .i64×Unit=>B_slices_EqualFunc_Sq_uint64_of_core_memory_2_11 a.1 a.2.2.1 a.2.2.2.1 a.2.2.2.2.1) (fun a=>by kernel_rfl) (fun a kn kx=>by kernel_rfl)
theorem h121:MarksE t121 q121 fuel g121.keep g121.body:=(marksE (l:=[(11,[(1,.any),(2,.any),(15,.any),(16,.any),(17,.any)],(.trim [(6,.any)] (.loop (.mark 13 [(1,.any),(2,.any),(15,.any),(16,.any),(17,.any)] (mOf g121 13)))))]) (by kernel_rfl) (marks_cons o121_11 marks_nil))
theorem e121:FnE t121 q121 fuel g121 N121 (fun d:Sl 32 (TSq)×Sl 8 (W .u64)×((Unit)×(Unit))×Unit=>T_slices_EqualFunc_Sq_uint64_of_core_memory_2 d.1 d.2.1):=fun d k=>by kernel_rfl
theorem e124:FnE t124 q0 fuel g124 N124 (fun d:TRob×TCore×Unit=>T_core_valued_1 d.1 d.2.1):=fun d k=>by kernel_rfl
end Go.Proofs.YtkddkpmijhionaaGreatDoor
