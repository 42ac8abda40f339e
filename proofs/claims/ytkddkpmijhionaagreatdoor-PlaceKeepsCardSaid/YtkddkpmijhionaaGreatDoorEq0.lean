/- YtkddkpmijhionaaGreatDoorEq0: the functions' runs are their trees. No statement of the seat is proved here. -/
import Derived.Test.YtkddkpmijhionaaGreatDoorTabs
set_option linter.unusedSimpArgs false
set_option linter.unusedVariables false
set_option maxRecDepth 100000
namespace Go.Proofs.YtkddkpmijhionaaGreatDoor
open Go Go.A2
theorem e9:FnE t9 q0 fuel g9 N9 (fun d:W .u32×W .i64×W .i64×W .u32×Unit=>T_bits_Put d.1 d.2.1 d.2.2.1 d.2.2.2.1):=fun d k=>by kernel_rfl
theorem e20:FnE t20 q0 fuel g20 N20 (fun d:Sl 24 (TBound)×((Unit)×(Unit))×Unit=>T_slices_ContainsFunc_bound_of_core_Conf_1 d.1):=fun d k=>by kernel_rfl
theorem e21:FnE t21 q0 fuel g21 N21 (fun d:TConf×Unit=>T_core_Conf d.1):=fun d k=>by kernel_rfl
theorem e22:FnE t0 q0 fuel g22 N22 (fun d:W .i64×Unit=>T_csr_Masked d.1):=fun d k=>by kernel_rfl
theorem e24:FnE t24 q0 fuel g24 N24 (fun d:TMach×Unit=>T_core_right d.1):=fun d k=>by kernel_rfl
theorem e28:FnE t28 q0 fuel g28 N28 (fun d:W .u64×W .u64×Unit=>T_bits_Mul d.1 d.2.1):=fun d k=>by kernel_rfl
theorem e33:FnE t33 q0 fuel g33 N33 (fun d:TConf×Unit=>T_pred_New d.1):=fun d k=>by kernel_rfl
theorem o37_11:Mo t0 q37 g37 11 [(1,.any),(4,.any),(5,.any),(21,.any),(22,.any)] (.trim [(4,.any),(5,.any)] (.loop (.mark 13 [(1,.any),(4,.any),(5,.any),(21,.any),(22,.any)] (mOf g37 13)))):=loop_mark (fnsC_mono _) (m:=K37_11) rfl (by kernel_rfl) (by kernel_rfl) (fun a=>by kernel_rfl) (marksE (by kernel_rfl) marks_nil) (B:=fun a:W .i64×TFree×TFree×W .i64×W .i64×Unit=>B_freel_New_11 a.1 a.2.1 a.2.2.1 a.2.2.2.1 a.2.2.2.2.1) (fun a=>by kernel_rfl) (fun a kn kx=>by kernel_rfl)
theorem h37:MarksE t0 q37 fuel g37.keep g37.body:=(marksE (l:=[(11,[(1,.any),(4,.any),(5,.any),(21,.any),(22,.any)],(.trim [(4,.any),(5,.any)] (.loop (.mark 13 [(1,.any),(4,.any),(5,.any),(21,.any),(22,.any)] (mOf g37 13)))))]) (by kernel_rfl) (marks_cons o37_11 marks_nil))
theorem e37:FnE t0 q37 fuel g37 N37 (fun d:W .i64×W .i64×Unit=>T_freel_New d.1 d.2.1):=fun d k=>by kernel_rfl
theorem e40:FnE t40 q0 fuel g40 N40 (fun d:W .i64×Unit=>T_prf_New d.1):=fun d k=>by kernel_rfl
theorem e49:FnE t49 q0 fuel g49 N49 (fun d:W .u32×W .i64×Unit=>T_bits_Zext d.1 d.2.1):=fun d k=>by kernel_rfl
theorem e54:FnE t54 q0 fuel g54 N54 (fun d:W .i64×Unit=>T_crack_Unit d.1):=fun d k=>by kernel_rfl
theorem e55:FnE t0 q0 fuel g55 N55 (fun d:W .i64×Unit=>T_crack_reg d.1):=fun d k=>by kernel_rfl
theorem e57:FnE t57 q0 fuel g57 N57 (fun d:TInst×Unit=>T_crack_target d.1):=fun d k=>by kernel_rfl
theorem e59:FnE t59 q0 fuel g59 N59 (fun d:TSlot×Unit=>T_crack_Uops d.1):=fun d k=>by kernel_rfl
theorem e62:FnE t0 q0 fuel g62 N62 (fun d:W .i64×Unit=>T_place_of d.1):=fun d k=>by kernel_rfl
theorem o66_7:Mo t66 q66 g66 7 [(1,.any),(5,.any),(8,.any),(9,.any),(10,.any)] (.trim [(5,.any)] (.loop (.mark 9 [(1,.any),(5,.any),(8,.any),(9,.any),(10,.any)] (mOf g66 9)))):=loop_mark (fnsC_mono _) (m:=K66_7) rfl (by kernel_rfl) (by kernel_rfl) (fun a=>by kernel_rfl) (marksE (by kernel_rfl) marks_nil) (B:=fun a:((Unit)×(Unit))×W .i64×Sl 168 (TUop)×W .i64×W .i64×Unit=>B_place_many_v2_7 a.2.1 a.2.2.1 a.2.2.2.1 a.2.2.2.2.1) (fun a=>by kernel_rfl) (fun a kn kx=>by kernel_rfl)
theorem h66:MarksE t66 q66 fuel g66.keep g66.body:=(marksE (l:=[(7,[(1,.any),(5,.any),(8,.any),(9,.any),(10,.any)],(.trim [(5,.any)] (.loop (.mark 9 [(1,.any),(5,.any),(8,.any),(9,.any),(10,.any)] (mOf g66 9)))))]) (by kernel_rfl) (marks_cons o66_7 marks_nil))
theorem e66:FnE t66 q66 fuel g66 N66 (fun d:Sl 168 (TUop)×((Unit)×(Unit))×Unit=>T_place_many_v2 d.1):=fun d k=>by kernel_rfl
theorem e73:FnE t0 q0 fuel g73 N73 (fun d:TUop×Unit=>T_rename_writes d.1):=fun d k=>by kernel_rfl
theorem e80:FnE t80 q0 fuel g80 N80 (fun d:TPhys×W .i64×Unit=>T_prf_Get d.1 d.2.1):=fun d k=>by kernel_rfl
theorem e82:FnE t82 q0 fuel g82 N82 (fun d:Sl 224 (TIq)×TRen×Arr 3 (Bool)×W .i64×Unit=>T_iq_Put d.1 d.2.1 d.2.2.1 d.2.2.2.1):=fun d k=>by kernel_rfl
theorem e87:FnE t0 q0 fuel g87 N87 (fun d:Sl 48 (TLq)×Sl 48 (TLq)×Bool×Unit=>T_place_kept_Lq d.1 d.2.1 d.2.2.1):=fun d k=>by kernel_rfl
theorem o95_5:Mo t0 q95 g95 5 [(1,.any),(2,.own),(3,.own),(9,.any),(10,.any),(11,.any)] (.trim [(1,.any),(2,.any),(3,.own)] (.loop (.mark 7 [(1,.any),(2,.own),(3,.own),(9,.any),(10,.any),(11,.any)] (mOf g95 7)))):=loop_mark (fnsC_mono _) (m:=K95_5) rfl (by kernel_rfl) (by kernel_rfl) (fun a=>by kernel_rfl) (marksE (by kernel_rfl) marks_nil) (B:=fun a:TCore×Sl 216 (TRen)×Sl 216 (TRen)×Sl 224 (TIq)×W .i64×W .i64×Unit=>B_core_queued_5 a.1 a.2.1 a.2.2.1 a.2.2.2.1 a.2.2.2.2.1 a.2.2.2.2.2.1) (fun a=>by kernel_rfl) (fun a kn kx=>by kernel_rfl)
theorem o95_20:Mo t0 q95 g95 20 [(2,.any),(3,.own),(22,.any),(23,.any),(24,.any)] (.trim [(2,.any),(3,.any)] (.loop (.mark 22 [(2,.any),(3,.own),(22,.any),(23,.any),(24,.any)] (mOf g95 22)))):=loop_mark (fnsC_mono _) (m:=K95_20) rfl (by kernel_rfl) (by kernel_rfl) (fun a=>by kernel_rfl) (marksE (by kernel_rfl) marks_nil) (B:=fun a:Sl 216 (TRen)×Sl 216 (TRen)×Sl 256 (TFlight)×W .i64×W .i64×Unit=>B_core_queued_20 a.1 a.2.1 a.2.2.1 a.2.2.2.1 a.2.2.2.2.1) (fun a=>by kernel_rfl) (fun a kn kx=>by kernel_rfl)
theorem h95:MarksE t0 q95 fuel g95.keep g95.body:=(marksE (l:=[(5,[(1,.any),(2,.own),(3,.own),(9,.any),(10,.any),(11,.any)],(.trim [(1,.any),(2,.any),(3,.own)] (.loop (.mark 7 [(1,.any),(2,.own),(3,.own),(9,.any),(10,.any),(11,.any)] (mOf g95 7))))),(20,[(2,.any),(3,.own),(22,.any),(23,.any),(24,.any)],(.trim [(2,.any),(3,.any)] (.loop (.mark 22 [(2,.any),(3,.own),(22,.any),(23,.any),(24,.any)] (mOf g95 22)))))]) (by kernel_rfl) (marks_cons o95_5 (marks_cons o95_20 marks_nil)))
theorem e95:FnE t0 q95 fuel g95 N95 (fun d:TCore×Unit=>T_core_queued d.1):=fun d k=>by kernel_rfl
theorem e108:FnE t108 q0 fuel g108 N108 (fun d:TCore×TRen×Unit=>T_core_waits d.1 d.2.1):=fun d k=>by kernel_rfl
theorem e115:FnE t115 q0 fuel g115 N115 (fun d:Sl 216 (TRen)×((Unit)×(Sl 216 (TRen)×Unit))×Unit=>T_slices_ContainsFunc_Ren_of_core_apart_1 d.1 d.2.1.2.1):=fun d k=>by kernel_rfl
theorem e122:FnE t122 q0 fuel g122 N122 (fun d:TCore×Unit=>T_core_memory d.1):=fun d k=>by kernel_rfl
theorem o123_7:Mo t123 q123 g123 7 [(2,.any),(3,.any),(4,.any),(5,.any),(6,.any)] (.trim [(4,.any),(5,.any)] (.loop (.mark 9 [(2,.any),(3,.any),(4,.any),(5,.any),(6,.any)] (mOf g123 9)))):=loop_mark (fnsC_mono _) (m:=K123_7) rfl (by kernel_rfl) (by kernel_rfl) (fun a=>by kernel_rfl) (marksE (by kernel_rfl) marks_nil) (B:=fun a:TPhys×Arr 16 (W .i64)×Arr 16 (W .u32)×Arr 16 (W .u32)×W .i64×Unit=>B_prf_View_7 a.1 a.2.1 a.2.2.1 a.2.2.2.1 a.2.2.2.2.1) (fun a=>by kernel_rfl) (fun a kn kx=>by kernel_rfl)
theorem h123:MarksE t123 q123 fuel g123.keep g123.body:=(marksE (l:=[(7,[(2,.any),(3,.any),(4,.any),(5,.any),(6,.any)],(.trim [(4,.any),(5,.any)] (.loop (.mark 9 [(2,.any),(3,.any),(4,.any),(5,.any),(6,.any)] (mOf g123 9)))))]) (by kernel_rfl) (marks_cons o123_7 marks_nil))
theorem e123:FnE t123 q123 fuel g123 N123 (fun d:TPhys×Arr 16 (W .i64)×Unit=>T_prf_View d.1 d.2.1):=fun d k=>by kernel_rfl
theorem e124:FnE t124 q0 fuel g124 N124 (fun d:TRob×TCore×Unit=>T_core_valued_1 d.1 d.2.1):=fun d k=>by kernel_rfl
theorem e126:FnE t126 q0 fuel g126 N126 (fun d:Sl 248 (TRob)×((Unit)×(TCore×Unit))×Unit=>T_slices_ContainsFunc_Rob_of_core_valued_1 d.1 d.2.1.2.1):=fun d k=>by kernel_rfl
theorem o128_15:Mo t128 q128 g128 15 [(5,.own),(55,.any),(56,.any),(57,.any)] (.trim [(5,.any)] (.loop (.mark 17 [(5,.own),(55,.any),(56,.any),(57,.any)] (mOf g128 17)))):=loop_mark (fnsC_mono _) (m:=K128_15) rfl (by kernel_rfl) (by kernel_rfl) (fun a=>by kernel_rfl) (marksE (by kernel_rfl) marks_nil) (B:=fun a:Sl 8 (W .i64)×Sl 1 (Bool)×W .i64×W .i64×Unit=>B_core_Broken_15 a.1 a.2.1 a.2.2.1 a.2.2.2.1) (fun a=>by kernel_rfl) (fun a kn kx=>by kernel_rfl)
theorem h128:MarksE t128 q128 fuel g128.keep g128.body:=(marksE (l:=[(15,[(5,.own),(55,.any),(56,.any),(57,.any)],(.trim [(5,.any)] (.loop (.mark 17 [(5,.own),(55,.any),(56,.any),(57,.any)] (mOf g128 17)))))]) (by kernel_rfl) (marks_cons o128_15 marks_nil))
theorem e128:FnE t128 q128 fuel g128 N128 (fun d:TCore×Unit=>T_core_Broken d.1):=fun d k=>by kernel_rfl
theorem o130_11:Mo t0 q130 g130 11 [(0,.any),(1,.any),(5,.any)] (.trim [(4,.any)] (.loop (.mark 13 [(0,.any),(1,.any),(5,.any)] (mOf g130 13)))):=loop_mark (fnsC_mono _) (m:=K130_11) rfl (by kernel_rfl) (by kernel_rfl) (fun a=>by kernel_rfl) (marksE (by kernel_rfl) marks_nil) (B:=fun a:Sl 256 (TFlight)×Sl 256 (TFlight)×W .i64×Unit=>B_same_Flights_11 a.1 a.2.1 a.2.2.1) (fun a=>by kernel_rfl) (fun a kn kx=>by kernel_rfl)
theorem h130:MarksE t0 q130 fuel g130.keep g130.body:=(marksE (l:=[(11,[(0,.any),(1,.any),(5,.any)],(.trim [(4,.any)] (.loop (.mark 13 [(0,.any),(1,.any),(5,.any)] (mOf g130 13)))))]) (by kernel_rfl) (marks_cons o130_11 marks_nil))
theorem e130:FnE t0 q130 fuel g130 N130 (fun d:Sl 256 (TFlight)×Sl 256 (TFlight)×Unit=>T_same_Flights d.1 d.2.1):=fun d k=>by kernel_rfl
end Go.Proofs.YtkddkpmijhionaaGreatDoor
