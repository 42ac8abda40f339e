/- YtkddkpmijhionaaGreatDoorEq1: the functions' runs are their trees. No statement of the seat is proved here. -/
import Derived.Test.YtkddkpmijhionaaGreatDoorTabs
set_option linter.unusedSimpArgs false
set_option linter.unusedVariables false
set_option maxRecDepth 100000
namespace Go.Proofs.YtkddkpmijhionaaGreatDoor
open Go Go.A2
theorem e2:FnE t0 q0 fuel g2 N2 (fun d:W .i64×Unit=>T_inst_Form d.1):=fun d k=>by kernel_rfl
theorem e7:FnE t0 q0 fuel g7 N7 (fun d:W .i64×Unit=>T_bits_ones d.1):=fun d k=>by kernel_rfl
theorem e15:FnE t15 q0 fuel g15 N15 (fun d:TImage×W .i64×Unit=>T_step_New d.1 d.2.1):=fun d k=>by kernel_rfl
theorem e17:FnE t0 q0 fuel g17 N17 (fun d:TConf×Unit=>T_core_bounds d.1):=fun d k=>by kernel_rfl
theorem e27:FnE t0 q0 fuel g27 N27 (fun d:W .u64×W .u64×Unit=>T_bits_Mul64 d.1 d.2.1):=fun d k=>by kernel_rfl
theorem o29_17:Mo t29 q29 g29 17 [(7,.any),(8,.any)] (.trim [(7,.any)] (.loop (.mark 19 [(7,.any),(8,.any)] (mOf g29 19)))):=loop_mark (fnsC_mono _) (m:=K29_17) rfl (by kernel_rfl) (by kernel_rfl) (fun a=>by kernel_rfl) (marksE (by kernel_rfl) marks_nil) (B:=fun a:Sl 1 (W .u8)×W .i64×Unit=>B_slices_Repeat_uint8_17 a.1 a.2.1) (fun a=>by kernel_rfl) (fun a kn kx=>by kernel_rfl)
theorem h29:MarksE t29 q29 fuel g29.keep g29.body:=(marksE (l:=[(17,[(7,.any),(8,.any)],(.trim [(7,.any)] (.loop (.mark 19 [(7,.any),(8,.any)] (mOf g29 19)))))]) (by kernel_rfl) (marks_cons o29_17 marks_nil))
theorem e29:FnE t29 q29 fuel g29 N29 (fun d:Sl 1 (W .u8)×W .i64×Unit=>T_slices_Repeat_uint8 d.1 d.2.1):=fun d k=>by kernel_rfl
theorem e32:FnE t0 q0 fuel g32 N32 (fun d:W .i64×Unit=>T_ras_New d.1):=fun d k=>by kernel_rfl
theorem e38:FnE t38 q0 fuel g38 N38 (fun d:W .i64×Unit=>T_rename_New d.1):=fun d k=>by kernel_rfl
theorem e43:FnE t0 q0 fuel g43 N43 (fun d:TPhys×W .i64×Unit=>T_prf_has d.1 d.2.1):=fun d k=>by kernel_rfl
theorem o45_27:Mo t45 q45 g45 27 [(3,.any),(4,.any),(7,.any),(8,.any)] (.trim [(4,.any),(7,.any)] (.loop (.mark 29 [(3,.any),(4,.any),(7,.any),(8,.any)] (mOf g45 29)))):=loop_mark (fnsC_mono _) (m:=K45_27) rfl (by kernel_rfl) (by kernel_rfl) (fun a=>by kernel_rfl) (marksE (by kernel_rfl) marks_nil) (B:=fun a:TMach×TCore×TCore×W .i64×Unit=>B_core_New_27 a.1 a.2.1 a.2.2.1 a.2.2.2.1) (fun a=>by kernel_rfl) (fun a kn kx=>by kernel_rfl)
theorem h45:MarksE t45 q45 fuel g45.keep g45.body:=(marksE (l:=[(27,[(3,.any),(4,.any),(7,.any),(8,.any)],(.trim [(4,.any),(7,.any)] (.loop (.mark 29 [(3,.any),(4,.any),(7,.any),(8,.any)] (mOf g45 29)))))]) (by kernel_rfl) (marks_cons o45_27 marks_nil))
theorem e45:FnE t45 q45 fuel g45 N45 (fun d:TConf×TMach×Unit=>T_core_New d.1 d.2.1):=fun d k=>by kernel_rfl
theorem e48:FnE t48 q0 fuel g48 N48 (fun d:W .u32×W .i64×W .i64×Unit=>T_bits_Field d.1 d.2.1 d.2.2.1):=fun d k=>by kernel_rfl
theorem e51:FnE t51 q0 fuel g51 N51 (fun d:W .i64×W .u32×Unit=>T_inst_number d.1 d.2.1):=fun d k=>by kernel_rfl
theorem e54:FnE t54 q0 fuel g54 N54 (fun d:W .i64×Unit=>T_crack_Unit d.1):=fun d k=>by kernel_rfl
theorem e60:FnE t0 q0 fuel g60 N60 (fun d:TUop×Unit=>T_place_waits d.1):=fun d k=>by kernel_rfl
theorem o66_7:Mo t66 q66 g66 7 [(1,.any),(5,.any),(8,.any),(9,.any),(10,.any)] (.trim [(5,.any)] (.loop (.mark 9 [(1,.any),(5,.any),(8,.any),(9,.any),(10,.any)] (mOf g66 9)))):=loop_mark (fnsC_mono _) (m:=K66_7) rfl (by kernel_rfl) (by kernel_rfl) (fun a=>by kernel_rfl) (marksE (by kernel_rfl) marks_nil) (B:=fun a:((Unit)×(Unit))×W .i64×Sl 168 (TUop)×W .i64×W .i64×Unit=>B_place_many_v2_7 a.2.1 a.2.2.1 a.2.2.2.1 a.2.2.2.2.1) (fun a=>by kernel_rfl) (fun a kn kx=>by kernel_rfl)
theorem h66:MarksE t66 q66 fuel g66.keep g66.body:=(marksE (l:=[(7,[(1,.any),(5,.any),(8,.any),(9,.any),(10,.any)],(.trim [(5,.any)] (.loop (.mark 9 [(1,.any),(5,.any),(8,.any),(9,.any),(10,.any)] (mOf g66 9)))))]) (by kernel_rfl) (marks_cons o66_7 marks_nil))
theorem e66:FnE t66 q66 fuel g66 N66 (fun d:Sl 168 (TUop)×((Unit)×(Unit))×Unit=>T_place_many_v2 d.1):=fun d k=>by kernel_rfl
theorem e71:FnE t0 q0 fuel g71 N71 (fun d:W .i64×Unit=>T_rat_is d.1):=fun d k=>by kernel_rfl
theorem e78:FnE t78 q0 fuel g78 N78 (fun d:Sl 248 (TRob)×TRen×W .i64×Unit=>T_rob_Put d.1 d.2.1 d.2.2.1):=fun d k=>by kernel_rfl
theorem e84:FnE t84 q0 fuel g84 N84 (fun d:TPhys×W .i64×Unit=>T_prf_Drop d.1 d.2.1):=fun d k=>by kernel_rfl
theorem e90:FnE t0 q0 fuel g90 N90 (fun d:Sl 32 (TSq)×Sl 32 (TSq)×Bool×Unit=>T_place_kept_Sq d.1 d.2.1 d.2.2.1):=fun d k=>by kernel_rfl
theorem e93:FnE t93 q0 fuel g93 N93 (fun d:Unit=>T_law45_awake):=fun d k=>by kernel_rfl
theorem e94:FnE t0 q0 fuel g94 N94 (fun d:TSlot×Unit=>T_ref24_none d.1):=fun d k=>by kernel_rfl
theorem e98:FnE t0 q0 fuel g98 N98 (fun d:W .i64×W .i64×Unit=>T_ref06_imm d.1 d.2.1):=fun d k=>by kernel_rfl
theorem e100:FnE t100 q0 fuel g100 N100 (fun d:W .u32×Unit=>T_ref06_Dec d.1):=fun d k=>by kernel_rfl
theorem e108:FnE t0 q0 fuel g108 N108 (fun d:TFree×Unit=>T_ref25_Is d.1):=fun d k=>by kernel_rfl
theorem e110:FnE t110 q0 fuel g110 N110 (fun d:TCore×Sl 168 (TUop)×Unit=>T_ref45_Fits d.1 d.2.1):=fun d k=>by kernel_rfl
theorem e111:FnE t0 q0 fuel g111 N111 (fun d:Arr 16 (W .i64)×W .i64×Unit=>T_ref26_Get d.1 d.2.1):=fun d k=>by kernel_rfl
theorem e117:FnE t0 q0 fuel g117 N117 (fun d:Sl 248 (TRob)×TRen×W .i64×Unit=>T_ref29_Put d.1 d.2.1 d.2.2.1):=fun d k=>by kernel_rfl
theorem e119:FnE t119 q0 fuel g119 N119 (fun d:TPhys×W .i64×Unit=>T_ref27_Get d.1 d.2.1):=fun d k=>by kernel_rfl
theorem e124:FnE t0 q0 fuel g124 N124 (fun d:Sl 32 (TSq)×W .u64×W .i64×Unit=>T_ref33_Put d.1 d.2.1 d.2.2.1):=fun d k=>by kernel_rfl
theorem o128_11:Mo t0 q128 g128 11 [(0,.any),(1,.any),(5,.any)] (.trim [(4,.any)] (.loop (.mark 13 [(0,.any),(1,.any),(5,.any)] (mOf g128 13)))):=loop_mark (fnsC_mono _) (m:=K128_11) rfl (by kernel_rfl) (by kernel_rfl) (fun a=>by kernel_rfl) (marksE (by kernel_rfl) marks_nil) (B:=fun a:Sl 4 (W .u32)×Sl 4 (W .u32)×W .i64×Unit=>B_same_Words_11 a.1 a.2.1 a.2.2.1) (fun a=>by kernel_rfl) (fun a kn kx=>by kernel_rfl)
theorem h128:MarksE t0 q128 fuel g128.keep g128.body:=(marksE (l:=[(11,[(0,.any),(1,.any),(5,.any)],(.trim [(4,.any)] (.loop (.mark 13 [(0,.any),(1,.any),(5,.any)] (mOf g128 13)))))]) (by kernel_rfl) (marks_cons o128_11 marks_nil))
theorem e128:FnE t0 q128 fuel g128 N128 (fun d:Sl 4 (W .u32)×Sl 4 (W .u32)×Unit=>T_same_Words d.1 d.2.1):=fun d k=>by kernel_rfl
theorem e130:FnE t130 q0 fuel g130 N130 (fun d:TPred×TPred×Unit=>T_same_Pred d.1 d.2.1):=fun d k=>by kernel_rfl
theorem o133_11:Mo t0 q133 g133 11 [(0,.any),(1,.any),(5,.any)] (.trim [(4,.any)] (.loop (.mark 13 [(0,.any),(1,.any),(5,.any)] (mOf g133 13)))):=loop_mark (fnsC_mono _) (m:=K133_11) rfl (by kernel_rfl) (by kernel_rfl) (fun a=>by kernel_rfl) (marksE (by kernel_rfl) marks_nil) (B:=fun a:Sl 8 (W .i64)×Sl 8 (W .i64)×W .i64×Unit=>B_same_Ints_11 a.1 a.2.1 a.2.2.1) (fun a=>by kernel_rfl) (fun a kn kx=>by kernel_rfl)
theorem h133:MarksE t0 q133 fuel g133.keep g133.body:=(marksE (l:=[(11,[(0,.any),(1,.any),(5,.any)],(.trim [(4,.any)] (.loop (.mark 13 [(0,.any),(1,.any),(5,.any)] (mOf g133 13)))))]) (by kernel_rfl) (marks_cons o133_11 marks_nil))
theorem e133:FnE t0 q133 fuel g133 N133 (fun d:Sl 8 (W .i64)×Sl 8 (W .i64)×Unit=>T_same_Ints d.1 d.2.1):=fun d k=>by kernel_rfl
theorem e135:FnE t135 q0 fuel g135 N135 (fun d:TNames×TNames×Unit=>T_same_Rename d.1 d.2.1):=fun d k=>by kernel_rfl
theorem o140_11:Mo t0 q140 g140 11 [(0,.any),(1,.any),(5,.any)] (.trim [(4,.any)] (.loop (.mark 13 [(0,.any),(1,.any),(5,.any)] (mOf g140 13)))):=loop_mark (fnsC_mono _) (m:=K140_11) rfl (by kernel_rfl) (by kernel_rfl) (fun a=>by kernel_rfl) (marksE (by kernel_rfl) marks_nil) (B:=fun a:Sl 48 (TLq)×Sl 48 (TLq)×W .i64×Unit=>B_same_Lqs_11 a.1 a.2.1 a.2.2.1) (fun a=>by kernel_rfl) (fun a kn kx=>by kernel_rfl)
theorem h140:MarksE t0 q140 fuel g140.keep g140.body:=(marksE (l:=[(11,[(0,.any),(1,.any),(5,.any)],(.trim [(4,.any)] (.loop (.mark 13 [(0,.any),(1,.any),(5,.any)] (mOf g140 13)))))]) (by kernel_rfl) (marks_cons o140_11 marks_nil))
theorem e140:FnE t0 q140 fuel g140 N140 (fun d:Sl 48 (TLq)×Sl 48 (TLq)×Unit=>T_same_Lqs d.1 d.2.1):=fun d k=>by kernel_rfl
theorem o145_11:Mo t0 q145 g145 11 [(0,.any),(1,.any),(5,.any)] (.trim [(4,.any)] (.loop (.mark 13 [(0,.any),(1,.any),(5,.any)] (mOf g145 13)))):=loop_mark (fnsC_mono _) (m:=K145_11) rfl (by kernel_rfl) (by kernel_rfl) (fun a=>by kernel_rfl) (marksE (by kernel_rfl) marks_nil) (B:=fun a:Sl 32 (TNote)×Sl 32 (TNote)×W .i64×Unit=>B_same_Notes_11 a.1 a.2.1 a.2.2.1) (fun a=>by kernel_rfl) (fun a kn kx=>by kernel_rfl)
theorem h145:MarksE t0 q145 fuel g145.keep g145.body:=(marksE (l:=[(11,[(0,.any),(1,.any),(5,.any)],(.trim [(4,.any)] (.loop (.mark 13 [(0,.any),(1,.any),(5,.any)] (mOf g145 13)))))]) (by kernel_rfl) (marks_cons o145_11 marks_nil))
theorem e145:FnE t0 q145 fuel g145 N145 (fun d:Sl 32 (TNote)×Sl 32 (TNote)×Unit=>T_same_Notes d.1 d.2.1):=fun d k=>by kernel_rfl
end Go.Proofs.YtkddkpmijhionaaGreatDoor
