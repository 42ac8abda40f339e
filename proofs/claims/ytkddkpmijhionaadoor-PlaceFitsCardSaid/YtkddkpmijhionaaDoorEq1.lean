/- YtkddkpmijhionaaDoorEq1: the functions' runs are their trees. No statement of the seat is proved here. -/
import Derived.Test.YtkddkpmijhionaaDoorTabs
set_option linter.unusedSimpArgs false
set_option linter.unusedVariables false
set_option maxRecDepth 100000
namespace Go.Proofs.YtkddkpmijhionaaDoor
open Go Go.A2
theorem e6:FnE t0 q0 fuel g6 N6 (fun d:W .i64×W .i64×W .i64×Unit=>T_bits_clamp d.1 d.2.1 d.2.2.1):=fun d k=>by kernel_rfl
theorem e10:FnE t10 q0 fuel g10 N10 (fun d:W .i64×Unit=>T_inst_width d.1):=fun d k=>by kernel_rfl
theorem o13_13:Mo t13 q13 g13 13 [(3,.any),(11,.any),(12,.any),(13,.any)] (.trim [(2,.any)] (.loop (.mark 15 [(3,.any),(11,.any),(12,.any),(13,.any)] (mOf g13 15)))):=loop_mark (fnsC_mono _) (m:=K13_13) rfl (by kernel_rfl) (by kernel_rfl) (fun a=>by kernel_rfl) (marksE (by kernel_rfl) marks_nil) (B:=fun a:W .i64×Sl 32 (TSeg)×W .i64×W .i64×Unit=>B_rom_Right_13 a.1 a.2.1 a.2.2.1 a.2.2.2.1) (fun a=>by kernel_rfl) (fun a kn kx=>by kernel_rfl)
theorem h13:MarksE t13 q13 fuel g13.keep g13.body:=(marksE (l:=[(13,[(3,.any),(11,.any),(12,.any),(13,.any)],(.trim [(2,.any)] (.loop (.mark 15 [(3,.any),(11,.any),(12,.any),(13,.any)] (mOf g13 15)))))]) (by kernel_rfl) (marks_cons o13_13 marks_nil))
theorem e13:FnE t13 q13 fuel g13 N13 (fun d:TImage×Unit=>T_rom_Right d.1):=fun d k=>by kernel_rfl
theorem e16:FnE t0 q0 fuel g16 N16 (fun d:Unit=>T_core_Plain):=fun d k=>by kernel_rfl
theorem o19_5:Mo t19 q19 g19 5 [(0,.any),(1,.any),(7,.any),(8,.any)] (.trim [(4,.any)] (.loop (.mark 7 [(0,.any),(1,.any),(7,.any),(8,.any)] (mOf g19 7)))):=loop_mark (fnsC_mono _) (m:=K19_5) rfl (by kernel_rfl) (by kernel_rfl) (fun a=>by kernel_rfl) (marksE (by kernel_rfl) marks_nil) (B:=fun a:Sl 24 (TBound)×((Unit)×(Unit))×W .i64×W .i64×Unit=>B_slices_IndexFunc_bound_of_core_Conf_1_5 a.1 a.2.2.1 a.2.2.2.1) (fun a=>by kernel_rfl) (fun a kn kx=>by kernel_rfl)
theorem h19:MarksE t19 q19 fuel g19.keep g19.body:=(marksE (l:=[(5,[(0,.any),(1,.any),(7,.any),(8,.any)],(.trim [(4,.any)] (.loop (.mark 7 [(0,.any),(1,.any),(7,.any),(8,.any)] (mOf g19 7)))))]) (by kernel_rfl) (marks_cons o19_5 marks_nil))
theorem e19:FnE t19 q19 fuel g19 N19 (fun d:Sl 24 (TBound)×((Unit)×(Unit))×Unit=>T_slices_IndexFunc_bound_of_core_Conf_1 d.1):=fun d k=>by kernel_rfl
theorem e21:FnE t21 q0 fuel g21 N21 (fun d:TConf×Unit=>T_core_Conf d.1):=fun d k=>by kernel_rfl
theorem e24:FnE t24 q0 fuel g24 N24 (fun d:TMach×Unit=>T_core_right d.1):=fun d k=>by kernel_rfl
theorem e26:FnE t0 q0 fuel g26 N26 (fun d:W .i64×Unit=>T_pht_clamp d.1):=fun d k=>by kernel_rfl
theorem o29_17:Mo t29 q29 g29 17 [(7,.any),(8,.any)] (.trim [(7,.any)] (.loop (.mark 19 [(7,.any),(8,.any)] (mOf g29 19)))):=loop_mark (fnsC_mono _) (m:=K29_17) rfl (by kernel_rfl) (by kernel_rfl) (fun a=>by kernel_rfl) (marksE (by kernel_rfl) marks_nil) (B:=fun a:Sl 1 (W .u8)×W .i64×Unit=>B_slices_Repeat_uint8_17 a.1 a.2.1) (fun a=>by kernel_rfl) (fun a kn kx=>by kernel_rfl)
theorem h29:MarksE t29 q29 fuel g29.keep g29.body:=(marksE (l:=[(17,[(7,.any),(8,.any)],(.trim [(7,.any)] (.loop (.mark 19 [(7,.any),(8,.any)] (mOf g29 19)))))]) (by kernel_rfl) (marks_cons o29_17 marks_nil))
theorem e29:FnE t29 q29 fuel g29 N29 (fun d:Sl 1 (W .u8)×W .i64×Unit=>T_slices_Repeat_uint8 d.1 d.2.1):=fun d k=>by kernel_rfl
theorem e31:FnE t0 q0 fuel g31 N31 (fun d:W .i64×Unit=>T_btb_New d.1):=fun d k=>by kernel_rfl
theorem e35:FnE t0 q0 fuel g35 N35 (fun d:W .i64×Unit=>T_dep_New d.1):=fun d k=>by kernel_rfl
theorem e43:FnE t0 q0 fuel g43 N43 (fun d:TPhys×W .i64×Unit=>T_prf_has d.1 d.2.1):=fun d k=>by kernel_rfl
theorem e47:FnE t47 q0 fuel g47 N47 (fun d:TSlot×W .i64×W .u32×Unit=>T_crack_trap d.1 d.2.1 d.2.2.1):=fun d k=>by kernel_rfl
theorem e52:FnE t52 q0 fuel g52 N52 (fun d:W .u32×Unit=>T_inst_Dec d.1):=fun d k=>by kernel_rfl
theorem e55:FnE t0 q0 fuel g55 N55 (fun d:W .i64×Unit=>T_crack_reg d.1):=fun d k=>by kernel_rfl
theorem e58:FnE t58 q0 fuel g58 N58 (fun d:TSlot×TInst×W .i64×Bool×Unit=>T_crack_part d.1 d.2.1 d.2.2.1 d.2.2.2.1):=fun d k=>by kernel_rfl
theorem e59:FnE t59 q0 fuel g59 N59 (fun d:TSlot×Unit=>T_crack_Uops d.1):=fun d k=>by kernel_rfl
theorem e68:FnE t0 q0 fuel g68 N68 (fun d:TFree×W .i64×Unit=>T_freel_ring_at d.1 d.2.1):=fun d k=>by kernel_rfl
theorem e73:FnE t0 q0 fuel g73 N73 (fun d:TUop×Unit=>T_rename_writes d.1):=fun d k=>by kernel_rfl
theorem e82:FnE t82 q0 fuel g82 N82 (fun d:Sl 224 (TIq)×TRen×Arr 3 (Bool)×W .i64×Unit=>T_iq_Put d.1 d.2.1 d.2.2.1 d.2.2.2.1):=fun d k=>by kernel_rfl
theorem e87:FnE t0 q0 fuel g87 N87 (fun d:Sl 48 (TLq)×Sl 48 (TLq)×Bool×Unit=>T_place_kept_Lq d.1 d.2.1 d.2.2.1):=fun d k=>by kernel_rfl
theorem o95_7:Mo t0 q95 g95 7 [(0,.any),(3,.any),(4,.any)] (.trim [(3,.any)] (.loop (.mark 9 [(0,.any),(3,.any),(4,.any)] (mOf g95 9)))):=loop_mark (fnsC_mono _) (m:=K95_7) rfl (by kernel_rfl) (by kernel_rfl) (fun a=>by kernel_rfl) (marksE (by kernel_rfl) marks_nil) (B:=fun a:Sl 168 (TUop)×W .i64×W .i64×Unit=>B_ref45_writers_7 a.1 a.2.1 a.2.2.1) (fun a=>by kernel_rfl) (fun a kn kx=>by kernel_rfl)
theorem h95:MarksE t0 q95 fuel g95.keep g95.body:=(marksE (l:=[(7,[(0,.any),(3,.any),(4,.any)],(.trim [(3,.any)] (.loop (.mark 9 [(0,.any),(3,.any),(4,.any)] (mOf g95 9)))))]) (by kernel_rfl) (marks_cons o95_7 marks_nil))
theorem e95:FnE t0 q95 fuel g95 N95 (fun d:Sl 168 (TUop)×Unit=>T_ref45_writers d.1):=fun d k=>by kernel_rfl
theorem e96:FnE t0 q0 fuel g96 N96 (fun d:TFree×Unit=>T_ref25_Is d.1):=fun d k=>by kernel_rfl
theorem o97_13:Mo t97 q97 g97 13 [(1,.any),(3,.any),(4,.any)] (.trim [(3,.any)] (.loop (.mark 15 [(1,.any),(3,.any),(4,.any)] (mOf g97 15)))):=loop_mark (fnsC_mono _) (m:=K97_13) rfl (by kernel_rfl) (by kernel_rfl) (fun a=>by kernel_rfl) (marksE (by kernel_rfl) marks_nil) (B:=fun a:TFree×Sl 8 (W .i64)×W .i64×Unit=>B_ref25_List_13 a.1 a.2.1 a.2.2.1) (fun a=>by kernel_rfl) (fun a kn kx=>by kernel_rfl)
theorem h97:MarksE t97 q97 fuel g97.keep g97.body:=(marksE (l:=[(13,[(1,.any),(3,.any),(4,.any)],(.trim [(3,.any)] (.loop (.mark 15 [(1,.any),(3,.any),(4,.any)] (mOf g97 15)))))]) (by kernel_rfl) (marks_cons o97_13 marks_nil))
theorem e97:FnE t97 q97 fuel g97 N97 (fun d:TFree×Unit=>T_ref25_List d.1):=fun d k=>by kernel_rfl
end Go.Proofs.YtkddkpmijhionaaDoor
