/- YtkddkpmijhionaaGreatDoorEq3: the functions' runs are their trees. No statement of the seat is proved here. -/
import Derived.Test.YtkddkpmijhionaaGreatDoorTabs
set_option linter.unusedSimpArgs false
set_option linter.unusedVariables false
set_option maxRecDepth 100000
namespace Go.Proofs.YtkddkpmijhionaaGreatDoor
open Go Go.A2
theorem e8:FnE t8 q0 fuel g8 N8 (fun d:W .i64×W .i64×Unit=>T_bits_mask d.1 d.2.1):=fun d k=>by kernel_rfl
theorem e12:FnE t0 q0 fuel g12 N12 (fun d:TSeg×Unit=>T_rom_end d.1):=fun d k=>by kernel_rfl
theorem o13_13:Mo t13 q13 g13 13 [(3,.any),(11,.any),(12,.any),(13,.any)] (.trim [(2,.any)] (.loop (.mark 15 [(3,.any),(11,.any),(12,.any),(13,.any)] (mOf g13 15)))):=loop_mark (fnsC_mono _) (m:=K13_13) rfl (by kernel_rfl) (by kernel_rfl) (fun a=>by kernel_rfl) (marksE (by kernel_rfl) marks_nil) (B:=fun a:W .i64×Sl 32 (TSeg)×W .i64×W .i64×Unit=>B_rom_Right_13 a.1 a.2.1 a.2.2.1 a.2.2.2.1) (fun a=>by kernel_rfl) (fun a kn kx=>by kernel_rfl)
theorem h13:MarksE t13 q13 fuel g13.keep g13.body:=(marksE (l:=[(13,[(3,.any),(11,.any),(12,.any),(13,.any)],(.trim [(2,.any)] (.loop (.mark 15 [(3,.any),(11,.any),(12,.any),(13,.any)] (mOf g13 15)))))]) (by kernel_rfl) (marks_cons o13_13 marks_nil))
theorem e13:FnE t13 q13 fuel g13 N13 (fun d:TImage×Unit=>T_rom_Right d.1):=fun d k=>by kernel_rfl
theorem e18:FnE t0 q0 fuel g18 N18 (fun d:TBound×Unit=>T_core_Conf_1 d.1):=fun d k=>by kernel_rfl
theorem o19_5:Mo t19 q19 g19 5 [(0,.any),(1,.any),(7,.any),(8,.any)] (.trim [(4,.any)] (.loop (.mark 7 [(0,.any),(1,.any),(7,.any),(8,.any)] (mOf g19 7)))):=loop_mark (fnsC_mono _) (m:=K19_5) rfl (by kernel_rfl) (by kernel_rfl) (fun a=>by kernel_rfl) (marksE (by kernel_rfl) marks_nil) (B:=fun a:Sl 24 (TBound)×((Unit)×(Unit))×W .i64×W .i64×Unit=>B_slices_IndexFunc_bound_of_core_Conf_1_5 a.1 a.2.2.1 a.2.2.2.1) (fun a=>by kernel_rfl) (fun a kn kx=>by kernel_rfl)
theorem h19:MarksE t19 q19 fuel g19.keep g19.body:=(marksE (l:=[(5,[(0,.any),(1,.any),(7,.any),(8,.any)],(.trim [(4,.any)] (.loop (.mark 7 [(0,.any),(1,.any),(7,.any),(8,.any)] (mOf g19 7)))))]) (by kernel_rfl) (marks_cons o19_5 marks_nil))
theorem e19:FnE t19 q19 fuel g19 N19 (fun d:Sl 24 (TBound)×((Unit)×(Unit))×Unit=>T_slices_IndexFunc_bound_of_core_Conf_1 d.1):=fun d k=>by kernel_rfl
theorem e25:FnE t0 q0 fuel g25 N25 (fun d:TMach×Unit=>T_step_Copy d.1):=fun d k=>by kernel_rfl
theorem e30:FnE t30 q0 fuel g30 N30 (fun d:W .i64×Unit=>T_pht_New d.1):=fun d k=>by kernel_rfl
theorem e34:FnE t0 q0 fuel g34 N34 (fun d:W .i64×Unit=>T_tlb_New d.1):=fun d k=>by kernel_rfl
theorem o37_11:Mo t0 q37 g37 11 [(1,.any),(4,.any),(5,.any),(21,.any),(22,.any)] (.trim [(4,.any),(5,.any)] (.loop (.mark 13 [(1,.any),(4,.any),(5,.any),(21,.any),(22,.any)] (mOf g37 13)))):=loop_mark (fnsC_mono _) (m:=K37_11) rfl (by kernel_rfl) (by kernel_rfl) (fun a=>by kernel_rfl) (marksE (by kernel_rfl) marks_nil) (B:=fun a:W .i64×TFree×TFree×W .i64×W .i64×Unit=>B_freel_New_11 a.1 a.2.1 a.2.2.1 a.2.2.2.1 a.2.2.2.2.1) (fun a=>by kernel_rfl) (fun a kn kx=>by kernel_rfl)
theorem h37:MarksE t0 q37 fuel g37.keep g37.body:=(marksE (l:=[(11,[(1,.any),(4,.any),(5,.any),(21,.any),(22,.any)],(.trim [(4,.any),(5,.any)] (.loop (.mark 13 [(1,.any),(4,.any),(5,.any),(21,.any),(22,.any)] (mOf g37 13)))))]) (by kernel_rfl) (marks_cons o37_11 marks_nil))
theorem e37:FnE t0 q37 fuel g37 N37 (fun d:W .i64×W .i64×Unit=>T_freel_New d.1 d.2.1):=fun d k=>by kernel_rfl
theorem e46:FnE t0 q0 fuel g46 N46 (fun d:Unit=>T_crack_none):=fun d k=>by kernel_rfl
theorem e50:FnE t50 q0 fuel g50 N50 (fun d:W .u32×W .i64×Unit=>T_bits_Sext d.1 d.2.1):=fun d k=>by kernel_rfl
theorem e52:FnE t52 q0 fuel g52 N52 (fun d:W .u32×Unit=>T_inst_Dec d.1):=fun d k=>by kernel_rfl
theorem e53:FnE t0 q0 fuel g53 N53 (fun d:W .i64×Unit=>T_crack_Serial d.1):=fun d k=>by kernel_rfl
theorem e56:FnE t56 q0 fuel g56 N56 (fun d:TInst×Unit=>T_crack_sources d.1):=fun d k=>by kernel_rfl
theorem e57:FnE t57 q0 fuel g57 N57 (fun d:TInst×Unit=>T_crack_target d.1):=fun d k=>by kernel_rfl
theorem e59:FnE t59 q0 fuel g59 N59 (fun d:TSlot×Unit=>T_crack_Uops d.1):=fun d k=>by kernel_rfl
theorem e63:FnE t0 q0 fuel g63 N63 (fun d:TUop×W .i64×Unit=>T_place_of_1 d.1 d.2.1):=fun d k=>by kernel_rfl
theorem o69_15:Mo t69 q69 g69 15 [(1,.any),(3,.any),(4,.own),(12,.any),(13,.any)] (.trim [(4,.any)] (.loop (.mark 17 [(1,.any),(3,.any),(4,.own),(12,.any),(13,.any)] (mOf g69 17)))):=loop_mark (fnsC_mono _) (m:=K69_15) rfl (by kernel_rfl) (by kernel_rfl) (fun a=>by kernel_rfl) (marksE (by kernel_rfl) marks_nil) (B:=fun a:TFree×((TFree×Unit)×(Unit))×Sl 8 (W .i64)×W .i64×W .i64×Unit=>B_freel_List_15 a.1 a.2.1.1.1 a.2.2.1 a.2.2.2.1 a.2.2.2.2.1) (fun a=>by kernel_rfl) (fun a kn kx=>by kernel_rfl)
theorem h69:MarksE t69 q69 fuel g69.keep g69.body:=(marksE (l:=[(15,[(1,.any),(3,.any),(4,.own),(12,.any),(13,.any)],(.trim [(4,.any)] (.loop (.mark 17 [(1,.any),(3,.any),(4,.own),(12,.any),(13,.any)] (mOf g69 17)))))]) (by kernel_rfl) (marks_cons o69_15 marks_nil))
theorem e69:FnE t69 q69 fuel g69 N69 (fun d:TFree×Unit=>T_freel_List d.1):=fun d k=>by kernel_rfl
theorem e70:FnE t70 q0 fuel g70 N70 (fun d:TCore×Sl 168 (TUop)×Unit=>T_place_Fits d.1 d.2.1):=fun d k=>by kernel_rfl
theorem e72:FnE t72 q0 fuel g72 N72 (fun d:Arr 16 (W .i64)×W .i64×Unit=>T_rat_Get d.1 d.2.1):=fun d k=>by kernel_rfl
theorem e79:FnE t0 q0 fuel g79 N79 (fun d:Sl 248 (TRob)×Sl 248 (TRob)×Bool×Unit=>T_place_kept_Rob d.1 d.2.1 d.2.2.1):=fun d k=>by kernel_rfl
theorem e80:FnE t80 q0 fuel g80 N80 (fun d:TPhys×W .i64×Unit=>T_prf_Get d.1 d.2.1):=fun d k=>by kernel_rfl
theorem e86:FnE t86 q0 fuel g86 N86 (fun d:Sl 48 (TLq)×W .u64×W .u32×W .i64×Unit=>T_lq_Put d.1 d.2.1 d.2.2.1 d.2.2.2.1):=fun d k=>by kernel_rfl
theorem e96:FnE t0 q0 fuel g96 N96 (fun d:W .i64×W .i64×Unit=>T_ref06_Has d.1 d.2.1):=fun d k=>by kernel_rfl
theorem e102:FnE t0 q0 fuel g102 N102 (fun d:W .i64×Unit=>T_ref24_Serial d.1):=fun d k=>by kernel_rfl
theorem e115:FnE t0 q0 fuel g115 N115 (fun d:Arr 16 (W .i64)×W .i64×W .i64×Unit=>T_ref26_Set d.1 d.2.1 d.2.2.1):=fun d k=>by kernel_rfl
theorem o116_7:Mo t116 q116 g116 7 [(2,.any),(3,.any),(4,.any),(5,.any),(7,.any),(8,.any)] (.trim [(2,.any),(3,.any),(4,.any),(5,.any),(7,.any)] (.loop (.mark 9 [(2,.any),(3,.any),(4,.any),(5,.any),(7,.any),(8,.any)] (mOf g116 9)))):=loop_mark (fnsC_mono _) (m:=K116_7) rfl (by kernel_rfl) (by kernel_rfl) (fun a=>by kernel_rfl) (marksE (by kernel_rfl) marks_nil) (B:=fun a:TNames×TUop×TNames×TRen×TRen×W .i64×Unit=>B_ref28_One_7 a.1 a.2.1 a.2.2.1 a.2.2.2.1 a.2.2.2.2.1 a.2.2.2.2.2.1) (fun a=>by kernel_rfl) (fun a kn kx=>by kernel_rfl)
theorem h116:MarksE t116 q116 fuel g116.keep g116.body:=(marksE (l:=[(7,[(2,.any),(3,.any),(4,.any),(5,.any),(7,.any),(8,.any)],(.trim [(2,.any),(3,.any),(4,.any),(5,.any),(7,.any)] (.loop (.mark 9 [(2,.any),(3,.any),(4,.any),(5,.any),(7,.any),(8,.any)] (mOf g116 9)))))]) (by kernel_rfl) (marks_cons o116_7 marks_nil))
theorem e116:FnE t116 q116 fuel g116 N116 (fun d:TNames×TUop×Unit=>T_ref28_One d.1 d.2.1):=fun d k=>by kernel_rfl
theorem e120:FnE t0 q0 fuel g120 N120 (fun d:Sl 224 (TIq)×TRen×Arr 3 (Bool)×W .i64×Unit=>T_ref30_Put d.1 d.2.1 d.2.2.1 d.2.2.2.1):=fun d k=>by kernel_rfl
theorem o125_19:Mo t125 q125 g125 19 [(2,.any),(3,.any),(4,.any),(5,.any),(7,.any),(11,.any),(12,.any)] (.trim [(2,.any),(3,.any),(4,.any),(5,.any),(7,.any),(11,.any)] (.loop (.mark 21 [(2,.any),(3,.any),(4,.any),(5,.any),(7,.any),(11,.any),(12,.any)] (mOf g125 21)))):=loop_mark (fnsC_mono _) (m:=K125_19) rfl (by kernel_rfl) (by kernel_rfl) (fun a=>by kernel_rfl) (marksE (by kernel_rfl) marks_nil) (B:=fun a:TCore×TUop×TCore×TNote×TRen×Arr 3 (Bool)×W .i64×Unit=>B_ref45_put_19 a.1 a.2.1 a.2.2.1 a.2.2.2.1 a.2.2.2.2.1 a.2.2.2.2.2.1 a.2.2.2.2.2.2.1) (fun a=>by kernel_rfl) (fun a kn kx=>by kernel_rfl)
theorem h125:MarksE t125 q125 fuel g125.keep g125.body:=(marksE (l:=[(19,[(2,.any),(3,.any),(4,.any),(5,.any),(7,.any),(11,.any),(12,.any)],(.trim [(2,.any),(3,.any),(4,.any),(5,.any),(7,.any),(11,.any)] (.loop (.mark 21 [(2,.any),(3,.any),(4,.any),(5,.any),(7,.any),(11,.any),(12,.any)] (mOf g125 21)))))]) (by kernel_rfl) (marks_cons o125_19 marks_nil))
theorem e125:FnE t125 q125 fuel g125 N125 (fun d:TCore×TUop×Unit=>T_ref45_put d.1 d.2.1):=fun d k=>by kernel_rfl
theorem o126_32:Mo t126 q126 g126 32 [(2,.fz),(4,.any),(6,.any),(7,.any),(8,.any),(9,.any)] (.trim [(2,.any),(4,.any),(6,.any),(7,.any)] (.loop (.mark 34 [(2,.fz),(4,.any),(6,.any),(7,.any),(8,.any),(9,.any)] (mOf g126 34)))):=loop_mark (fnsC_mono _) (m:=K126_32) rfl (by kernel_rfl) (by kernel_rfl) (fun a=>by kernel_rfl) (marksE (by kernel_rfl) marks_nil) (B:=fun a:TCore×TCore×Sl 32 (TNote)×W .i64×Sl 168 (TUop)×W .i64×Unit=>B_ref45_Stage_32 a.1 a.2.1 a.2.2.1 a.2.2.2.1 a.2.2.2.2.1 a.2.2.2.2.2.1) (fun a=>by kernel_rfl) (fun a kn kx=>by kernel_rfl)
theorem o126_13:Mo t126 q126 g126 13 [(2,.any),(4,.any),(6,.any),(7,.any)] (.trim [(2,.any),(4,.any),(5,.any),(6,.any)] (.loop (.mark 15 [(2,.any),(4,.any),(6,.any),(7,.any)] (mOf g126 15)))):=loop_mark (fnsC_mono _) (m:=K126_13) rfl (by kernel_rfl) (by kernel_rfl) (fun a=>by kernel_rfl) (marksE (l:=[(32,[(2,.fz),(4,.any),(6,.any),(7,.any),(8,.any),(9,.any)],(.trim [(2,.any),(4,.any),(6,.any),(7,.any)] (.loop (.mark 34 [(2,.fz),(4,.any),(6,.any),(7,.any),(8,.any),(9,.any)] (mOf g126 34)))))]) (by kernel_rfl) (marks_cons o126_32 marks_nil)) (B:=fun a:TCore×TCore×Sl 32 (TNote)×W .i64×Unit=>B_ref45_Stage_13 a.1 a.2.1 a.2.2.1 a.2.2.2.1) (fun a=>by kernel_rfl) (fun a kn kx=>by kernel_rfl)
theorem h126:MarksE t126 q126 fuel g126.keep g126.body:=(marksE (l:=[(13,[(2,.any),(4,.any),(6,.any),(7,.any)],(.trim [(2,.any),(4,.any),(5,.any),(6,.any)] (.loop (.mark 15 [(2,.any),(4,.any),(6,.any),(7,.any)] (mOf g126 15)))))]) (by kernel_rfl) (marks_cons o126_13 marks_nil))
theorem e126:FnE t126 q126 fuel g126 N126 (fun d:TCore×TTick×Unit=>T_ref45_Stage d.1 d.2.1):=fun d k=>by kernel_rfl
theorem o129_11:Mo t0 q129 g129 11 [(0,.any),(1,.any),(5,.any)] (.trim [(4,.any)] (.loop (.mark 13 [(0,.any),(1,.any),(5,.any)] (mOf g129 13)))):=loop_mark (fnsC_mono _) (m:=K129_11) rfl (by kernel_rfl) (by kernel_rfl) (fun a=>by kernel_rfl) (marksE (by kernel_rfl) marks_nil) (B:=fun a:Sl 16 (TBtb)×Sl 16 (TBtb)×W .i64×Unit=>B_same_Btbs_11 a.1 a.2.1 a.2.2.1) (fun a=>by kernel_rfl) (fun a kn kx=>by kernel_rfl)
theorem h129:MarksE t0 q129 fuel g129.keep g129.body:=(marksE (l:=[(11,[(0,.any),(1,.any),(5,.any)],(.trim [(4,.any)] (.loop (.mark 13 [(0,.any),(1,.any),(5,.any)] (mOf g129 13)))))]) (by kernel_rfl) (marks_cons o129_11 marks_nil))
theorem e129:FnE t0 q129 fuel g129 N129 (fun d:Sl 16 (TBtb)×Sl 16 (TBtb)×Unit=>T_same_Btbs d.1 d.2.1):=fun d k=>by kernel_rfl
theorem o136_11:Mo t0 q136 g136 11 [(0,.any),(1,.any),(5,.any)] (.trim [(4,.any)] (.loop (.mark 13 [(0,.any),(1,.any),(5,.any)] (mOf g136 13)))):=loop_mark (fnsC_mono _) (m:=K136_11) rfl (by kernel_rfl) (by kernel_rfl) (fun a=>by kernel_rfl) (marksE (by kernel_rfl) marks_nil) (B:=fun a:Sl 1 (Bool)×Sl 1 (Bool)×W .i64×Unit=>B_same_Bools_11 a.1 a.2.1 a.2.2.1) (fun a=>by kernel_rfl) (fun a kn kx=>by kernel_rfl)
theorem h136:MarksE t0 q136 fuel g136.keep g136.body:=(marksE (l:=[(11,[(0,.any),(1,.any),(5,.any)],(.trim [(4,.any)] (.loop (.mark 13 [(0,.any),(1,.any),(5,.any)] (mOf g136 13)))))]) (by kernel_rfl) (marks_cons o136_11 marks_nil))
theorem e136:FnE t0 q136 fuel g136 N136 (fun d:Sl 1 (Bool)×Sl 1 (Bool)×Unit=>T_same_Bools d.1 d.2.1):=fun d k=>by kernel_rfl
theorem e137:FnE t137 q0 fuel g137 N137 (fun d:TPhys×TPhys×Unit=>T_same_Phys d.1 d.2.1):=fun d k=>by kernel_rfl
theorem o141_11:Mo t0 q141 g141 11 [(0,.any),(1,.any),(5,.any)] (.trim [(4,.any)] (.loop (.mark 13 [(0,.any),(1,.any),(5,.any)] (mOf g141 13)))):=loop_mark (fnsC_mono _) (m:=K141_11) rfl (by kernel_rfl) (by kernel_rfl) (fun a=>by kernel_rfl) (marksE (by kernel_rfl) marks_nil) (B:=fun a:Sl 32 (TSq)×Sl 32 (TSq)×W .i64×Unit=>B_same_Sqs_11 a.1 a.2.1 a.2.2.1) (fun a=>by kernel_rfl) (fun a kn kx=>by kernel_rfl)
theorem h141:MarksE t0 q141 fuel g141.keep g141.body:=(marksE (l:=[(11,[(0,.any),(1,.any),(5,.any)],(.trim [(4,.any)] (.loop (.mark 13 [(0,.any),(1,.any),(5,.any)] (mOf g141 13)))))]) (by kernel_rfl) (marks_cons o141_11 marks_nil))
theorem e141:FnE t0 q141 fuel g141 N141 (fun d:Sl 32 (TSq)×Sl 32 (TSq)×Unit=>T_same_Sqs d.1 d.2.1):=fun d k=>by kernel_rfl
theorem e146:FnE t146 q0 fuel g146 N146 (fun d:TCore×TTick×Unit=>T_law45_PlaceStage d.1 d.2.1):=fun d k=>by kernel_rfl
end Go.Proofs.YtkddkpmijhionaaGreatDoor
