/- YtkddkpmijhionaaGreatDoorEq2: the functions' runs are their trees. No statement of the seat is proved here. -/
import Derived.Test.YtkddkpmijhionaaGreatDoorTabs
set_option linter.unusedSimpArgs false
set_option linter.unusedVariables false
set_option maxRecDepth 100000
namespace Go.Proofs.YtkddkpmijhionaaGreatDoor
open Go Go.A2
theorem e1:FnE t0 q0 fuel g1 N1 (fun d:TCore×Unit=>T_law45_Light d.1):=fun d k=>by kernel_rfl
theorem e3:FnE t3 q0 fuel g3 N3 (fun d:W .i64×W .i64×Unit=>T_inst_has d.1 d.2.1):=fun d k=>by kernel_rfl
theorem e4:FnE t0 q0 fuel g4 N4 (fun d:W .i64×W .i64×Unit=>T_inst_within d.1 d.2.1):=fun d k=>by kernel_rfl
theorem e9:FnE t9 q0 fuel g9 N9 (fun d:W .u32×W .i64×W .i64×W .u32×Unit=>T_bits_Put d.1 d.2.1 d.2.2.1 d.2.2.2.1):=fun d k=>by kernel_rfl
theorem e11:FnE t11 q0 fuel g11 N11 (fun d:TInst×Unit=>T_inst_Enc d.1):=fun d k=>by kernel_rfl
theorem e20:FnE t20 q0 fuel g20 N20 (fun d:Sl 24 (TBound)×((Unit)×(Unit))×Unit=>T_slices_ContainsFunc_bound_of_core_Conf_1 d.1):=fun d k=>by kernel_rfl
theorem e21:FnE t21 q0 fuel g21 N21 (fun d:TConf×Unit=>T_core_Conf d.1):=fun d k=>by kernel_rfl
theorem o23_5:Mo t23 q23 g23 5 [(1,.any),(6,.any),(7,.any)] (.trim [(1,.any),(2,.any)] (.loop (.mark 7 [(1,.any),(6,.any),(7,.any)] (mOf g23 7)))):=loop_mark (fnsC_mono _) (m:=K23_5) rfl (by kernel_rfl) (by kernel_rfl) (fun a=>by kernel_rfl) (marksE (by kernel_rfl) marks_nil) (B:=fun a:TArch×Arr 12 (W .u32)×W .i64×Unit=>B_core_clean_5 a.1 a.2.1 a.2.2.1) (fun a=>by kernel_rfl) (fun a kn kx=>by kernel_rfl)
theorem h23:MarksE t23 q23 fuel g23.keep g23.body:=(marksE (l:=[(5,[(1,.any),(6,.any),(7,.any)],(.trim [(1,.any),(2,.any)] (.loop (.mark 7 [(1,.any),(6,.any),(7,.any)] (mOf g23 7)))))]) (by kernel_rfl) (marks_cons o23_5 marks_nil))
theorem e23:FnE t23 q23 fuel g23 N23 (fun d:TArch×Unit=>T_core_clean d.1):=fun d k=>by kernel_rfl
theorem e28:FnE t28 q0 fuel g28 N28 (fun d:W .u64×W .u64×Unit=>T_bits_Mul d.1 d.2.1):=fun d k=>by kernel_rfl
theorem e33:FnE t33 q0 fuel g33 N33 (fun d:TConf×Unit=>T_pred_New d.1):=fun d k=>by kernel_rfl
theorem o36_7:Mo t0 q36 g36 7 [(0,.any),(1,.any),(2,.any)] (.trim [(0,.any),(1,.any)] (.loop (.mark 9 [(0,.any),(1,.any),(2,.any)] (mOf g36 9)))):=loop_mark (fnsC_mono _) (m:=K36_7) rfl (by kernel_rfl) (by kernel_rfl) (fun a=>by kernel_rfl) (marksE (by kernel_rfl) marks_nil) (B:=fun a:Arr 16 (W .i64)×Arr 16 (W .i64)×W .i64×Unit=>B_rat_New_7 a.1 a.2.1 a.2.2.1) (fun a=>by kernel_rfl) (fun a kn kx=>by kernel_rfl)
theorem h36:MarksE t0 q36 fuel g36.keep g36.body:=(marksE (l:=[(7,[(0,.any),(1,.any),(2,.any)],(.trim [(0,.any),(1,.any)] (.loop (.mark 9 [(0,.any),(1,.any),(2,.any)] (mOf g36 9)))))]) (by kernel_rfl) (marks_cons o36_7 marks_nil))
theorem e36:FnE t0 q36 fuel g36 N36 (fun d:Unit=>T_rat_New):=fun d k=>by kernel_rfl
theorem e40:FnE t40 q0 fuel g40 N40 (fun d:W .i64×Unit=>T_prf_New d.1):=fun d k=>by kernel_rfl
theorem e49:FnE t49 q0 fuel g49 N49 (fun d:W .u32×W .i64×Unit=>T_bits_Zext d.1 d.2.1):=fun d k=>by kernel_rfl
theorem e55:FnE t0 q0 fuel g55 N55 (fun d:W .i64×Unit=>T_crack_reg d.1):=fun d k=>by kernel_rfl
theorem o61_7:Mo t61 q61 g61 7 [(1,.any),(5,.any),(8,.any),(9,.any),(10,.any)] (.trim [(5,.any)] (.loop (.mark 9 [(1,.any),(5,.any),(8,.any),(9,.any),(10,.any)] (mOf g61 9)))):=loop_mark (fnsC_mono _) (m:=K61_7) rfl (by kernel_rfl) (by kernel_rfl) (fun a=>by kernel_rfl) (marksE (by kernel_rfl) marks_nil) (B:=fun a:((Unit)×(Unit))×W .i64×Sl 168 (TUop)×W .i64×W .i64×Unit=>B_place_many_7 a.2.1 a.2.2.1 a.2.2.2.1 a.2.2.2.2.1) (fun a=>by kernel_rfl) (fun a kn kx=>by kernel_rfl)
theorem h61:MarksE t61 q61 fuel g61.keep g61.body:=(marksE (l:=[(7,[(1,.any),(5,.any),(8,.any),(9,.any),(10,.any)],(.trim [(5,.any)] (.loop (.mark 9 [(1,.any),(5,.any),(8,.any),(9,.any),(10,.any)] (mOf g61 9)))))]) (by kernel_rfl) (marks_cons o61_7 marks_nil))
theorem e61:FnE t61 q61 fuel g61 N61 (fun d:Sl 168 (TUop)×((Unit)×(Unit))×Unit=>T_place_many d.1):=fun d k=>by kernel_rfl
theorem e62:FnE t0 q0 fuel g62 N62 (fun d:W .i64×Unit=>T_place_of d.1):=fun d k=>by kernel_rfl
theorem e67:FnE t0 q0 fuel g67 N67 (fun d:TFree×Unit=>T_freel_ring_sound d.1):=fun d k=>by kernel_rfl
theorem e73:FnE t0 q0 fuel g73 N73 (fun d:TUop×Unit=>T_rename_writes d.1):=fun d k=>by kernel_rfl
theorem e74:FnE t74 q0 fuel g74 N74 (fun d:TFree×Unit=>T_freel_Take d.1):=fun d k=>by kernel_rfl
theorem o76_7:Mo t76 q76 g76 7 [(2,.any),(3,.any),(4,.any),(5,.any),(7,.any),(18,.any),(19,.any)] (.trim [(2,.any),(3,.any),(4,.any),(5,.any),(7,.any)] (.loop (.mark 9 [(2,.any),(3,.any),(4,.any),(5,.any),(7,.any),(18,.any),(19,.any)] (mOf g76 9)))):=loop_mark (fnsC_mono _) (m:=K76_7) rfl (by kernel_rfl) (by kernel_rfl) (fun a=>by kernel_rfl) (marksE (by kernel_rfl) marks_nil) (B:=fun a:TNames×TUop×TNames×TRen×TRen×Arr 3 (W .i64)×W .i64×Unit=>B_rename_One_7 a.1 a.2.1 a.2.2.1 a.2.2.2.1 a.2.2.2.2.1 a.2.2.2.2.2.1 a.2.2.2.2.2.2.1) (fun a=>by kernel_rfl) (fun a kn kx=>by kernel_rfl)
theorem h76:MarksE t76 q76 fuel g76.keep g76.body:=(marksE (l:=[(7,[(2,.any),(3,.any),(4,.any),(5,.any),(7,.any),(18,.any),(19,.any)],(.trim [(2,.any),(3,.any),(4,.any),(5,.any),(7,.any)] (.loop (.mark 9 [(2,.any),(3,.any),(4,.any),(5,.any),(7,.any),(18,.any),(19,.any)] (mOf g76 9)))))]) (by kernel_rfl) (marks_cons o76_7 marks_nil))
theorem e76:FnE t76 q76 fuel g76 N76 (fun d:TNames×TUop×Unit=>T_rename_One d.1 d.2.1):=fun d k=>by kernel_rfl
theorem e82:FnE t82 q0 fuel g82 N82 (fun d:Sl 224 (TIq)×TRen×Arr 3 (Bool)×W .i64×Unit=>T_iq_Put d.1 d.2.1 d.2.2.1 d.2.2.2.1):=fun d k=>by kernel_rfl
theorem e87:FnE t0 q0 fuel g87 N87 (fun d:Sl 48 (TLq)×Sl 48 (TLq)×Bool×Unit=>T_place_kept_Lq d.1 d.2.1 d.2.2.1):=fun d k=>by kernel_rfl
theorem o91_19:Mo t91 q91 g91 19 [(2,.any),(3,.any),(4,.any),(5,.any),(7,.any),(9,.any),(10,.any),(13,.any),(55,.any),(56,.any)] (.trim [(2,.any),(3,.any),(4,.any),(5,.any),(7,.any),(9,.any),(10,.any),(13,.any)] (.loop (.mark 21 [(2,.any),(3,.any),(4,.any),(5,.any),(7,.any),(9,.any),(10,.any),(13,.any),(55,.any),(56,.any)] (mOf g91 21)))):=loop_mark (fnsC_mono _) (m:=K91_19) rfl (by kernel_rfl) (by kernel_rfl) (fun a=>by kernel_rfl) (marksE (by kernel_rfl) marks_nil) (B:=fun a:TCore×TUop×TCore×TNote×TRen×TConf×W .u32×Arr 3 (Bool)×Arr 3 (W .i64)×W .i64×Unit=>B_place_put_19 a.1 a.2.1 a.2.2.1 a.2.2.2.1 a.2.2.2.2.1 a.2.2.2.2.2.1 a.2.2.2.2.2.2.1 a.2.2.2.2.2.2.2.1 a.2.2.2.2.2.2.2.2.1 a.2.2.2.2.2.2.2.2.2.1) (fun a=>by kernel_rfl) (fun a kn kx=>by kernel_rfl)
theorem h91:MarksE t91 q91 fuel g91.keep g91.body:=(marksE (l:=[(19,[(2,.any),(3,.any),(4,.any),(5,.any),(7,.any),(9,.any),(10,.any),(13,.any),(55,.any),(56,.any)],(.trim [(2,.any),(3,.any),(4,.any),(5,.any),(7,.any),(9,.any),(10,.any),(13,.any)] (.loop (.mark 21 [(2,.any),(3,.any),(4,.any),(5,.any),(7,.any),(9,.any),(10,.any),(13,.any),(55,.any),(56,.any)] (mOf g91 21)))))]) (by kernel_rfl) (marks_cons o91_19 marks_nil))
theorem e91:FnE t91 q91 fuel g91 N91 (fun d:TCore×TUop×Unit=>T_place_put d.1 d.2.1):=fun d k=>by kernel_rfl
theorem o95_3:Mo t0 q95 g95 3 [(0,.any),(3,.any)] (mOf g95 3):=join_mark (fnsC_mono _) (m:=K95_3) rfl (by kernel_rfl) (by kernel_rfl) (marksE (by kernel_rfl) marks_nil) (B:=fun a:W .i64×Bool×Unit=>B_ref06_Form_3 a.1 a.2.1) (fun a=>by kernel_rfl) (fun a kx=>by kernel_rfl)
theorem o95_15:Mo t0 q95 g95 15 [(0,.any),(19,.any)] (mOf g95 15):=join_mark (fnsC_mono _) (m:=K95_15) rfl (by kernel_rfl) (by kernel_rfl) (marksE (by kernel_rfl) marks_nil) (B:=fun a:W .i64×Bool×Unit=>B_ref06_Form_15 a.1 a.2.1) (fun a=>by kernel_rfl) (fun a kx=>by kernel_rfl)
theorem o95_13:Mo t0 q95 g95 13 [(0,.any),(19,.any)] (mOf g95 13):=join_mark (fnsC_mono _) (m:=K95_13) rfl (by kernel_rfl) (by kernel_rfl) (marksE (l:=[(15,[(0,.any),(19,.any)],(mOf g95 15))]) (by kernel_rfl) (marks_cons o95_15 marks_nil)) (B:=fun a:W .i64×Bool×Unit=>B_ref06_Form_13 a.1 a.2.1) (fun a=>by kernel_rfl) (fun a kx=>by kernel_rfl)
theorem o95_63:Mo t0 q95 g95 63 [(71,.any)] (mOf g95 63):=join_mark (fnsC_mono _) (m:=K95_63) rfl (by kernel_rfl) (by kernel_rfl) (marksE (by kernel_rfl) marks_nil) (B:=fun a:Bool×Unit=>B_ref06_Form_63 a.1) (fun a=>by kernel_rfl) (fun a kx=>by kernel_rfl)
theorem o95_49:Mo t0 q95 g95 49 [(0,.any),(66,.any)] (mOf g95 49):=join_mark (fnsC_mono _) (m:=K95_49) rfl (by kernel_rfl) (by kernel_rfl) (marksE (l:=[(63,[(71,.any)],(mOf g95 63))]) (by kernel_rfl) (marks_cons o95_63 marks_nil)) (B:=fun a:W .i64×Bool×Unit=>B_ref06_Form_49 a.1 a.2.1) (fun a=>by kernel_rfl) (fun a kx=>by kernel_rfl)
theorem o95_35:Mo t0 q95 g95 35 [(0,.any),(53,.any)] (mOf g95 35):=join_mark (fnsC_mono _) (m:=K95_35) rfl (by kernel_rfl) (by kernel_rfl) (marksE (l:=[(49,[(0,.any),(66,.any)],(mOf g95 49))]) (by kernel_rfl) (marks_cons o95_49 marks_nil)) (B:=fun a:W .i64×Bool×Unit=>B_ref06_Form_35 a.1 a.2.1) (fun a=>by kernel_rfl) (fun a kx=>by kernel_rfl)
theorem o95_31:Mo t0 q95 g95 31 [(0,.any),(46,.any)] (mOf g95 31):=join_mark (fnsC_mono _) (m:=K95_31) rfl (by kernel_rfl) (by kernel_rfl) (marksE (l:=[(35,[(0,.any),(53,.any)],(mOf g95 35))]) (by kernel_rfl) (marks_cons o95_35 marks_nil)) (B:=fun a:W .i64×Bool×Unit=>B_ref06_Form_31 a.1 a.2.1) (fun a=>by kernel_rfl) (fun a kx=>by kernel_rfl)
theorem o95_27:Mo t0 q95 g95 27 [(0,.any),(39,.any)] (mOf g95 27):=join_mark (fnsC_mono _) (m:=K95_27) rfl (by kernel_rfl) (by kernel_rfl) (marksE (l:=[(31,[(0,.any),(46,.any)],(mOf g95 31))]) (by kernel_rfl) (marks_cons o95_31 marks_nil)) (B:=fun a:W .i64×Bool×Unit=>B_ref06_Form_27 a.1 a.2.1) (fun a=>by kernel_rfl) (fun a kx=>by kernel_rfl)
theorem o95_23:Mo t0 q95 g95 23 [(0,.any),(34,.any)] (mOf g95 23):=join_mark (fnsC_mono _) (m:=K95_23) rfl (by kernel_rfl) (by kernel_rfl) (marksE (l:=[(27,[(0,.any),(39,.any)],(mOf g95 27))]) (by kernel_rfl) (marks_cons o95_27 marks_nil)) (B:=fun a:W .i64×Bool×Unit=>B_ref06_Form_23 a.1 a.2.1) (fun a=>by kernel_rfl) (fun a kx=>by kernel_rfl)
theorem o95_17:Mo t0 q95 g95 17 [(0,.any),(19,.any)] (mOf g95 17):=join_mark (fnsC_mono _) (m:=K95_17) rfl (by kernel_rfl) (by kernel_rfl) (marksE (l:=[(23,[(0,.any),(34,.any)],(mOf g95 23))]) (by kernel_rfl) (marks_cons o95_23 marks_nil)) (B:=fun a:W .i64×Bool×Unit=>B_ref06_Form_17 a.1 a.2.1) (fun a=>by kernel_rfl) (fun a kx=>by kernel_rfl)
theorem o95_9:Mo t0 q95 g95 9 [(0,.any),(12,.any)] (mOf g95 9):=join_mark (fnsC_mono _) (m:=K95_9) rfl (by kernel_rfl) (by kernel_rfl) (marksE (l:=[(13,[(0,.any),(19,.any)],(mOf g95 13)),(17,[(0,.any),(19,.any)],(mOf g95 17))]) (by kernel_rfl) (marks_cons o95_13 (marks_cons o95_17 marks_nil))) (B:=fun a:W .i64×Bool×Unit=>B_ref06_Form_9 a.1 a.2.1) (fun a=>by kernel_rfl) (fun a kx=>by kernel_rfl)
theorem o95_5:Mo t0 q95 g95 5 [(0,.any),(3,.any)] (mOf g95 5):=join_mark (fnsC_mono _) (m:=K95_5) rfl (by kernel_rfl) (by kernel_rfl) (marksE (l:=[(9,[(0,.any),(12,.any)],(mOf g95 9))]) (by kernel_rfl) (marks_cons o95_9 marks_nil)) (B:=fun a:W .i64×Bool×Unit=>B_ref06_Form_5 a.1 a.2.1) (fun a=>by kernel_rfl) (fun a kx=>by kernel_rfl)
theorem o95_67:Mo t0 q95 g95 67 [] (mOf g95 67):=join_mark (fnsC_mono _) (m:=K95_67) rfl (by kernel_rfl) (by kernel_rfl) (marksE (by kernel_rfl) marks_nil) (B:=fun a:Unit=>B_ref06_Form_67) (fun a=>by kernel_rfl) (fun a kx=>by kernel_rfl)
theorem h95:MarksE t0 q95 fuel g95.keep g95.body:=(marksE (l:=[(3,[(0,.any),(3,.any)],(mOf g95 3)),(5,[(0,.any),(3,.any)],(mOf g95 5)),(67,[],(mOf g95 67))]) (by kernel_rfl) (marks_cons o95_3 (marks_cons o95_5 (marks_cons o95_67 marks_nil))))
theorem e95:FnE t0 q95 fuel g95 N95 (fun d:W .i64×Unit=>T_ref06_Form d.1):=fun d k=>by kernel_rfl
theorem e97:FnE t0 q0 fuel g97 N97 (fun d:Bool×W .i64×Unit=>T_ref06_reg d.1 d.2.1):=fun d k=>by kernel_rfl
theorem e104:FnE t104 q0 fuel g104 N104 (fun d:TSlot×TInst×Unit=>T_ref24_one d.1 d.2.1):=fun d k=>by kernel_rfl
theorem e105:FnE t105 q0 fuel g105 N105 (fun d:TSlot×Unit=>T_ref24_Uops d.1):=fun d k=>by kernel_rfl
theorem e112:FnE t0 q0 fuel g112 N112 (fun d:TUop×Unit=>T_ref28_Writes d.1):=fun d k=>by kernel_rfl
theorem e114:FnE t114 q0 fuel g114 N114 (fun d:TFree×Unit=>T_ref25_Take d.1):=fun d k=>by kernel_rfl
theorem e121:FnE t0 q0 fuel g121 N121 (fun d:TPhys×Unit=>T_ref27_copied d.1):=fun d k=>by kernel_rfl
theorem e122:FnE t122 q0 fuel g122 N122 (fun d:TPhys×W .i64×Unit=>T_ref27_Drop d.1 d.2.1):=fun d k=>by kernel_rfl
theorem o131_11:Mo t0 q131 g131 11 [(0,.any),(1,.any),(5,.any)] (.trim [(4,.any)] (.loop (.mark 13 [(0,.any),(1,.any),(5,.any)] (mOf g131 13)))):=loop_mark (fnsC_mono _) (m:=K131_11) rfl (by kernel_rfl) (by kernel_rfl) (fun a=>by kernel_rfl) (marksE (by kernel_rfl) marks_nil) (B:=fun a:Sl 24 (TTlb)×Sl 24 (TTlb)×W .i64×Unit=>B_same_Tlbs_11 a.1 a.2.1 a.2.2.1) (fun a=>by kernel_rfl) (fun a kn kx=>by kernel_rfl)
theorem h131:MarksE t0 q131 fuel g131.keep g131.body:=(marksE (l:=[(11,[(0,.any),(1,.any),(5,.any)],(.trim [(4,.any)] (.loop (.mark 13 [(0,.any),(1,.any),(5,.any)] (mOf g131 13)))))]) (by kernel_rfl) (marks_cons o131_11 marks_nil))
theorem e131:FnE t0 q131 fuel g131 N131 (fun d:Sl 24 (TTlb)×Sl 24 (TTlb)×Unit=>T_same_Tlbs d.1 d.2.1):=fun d k=>by kernel_rfl
theorem e134:FnE t134 q0 fuel g134 N134 (fun d:TFree×TFree×Unit=>T_same_Free d.1 d.2.1):=fun d k=>by kernel_rfl
theorem o138_11:Mo t0 q138 g138 11 [(0,.any),(1,.any),(5,.any)] (.trim [(4,.any)] (.loop (.mark 13 [(0,.any),(1,.any),(5,.any)] (mOf g138 13)))):=loop_mark (fnsC_mono _) (m:=K138_11) rfl (by kernel_rfl) (by kernel_rfl) (fun a=>by kernel_rfl) (marksE (by kernel_rfl) marks_nil) (B:=fun a:Sl 248 (TRob)×Sl 248 (TRob)×W .i64×Unit=>B_same_Robs_11 a.1 a.2.1 a.2.2.1) (fun a=>by kernel_rfl) (fun a kn kx=>by kernel_rfl)
theorem h138:MarksE t0 q138 fuel g138.keep g138.body:=(marksE (l:=[(11,[(0,.any),(1,.any),(5,.any)],(.trim [(4,.any)] (.loop (.mark 13 [(0,.any),(1,.any),(5,.any)] (mOf g138 13)))))]) (by kernel_rfl) (marks_cons o138_11 marks_nil))
theorem e138:FnE t0 q138 fuel g138 N138 (fun d:Sl 248 (TRob)×Sl 248 (TRob)×Unit=>T_same_Robs d.1 d.2.1):=fun d k=>by kernel_rfl
theorem o142_11:Mo t0 q142 g142 11 [(0,.any),(1,.any),(5,.any)] (.trim [(4,.any)] (.loop (.mark 13 [(0,.any),(1,.any),(5,.any)] (mOf g142 13)))):=loop_mark (fnsC_mono _) (m:=K142_11) rfl (by kernel_rfl) (by kernel_rfl) (fun a=>by kernel_rfl) (marksE (by kernel_rfl) marks_nil) (B:=fun a:Sl 16 (TSb)×Sl 16 (TSb)×W .i64×Unit=>B_same_Sbs_11 a.1 a.2.1 a.2.2.1) (fun a=>by kernel_rfl) (fun a kn kx=>by kernel_rfl)
theorem h142:MarksE t0 q142 fuel g142.keep g142.body:=(marksE (l:=[(11,[(0,.any),(1,.any),(5,.any)],(.trim [(4,.any)] (.loop (.mark 13 [(0,.any),(1,.any),(5,.any)] (mOf g142 13)))))]) (by kernel_rfl) (marks_cons o142_11 marks_nil))
theorem e142:FnE t0 q142 fuel g142 N142 (fun d:Sl 16 (TSb)×Sl 16 (TSb)×Unit=>T_same_Sbs d.1 d.2.1):=fun d k=>by kernel_rfl
theorem e144:FnE t144 q0 fuel g144 N144 (fun d:TCore×TCore×Unit=>T_same_Core d.1 d.2.1):=fun d k=>by kernel_rfl
end Go.Proofs.YtkddkpmijhionaaGreatDoor
