/- YtchpjkadpdajkaaGreatDoorEq3: the functions' runs are their trees. No statement of the seat is proved here. -/
import Derived.Test.YtchpjkadpdajkaaGreatDoorTabs
set_option linter.unusedSimpArgs false
set_option linter.unusedVariables false
set_option maxRecDepth 100000
namespace Go.Proofs.YtchpjkadpdajkaaGreatDoor
open Go Go.A2
theorem o4_11:Mo t4 q4 g4 11 [(1,.any),(18,.any),(19,.any)] (.trim [(1,.any),(2,.any)] (.loop (.mark 13 [(1,.any),(18,.any),(19,.any)] (mOf g4 13)))):=loop_mark (fnsC_mono _) (m:=K4_11) rfl (by kernel_rfl) (by kernel_rfl) (fun a=>by kernel_rfl) (marksE (by kernel_rfl) marks_nil) (B:=fun a:TInst×Arr 3 (TS275)×W .i64×Unit=>B_inst_Right_11 a.1 a.2.1 a.2.2.1) (fun a=>by kernel_rfl) (fun a kn kx=>by kernel_rfl)
theorem h4:MarksE t4 q4 fuel g4.keep g4.body:=(marksE (l:=[(11,[(1,.any),(18,.any),(19,.any)],(.trim [(1,.any),(2,.any)] (.loop (.mark 13 [(1,.any),(18,.any),(19,.any)] (mOf g4 13)))))]) (by kernel_rfl) (mcons o4_11 marks_nil))
theorem e4:FnE t4 q4 fuel g4 N4 (fun d:TInst×Unit=>T_inst_Right d.1):=fun d k=>by kernel_rfl
theorem e5:FnE t0 q0 fuel g5 N5 (fun d:W .i64×W .i64×W .i64×Unit=>T_bits_clamp d.1 d.2.1 d.2.2.1):=fun d k=>by kernel_rfl
theorem e7:FnE t7 q0 fuel g7 N7 (fun d:W .i64×W .i64×Unit=>T_bits_mask d.1 d.2.1):=fun d k=>by kernel_rfl
theorem e15:FnE t0 q0 fuel g15 N15 (fun d:Unit=>T_core_Plain):=fun d k=>by kernel_rfl
theorem e17:FnE t0 q0 fuel g17 N17 (fun d:TBound×Unit=>T_core_Conf_1 d.1):=fun d k=>by kernel_rfl
theorem e25:FnE t0 q0 fuel g25 N25 (fun d:W .i64×Unit=>T_pht_clamp d.1):=fun d k=>by kernel_rfl
theorem e30:FnE t0 q0 fuel g30 N30 (fun d:W .i64×Unit=>T_btb_New d.1):=fun d k=>by kernel_rfl
theorem e34:FnE t0 q0 fuel g34 N34 (fun d:W .i64×Unit=>T_dep_New d.1):=fun d k=>by kernel_rfl
theorem o36_11:Mo t0 q36 g36 11 [(1,.any),(4,.any),(5,.any),(21,.any),(22,.any)] (.trim [(4,.any),(5,.any)] (.loop (.mark 13 [(1,.any),(4,.any),(5,.any),(21,.any),(22,.any)] (mOf g36 13)))):=loop_mark (fnsC_mono _) (m:=K36_11) rfl (by kernel_rfl) (by kernel_rfl) (fun a=>by kernel_rfl) (marksE (by kernel_rfl) marks_nil) (B:=fun a:W .i64×TFree×TFree×W .i64×W .i64×Unit=>B_freel_New_11 a.1 a.2.1 a.2.2.1 a.2.2.2.1 a.2.2.2.2.1) (fun a=>by kernel_rfl) (fun a kn kx=>by kernel_rfl)
theorem h36:MarksE t0 q36 fuel g36.keep g36.body:=(marksE (l:=[(11,[(1,.any),(4,.any),(5,.any),(21,.any),(22,.any)],(.trim [(4,.any),(5,.any)] (.loop (.mark 13 [(1,.any),(4,.any),(5,.any),(21,.any),(22,.any)] (mOf g36 13)))))]) (by kernel_rfl) (mcons o36_11 marks_nil))
theorem e36:FnE t0 q36 fuel g36 N36 (fun d:W .i64×W .i64×Unit=>T_freel_New d.1 d.2.1):=fun d k=>by kernel_rfl
theorem e46:FnE t0 q0 fuel g46 N46 (fun d:Unit=>T_trap_sources):=fun d k=>by kernel_rfl
theorem o52_3:Mo t0 q52 g52 3 [(0,.any),(2,.any),(3,.any)] (.trim [(0,.any)] (.loop (.mark 5 [(0,.any),(2,.any),(3,.any)] (mOf g52 5)))):=loop_mark (fnsC_mono _) (m:=K52_3) rfl (by kernel_rfl) (by kernel_rfl) (fun a=>by kernel_rfl) (marksE (by kernel_rfl) marks_nil) (B:=fun a:Sl 248 (TRob)×W .i64×W .i64×Unit=>B_slices_Reverse_Rob_3 a.1 a.2.1 a.2.2.1) (fun a=>by kernel_rfl) (fun a kn kx=>by kernel_rfl)
theorem h52:MarksE t0 q52 fuel g52.keep g52.body:=(marksE (l:=[(3,[(0,.any),(2,.any),(3,.any)],(.trim [(0,.any)] (.loop (.mark 5 [(0,.any),(2,.any),(3,.any)] (mOf g52 5)))))]) (by kernel_rfl) (mcons o52_3 marks_nil))
theorem e52:FnE t0 q52 fuel g52 N52 (fun d:Sl 248 (TRob)×Unit=>T_slices_Reverse_Rob d.1):=fun d k=>by kernel_rfl
theorem o53_7:Mo t53 q53 g53 7 [(1,.any),(6,.own),(7,.own),(10,.any),(11,.any),(12,.any)] (.trim [(6,.any),(7,.any)] (.loop (.mark 9 [(1,.any),(6,.own),(7,.own),(10,.any),(11,.any),(12,.any)] (mOf g53 9)))):=loop_mark (fnsC_mono _) (m:=K53_7) rfl (by kernel_rfl) (by kernel_rfl) (fun a=>by kernel_rfl) (marksE (by kernel_rfl) marks_nil) (B:=fun a:W .u64×Sl 248 (TRob)×Sl 248 (TRob)×Sl 248 (TRob)×W .i64×W .i64×Unit=>B_rob_Cut_7 a.1 a.2.1 a.2.2.1 a.2.2.2.1 a.2.2.2.2.1 a.2.2.2.2.2.1) (fun a=>by kernel_rfl) (fun a kn kx=>by kernel_rfl)
theorem h53:MarksE t53 q53 fuel g53.keep g53.body:=(marksE (l:=[(7,[(1,.any),(6,.own),(7,.own),(10,.any),(11,.any),(12,.any)],(.trim [(6,.any),(7,.any)] (.loop (.mark 9 [(1,.any),(6,.own),(7,.own),(10,.any),(11,.any),(12,.any)] (mOf g53 9)))))]) (by kernel_rfl) (mcons o53_7 marks_nil))
theorem e53:FnE t53 q53 fuel g53 N53 (fun d:Sl 248 (TRob)×W .u64×Unit=>T_rob_Cut d.1 d.2.1):=fun d k=>by kernel_rfl
theorem e54:FnE t0 q0 fuel g54 N54 (fun d:TUop×Unit=>T_rename_writes d.1):=fun d k=>by kernel_rfl
theorem e59:FnE t0 q0 fuel g59 N59 (fun d:TFree×W .i64×W .i64×Unit=>T_freel_laid d.1 d.2.1 d.2.2.1):=fun d k=>by kernel_rfl
theorem o64_5:Mo t64 q64 g64 5 [(0,.any),(1,.any),(7,.any),(8,.any)] (.trim [(4,.any)] (.loop (.mark 7 [(0,.any),(1,.any),(7,.any),(8,.any)] (mOf g64 7)))):=loop_mark (fnsC_mono _) (m:=K64_5) rfl (by kernel_rfl) (by kernel_rfl) (fun a=>by kernel_rfl) (marksE (by kernel_rfl) marks_nil) (B:=fun a:Sl 224 (TIq)×((Unit)×(W .u64×Unit))×W .i64×W .i64×Unit=>B_slices_IndexFunc_Iq_of_iq_Cut_1_5 a.1 a.2.1.2.1 a.2.2.1 a.2.2.2.1) (fun a=>by kernel_rfl) (fun a kn kx=>by kernel_rfl)
theorem h64:MarksE t64 q64 fuel g64.keep g64.body:=(marksE (l:=[(5,[(0,.any),(1,.any),(7,.any),(8,.any)],(.trim [(4,.any)] (.loop (.mark 7 [(0,.any),(1,.any),(7,.any),(8,.any)] (mOf g64 7)))))]) (by kernel_rfl) (mcons o64_5 marks_nil))
theorem e64:FnE t64 q64 fuel g64 N64 (fun d:Sl 224 (TIq)×((Unit)×(W .u64×Unit))×Unit=>T_slices_IndexFunc_Iq_of_iq_Cut_1 d.1 d.2.1.2.1):=fun d k=>by kernel_rfl
theorem e71:FnE t71 q0 fuel g71 N71 (fun d:Sl 48 (TLq)×W .u64×Unit=>T_lq_Cut d.1 d.2.1):=fun d k=>by kernel_rfl
theorem o74_5:Mo t74 q74 g74 5 [(0,.any),(1,.any),(7,.any),(8,.any)] (.trim [(4,.any)] (.loop (.mark 7 [(0,.any),(1,.any),(7,.any),(8,.any)] (mOf g74 7)))):=loop_mark (fnsC_mono _) (m:=K74_5) rfl (by kernel_rfl) (by kernel_rfl) (fun a=>by kernel_rfl) (marksE (by kernel_rfl) marks_nil) (B:=fun a:Sl 32 (TSq)×((Unit)×(W .u64×Unit))×W .i64×W .i64×Unit=>B_slices_IndexFunc_Sq_of_sq_Cut_1_5 a.1 a.2.1.2.1 a.2.2.1 a.2.2.2.1) (fun a=>by kernel_rfl) (fun a kn kx=>by kernel_rfl)
theorem h74:MarksE t74 q74 fuel g74.keep g74.body:=(marksE (l:=[(5,[(0,.any),(1,.any),(7,.any),(8,.any)],(.trim [(4,.any)] (.loop (.mark 7 [(0,.any),(1,.any),(7,.any),(8,.any)] (mOf g74 7)))))]) (by kernel_rfl) (mcons o74_5 marks_nil))
theorem e74:FnE t74 q74 fuel g74 N74 (fun d:Sl 32 (TSq)×((Unit)×(W .u64×Unit))×Unit=>T_slices_IndexFunc_Sq_of_sq_Cut_1 d.1 d.2.1.2.1):=fun d k=>by kernel_rfl
theorem e80:FnE t80 q0 fuel g80 N80 (fun d:Sl 4 (W .u32)×W .i64×W .u32×Unit=>T_ras_with d.1 d.2.1 d.2.2.1):=fun d k=>by kernel_rfl
theorem e82:FnE t82 q0 fuel g82 N82 (fun d:TCore×W .u32×Unit=>T_flush_All d.1 d.2.1):=fun d k=>by kernel_rfl
theorem e87:FnE t0 q0 fuel g87 N87 (fun d:TRob×Unit=>T_rob_may d.1):=fun d k=>by kernel_rfl
theorem e89:FnE t0 q0 fuel g89 N89 (fun d:TRob×Unit=>T_retire_stage_front_1 d.1):=fun d k=>by kernel_rfl
theorem o93_5:Mo t93 q93 g93 5 [(0,.any),(1,.any),(7,.any),(8,.any)] (.trim [(4,.any)] (.loop (.mark 7 [(0,.any),(1,.any),(7,.any),(8,.any)] (mOf g93 7)))):=loop_mark (fnsC_mono _) (m:=K93_5) rfl (by kernel_rfl) (by kernel_rfl) (fun a=>by kernel_rfl) (marksE (by kernel_rfl) marks_nil) (B:=fun a:Sl 248 (TRob)×((Unit)×(Unit))×W .i64×W .i64×Unit=>B_slices_IndexFunc_Rob_of_retire_stage_boundary_1_5 a.1 a.2.2.1 a.2.2.2.1) (fun a=>by kernel_rfl) (fun a kn kx=>by kernel_rfl)
theorem h93:MarksE t93 q93 fuel g93.keep g93.body:=(marksE (l:=[(5,[(0,.any),(1,.any),(7,.any),(8,.any)],(.trim [(4,.any)] (.loop (.mark 7 [(0,.any),(1,.any),(7,.any),(8,.any)] (mOf g93 7)))))]) (by kernel_rfl) (mcons o93_5 marks_nil))
theorem e93:FnE t93 q93 fuel g93 N93 (fun d:Sl 248 (TRob)×((Unit)×(Unit))×Unit=>T_slices_IndexFunc_Rob_of_retire_stage_boundary_1 d.1):=fun d k=>by kernel_rfl
theorem e96:FnE t96 q0 fuel g96 N96 (fun d:Sl 248 (TRob)×((Unit)×(Unit×Unit))×Unit=>T_slices_ContainsFunc_Rob_of_retire_stage_stale_1 d.1):=fun d k=>by kernel_rfl
theorem e106:FnE t0 q0 fuel g106 N106 (fun d:W .i64×W .i64×W .i64×Unit=>T_exec_between d.1 d.2.1 d.2.2.1):=fun d k=>by kernel_rfl
theorem e107:FnE t107 q0 fuel g107 N107 (fun d:W .u32×W .i64×Unit=>T_bits_Zext d.1 d.2.1):=fun d k=>by kernel_rfl
theorem e111:FnE t0 q0 fuel g111 N111 (fun d:W .i64×Unit=>T_inst_Priv d.1):=fun d k=>by kernel_rfl
theorem e113:FnE t113 q0 fuel g113 N113 (fun d:TArch×W .i64×Bool×Unit=>T_csr_may d.1 d.2.1 d.2.2.1):=fun d k=>by kernel_rfl
theorem e114:FnE t114 q0 fuel g114 N114 (fun d:TArch×W .i64×Unit=>T_csr_Read d.1 d.2.1):=fun d k=>by kernel_rfl
theorem e124:FnE t124 q0 fuel g124 N124 (fun d:TWalker×W .u32×Unit=>T_walk_walker_entry d.1 d.2.1):=fun d k=>by kernel_rfl
theorem e126:FnE t126 q0 fuel g126 N126 (fun d:Sl 1 (W .u8)×W .u32×W .u32×Unit=>T_walk_Walk d.1 d.2.1 d.2.2.1):=fun d k=>by kernel_rfl
theorem e128:FnE t0 q0 fuel g128 N128 (fun d:TPte×Unit=>T_pte_page d.1):=fun d k=>by kernel_rfl
theorem e130:FnE t130 q0 fuel g130 N130 (fun d:TArch×Sl 1 (W .u8)×W .u32×W .i64×Unit=>T_walk_Trans d.1 d.2.1 d.2.2.1 d.2.2.2.1):=fun d k=>by kernel_rfl
theorem e133:FnE t133 q0 fuel g133 N133 (fun d:TCoh×W .i64×W .u32×W .i64×Unit=>T_coh_reached d.1 d.2.1 d.2.2.1 d.2.2.2.1):=fun d k=>by kernel_rfl
theorem e139:FnE t139 q0 fuel g139 N139 (fun d:TCache×W .u32×Unit=>T_cache_Find d.1 d.2.1):=fun d k=>by kernel_rfl
theorem e143:FnE t143 q0 fuel g143 N143 (fun d:W .i64×W .i64×Unit=>T_mesi_Ask d.1 d.2.1):=fun d k=>by kernel_rfl
theorem e144:FnE t144 q0 fuel g144 N144 (fun d:TCoh×W .i64×W .u32×W .i64×Unit=>T_bus_Want d.1 d.2.1 d.2.2.1 d.2.2.2.1):=fun d k=>by kernel_rfl
theorem e151:FnE t151 q0 fuel g151 N151 (fun d:TCoh×W .i64×W .u32×W .i64×Unit=>T_coh_got d.1 d.2.1 d.2.2.1 d.2.2.2.1):=fun d k=>by kernel_rfl
theorem h154:MarksE t0 q0 fuel g154.keep g154.body:=(marksE (l:=[(15,[(1,.any),(2,.any),(6,.any),(7,.any),(8,.any),(52,.any),(53,.any)],(mOf g154 15))]) (by kernel_rfl) (mcons (no_mark rfl) marks_nil))
theorem e154:FnE t0 q0 fuel g154 N154 (fun d:TCache×W .i64×W .i64×Unit=>T_cache_Touch d.1 d.2.1 d.2.2.1):=fun d k=>by kernel_rfl
theorem e157:FnE t157 q0 fuel g157 N157 (fun d:TCoh×W .i64×W .u32×Unit=>T_coh_touched d.1 d.2.1 d.2.2.1):=fun d k=>by kernel_rfl
theorem e165:FnE t0 q0 fuel g165 N165 (fun d:Sl 1 (W .u8)×W .u32×Unit=>T_coh_lies d.1 d.2.1):=fun d k=>by kernel_rfl
theorem e166:FnE t166 q0 fuel g166 N166 (fun d:TWay×Sl 1 (W .u8)×Unit=>T_coh_View_1 d.1 d.2.1):=fun d k=>by kernel_rfl
theorem e169:FnE t169 q0 fuel g169 N169 (fun d:TSerial×Unit=>T_retire_serial_do d.1):=fun d k=>by kernel_rfl
theorem e175:FnE t175 q0 fuel g175 N175 (fun d:Sl 248 (TRob)×Unit=>T_rob_Pop d.1):=fun d k=>by kernel_rfl
theorem e179:FnE t179 q0 fuel g179 N179 (fun d:TStage×TRob×Unit=>T_retire_stage_alone d.1 d.2.1):=fun d k=>by kernel_rfl
theorem e182:FnE t182 q0 fuel g182 N182 (fun d:Sl 48 (TLq)×W .u64×Unit=>T_lq_Pop d.1 d.2.1):=fun d k=>by kernel_rfl
theorem e183:FnE t183 q0 fuel g183 N183 (fun d:TCore×TRob×Unit=>T_retire_leaves d.1 d.2.1):=fun d k=>by kernel_rfl
theorem o189_11:Mo t189 q189 g189 11 [(0,.any),(15,.any),(16,.any),(17,.any)] (.trim [(4,.any)] (.loop (.mark 13 [(0,.any),(15,.any),(16,.any),(17,.any)] (mOf g189 13)))):=loop_mark (fnsC_mono _) (m:=K189_11) rfl (by kernel_rfl) (by kernel_rfl) (fun a=>by kernel_rfl) (marksE (by kernel_rfl) marks_nil) (B:=fun a:W .i64×Sl 72 (TEvent)×W .i64×W .i64×Unit=>B_retire_lines_11 a.1 a.2.1 a.2.2.1 a.2.2.2.1) (fun a=>by kernel_rfl) (fun a kn kx=>by kernel_rfl)
theorem h189:MarksE t189 q189 fuel g189.keep g189.body:=(marksE (l:=[(11,[(0,.any),(15,.any),(16,.any),(17,.any)],(.trim [(4,.any)] (.loop (.mark 13 [(0,.any),(15,.any),(16,.any),(17,.any)] (mOf g189 13)))))]) (by kernel_rfl) (mcons o189_11 marks_nil))
theorem e189:FnE t189 q189 fuel g189 N189 (fun d:W .i64×Sl 72 (TEvent)×Unit=>T_retire_lines d.1 d.2.1):=fun d k=>by kernel_rfl
theorem o197_7:Mo t0 q197 g197 7 [(0,.any),(3,.any),(4,.any)] (.trim [(3,.any)] (.loop (.mark 9 [(0,.any),(3,.any),(4,.any)] (mOf g197 9)))):=loop_mark (fnsC_mono _) (m:=K197_7) rfl (by kernel_rfl) (by kernel_rfl) (fun a=>by kernel_rfl) (marksE (by kernel_rfl) marks_nil) (B:=fun a:W .i64×W .u32×W .i64×Unit=>B_ref01_power_7 a.1 a.2.1 a.2.2.1) (fun a=>by kernel_rfl) (fun a kn kx=>by kernel_rfl)
theorem h197:MarksE t0 q197 fuel g197.keep g197.body:=(marksE (l:=[(7,[(0,.any),(3,.any),(4,.any)],(.trim [(3,.any)] (.loop (.mark 9 [(0,.any),(3,.any),(4,.any)] (mOf g197 9)))))]) (by kernel_rfl) (mcons o197_7 marks_nil))
theorem e197:FnE t0 q197 fuel g197 N197 (fun d:W .i64×Unit=>T_ref01_power d.1):=fun d k=>by kernel_rfl
theorem e198:FnE t198 q0 fuel g198 N198 (fun d:W .u32×W .i64×Unit=>T_ref01_bit d.1 d.2.1):=fun d k=>by kernel_rfl
end Go.Proofs.YtchpjkadpdajkaaGreatDoor
