/- YtkddkpmijhionaaDoorEq0: the functions' runs are their trees. No statement of the seat is proved here. -/
import Derived.Test.YtkddkpmijhionaaDoorTabs
set_option linter.unusedSimpArgs false
set_option linter.unusedVariables false
set_option maxRecDepth 100000
namespace Go.Proofs.YtkddkpmijhionaaDoor
open Go Go.A2
theorem e3:FnE t3 q0 fuel g3 N3 (fun d:W .i64×W .i64×Unit=>T_inst_has d.1 d.2.1):=fun d k=>by kernel_rfl
theorem e8:FnE t8 q0 fuel g8 N8 (fun d:W .i64×W .i64×Unit=>T_bits_mask d.1 d.2.1):=fun d k=>by kernel_rfl
theorem e12:FnE t0 q0 fuel g12 N12 (fun d:TSeg×Unit=>T_rom_end d.1):=fun d k=>by kernel_rfl
theorem e18:FnE t0 q0 fuel g18 N18 (fun d:TBound×Unit=>T_core_Conf_1 d.1):=fun d k=>by kernel_rfl
theorem e22:FnE t0 q0 fuel g22 N22 (fun d:W .i64×Unit=>T_csr_Masked d.1):=fun d k=>by kernel_rfl
theorem e25:FnE t0 q0 fuel g25 N25 (fun d:TMach×Unit=>T_step_Copy d.1):=fun d k=>by kernel_rfl
theorem e30:FnE t30 q0 fuel g30 N30 (fun d:W .i64×Unit=>T_pht_New d.1):=fun d k=>by kernel_rfl
theorem e34:FnE t0 q0 fuel g34 N34 (fun d:W .i64×Unit=>T_tlb_New d.1):=fun d k=>by kernel_rfl
theorem o39_17:Mo t39 q39 g39 17 [(7,.any),(8,.any)] (.trim [(7,.any)] (.loop (.mark 19 [(7,.any),(8,.any)] (mOf g39 19)))):=loop_mark (fnsC_mono _) (m:=K39_17) rfl (by kernel_rfl) (by kernel_rfl) (fun a=>by kernel_rfl) (marksE (by kernel_rfl) marks_nil) (B:=fun a:Sl 1 (Bool)×W .i64×Unit=>B_slices_Repeat_bool_17 a.1 a.2.1) (fun a=>by kernel_rfl) (fun a kn kx=>by kernel_rfl)
theorem h39:MarksE t39 q39 fuel g39.keep g39.body:=(marksE (l:=[(17,[(7,.any),(8,.any)],(.trim [(7,.any)] (.loop (.mark 19 [(7,.any),(8,.any)] (mOf g39 19)))))]) (by kernel_rfl) (marks_cons o39_17 marks_nil))
theorem e39:FnE t39 q39 fuel g39 N39 (fun d:Sl 1 (Bool)×W .i64×Unit=>T_slices_Repeat_bool d.1 d.2.1):=fun d k=>by kernel_rfl
theorem e46:FnE t0 q0 fuel g46 N46 (fun d:Unit=>T_crack_none):=fun d k=>by kernel_rfl
theorem e50:FnE t50 q0 fuel g50 N50 (fun d:W .u32×W .i64×Unit=>T_bits_Sext d.1 d.2.1):=fun d k=>by kernel_rfl
theorem e53:FnE t0 q0 fuel g53 N53 (fun d:W .i64×Unit=>T_crack_Serial d.1):=fun d k=>by kernel_rfl
theorem e54:FnE t54 q0 fuel g54 N54 (fun d:W .i64×Unit=>T_crack_Unit d.1):=fun d k=>by kernel_rfl
theorem e63:FnE t0 q0 fuel g63 N63 (fun d:TUop×W .i64×Unit=>T_place_of_1 d.1 d.2.1):=fun d k=>by kernel_rfl
theorem o64_7:Mo t64 q64 g64 7 [(1,.any),(5,.any),(8,.any),(9,.any),(10,.any)] (.trim [(5,.any)] (.loop (.mark 9 [(1,.any),(5,.any),(8,.any),(9,.any),(10,.any)] (mOf g64 9)))):=loop_mark (fnsC_mono _) (m:=K64_7) rfl (by kernel_rfl) (by kernel_rfl) (fun a=>by kernel_rfl) (marksE (by kernel_rfl) marks_nil) (B:=fun a:((Unit)×(W .i64×Unit))×W .i64×Sl 168 (TUop)×W .i64×W .i64×Unit=>B_place_many_v1_7 a.1.2.1 a.2.1 a.2.2.1 a.2.2.2.1 a.2.2.2.2.1) (fun a=>by kernel_rfl) (fun a kn kx=>by kernel_rfl)
theorem h64:MarksE t64 q64 fuel g64.keep g64.body:=(marksE (l:=[(7,[(1,.any),(5,.any),(8,.any),(9,.any),(10,.any)],(.trim [(5,.any)] (.loop (.mark 9 [(1,.any),(5,.any),(8,.any),(9,.any),(10,.any)] (mOf g64 9)))))]) (by kernel_rfl) (marks_cons o64_7 marks_nil))
theorem e64:FnE t64 q64 fuel g64 N64 (fun d:Sl 168 (TUop)×((Unit)×(W .i64×Unit))×Unit=>T_place_many_v1 d.1 d.2.1.2.1):=fun d k=>by kernel_rfl
theorem o69_15:Mo t69 q69 g69 15 [(1,.any),(3,.any),(4,.own),(12,.any),(13,.any)] (.trim [(4,.any)] (.loop (.mark 17 [(1,.any),(3,.any),(4,.own),(12,.any),(13,.any)] (mOf g69 17)))):=loop_mark (fnsC_mono _) (m:=K69_15) rfl (by kernel_rfl) (by kernel_rfl) (fun a=>by kernel_rfl) (marksE (by kernel_rfl) marks_nil) (B:=fun a:TFree×((TFree×Unit)×(Unit))×Sl 8 (W .i64)×W .i64×W .i64×Unit=>B_freel_List_15 a.1 a.2.1.1.1 a.2.2.1 a.2.2.2.1 a.2.2.2.2.1) (fun a=>by kernel_rfl) (fun a kn kx=>by kernel_rfl)
theorem h69:MarksE t69 q69 fuel g69.keep g69.body:=(marksE (l:=[(15,[(1,.any),(3,.any),(4,.own),(12,.any),(13,.any)],(.trim [(4,.any)] (.loop (.mark 17 [(1,.any),(3,.any),(4,.own),(12,.any),(13,.any)] (mOf g69 17)))))]) (by kernel_rfl) (marks_cons o69_15 marks_nil))
theorem e69:FnE t69 q69 fuel g69 N69 (fun d:TFree×Unit=>T_freel_List d.1):=fun d k=>by kernel_rfl
theorem e72:FnE t72 q0 fuel g72 N72 (fun d:Arr 16 (W .i64)×W .i64×Unit=>T_rat_Get d.1 d.2.1):=fun d k=>by kernel_rfl
theorem o76_7:Mo t76 q76 g76 7 [(2,.any),(3,.any),(4,.any),(5,.any),(7,.any),(18,.any),(19,.any)] (.trim [(2,.any),(3,.any),(4,.any),(5,.any),(7,.any)] (.loop (.mark 9 [(2,.any),(3,.any),(4,.any),(5,.any),(7,.any),(18,.any),(19,.any)] (mOf g76 9)))):=loop_mark (fnsC_mono _) (m:=K76_7) rfl (by kernel_rfl) (by kernel_rfl) (fun a=>by kernel_rfl) (marksE (by kernel_rfl) marks_nil) (B:=fun a:TNames×TUop×TNames×TRen×TRen×Arr 3 (W .i64)×W .i64×Unit=>B_rename_One_7 a.1 a.2.1 a.2.2.1 a.2.2.2.1 a.2.2.2.2.1 a.2.2.2.2.2.1 a.2.2.2.2.2.2.1) (fun a=>by kernel_rfl) (fun a kn kx=>by kernel_rfl)
theorem h76:MarksE t76 q76 fuel g76.keep g76.body:=(marksE (l:=[(7,[(2,.any),(3,.any),(4,.any),(5,.any),(7,.any),(18,.any),(19,.any)],(.trim [(2,.any),(3,.any),(4,.any),(5,.any),(7,.any)] (.loop (.mark 9 [(2,.any),(3,.any),(4,.any),(5,.any),(7,.any),(18,.any),(19,.any)] (mOf g76 9)))))]) (by kernel_rfl) (marks_cons o76_7 marks_nil))
theorem e76:FnE t76 q76 fuel g76 N76 (fun d:TNames×TUop×Unit=>T_rename_One d.1 d.2.1):=fun d k=>by kernel_rfl
theorem e79:FnE t0 q0 fuel g79 N79 (fun d:Sl 248 (TRob)×Sl 248 (TRob)×Bool×Unit=>T_place_kept_Rob d.1 d.2.1 d.2.2.1):=fun d k=>by kernel_rfl
theorem e86:FnE t86 q0 fuel g86 N86 (fun d:Sl 48 (TLq)×W .u64×W .u32×W .i64×Unit=>T_lq_Put d.1 d.2.1 d.2.2.1 d.2.2.2.1):=fun d k=>by kernel_rfl
end Go.Proofs.YtkddkpmijhionaaDoor
