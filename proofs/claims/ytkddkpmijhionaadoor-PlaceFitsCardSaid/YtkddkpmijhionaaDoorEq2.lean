/- YtkddkpmijhionaaDoorEq2: the functions' runs are their trees. No statement of the seat is proved here. -/
import Derived.Test.YtkddkpmijhionaaDoorTabs
set_option linter.unusedSimpArgs false
set_option linter.unusedVariables false
set_option maxRecDepth 100000
namespace Go.Proofs.YtkddkpmijhionaaDoor
open Go Go.A2
theorem e2:FnE t0 q0 fuel g2 N2 (fun d:W .i64×Unit=>T_inst_Form d.1):=fun d k=>by kernel_rfl
theorem e4:FnE t0 q0 fuel g4 N4 (fun d:W .i64×W .i64×Unit=>T_inst_within d.1 d.2.1):=fun d k=>by kernel_rfl
theorem e7:FnE t0 q0 fuel g7 N7 (fun d:W .i64×Unit=>T_bits_ones d.1):=fun d k=>by kernel_rfl
theorem o14_21:Mo t14 q14 g14 21 [(0,.any),(7,.any),(29,.any),(30,.any),(31,.any)] (.trim [(4,.any),(5,.any),(7,.any)] (.loop (.mark 23 [(0,.any),(7,.any),(29,.any),(30,.any),(31,.any)] (mOf g14 23)))):=loop_mark (fnsC_mono _) (m:=K14_21) rfl (by kernel_rfl) (by kernel_rfl) (fun a=>by kernel_rfl) (marksE (by kernel_rfl) marks_nil) (B:=fun a:W .i64×Sl 1 (W .u8)×Sl 32 (TSeg)×W .i64×W .i64×Unit=>B_rom_Load_21 a.1 a.2.1 a.2.2.1 a.2.2.2.1 a.2.2.2.2.1) (fun a=>by kernel_rfl) (fun a kn kx=>by kernel_rfl)
theorem h14:MarksE t14 q14 fuel g14.keep g14.body:=(marksE (l:=[(21,[(0,.any),(7,.any),(29,.any),(30,.any),(31,.any)],(.trim [(4,.any),(5,.any),(7,.any)] (.loop (.mark 23 [(0,.any),(7,.any),(29,.any),(30,.any),(31,.any)] (mOf g14 23)))))]) (by kernel_rfl) (marks_cons o14_21 marks_nil))
theorem e14:FnE t14 q14 fuel g14 N14 (fun d:W .i64×TImage×Unit=>T_rom_Load d.1 d.2.1):=fun d k=>by kernel_rfl
theorem e15:FnE t15 q0 fuel g15 N15 (fun d:TImage×W .i64×Unit=>T_step_New d.1 d.2.1):=fun d k=>by kernel_rfl
theorem e17:FnE t0 q0 fuel g17 N17 (fun d:TConf×Unit=>T_core_bounds d.1):=fun d k=>by kernel_rfl
theorem e27:FnE t0 q0 fuel g27 N27 (fun d:W .u64×W .u64×Unit=>T_bits_Mul64 d.1 d.2.1):=fun d k=>by kernel_rfl
theorem e32:FnE t0 q0 fuel g32 N32 (fun d:W .i64×Unit=>T_ras_New d.1):=fun d k=>by kernel_rfl
theorem o36_7:Mo t0 q36 g36 7 [(0,.any),(1,.any),(2,.any)] (.trim [(0,.any),(1,.any)] (.loop (.mark 9 [(0,.any),(1,.any),(2,.any)] (mOf g36 9)))):=loop_mark (fnsC_mono _) (m:=K36_7) rfl (by kernel_rfl) (by kernel_rfl) (fun a=>by kernel_rfl) (marksE (by kernel_rfl) marks_nil) (B:=fun a:Arr 16 (W .i64)×Arr 16 (W .i64)×W .i64×Unit=>B_rat_New_7 a.1 a.2.1 a.2.2.1) (fun a=>by kernel_rfl) (fun a kn kx=>by kernel_rfl)
theorem h36:MarksE t0 q36 fuel g36.keep g36.body:=(marksE (l:=[(7,[(0,.any),(1,.any),(2,.any)],(.trim [(0,.any),(1,.any)] (.loop (.mark 9 [(0,.any),(1,.any),(2,.any)] (mOf g36 9)))))]) (by kernel_rfl) (marks_cons o36_7 marks_nil))
theorem e36:FnE t0 q36 fuel g36 N36 (fun d:Unit=>T_rat_New):=fun d k=>by kernel_rfl
theorem e38:FnE t38 q0 fuel g38 N38 (fun d:W .i64×Unit=>T_rename_New d.1):=fun d k=>by kernel_rfl
theorem e44:FnE t44 q0 fuel g44 N44 (fun d:TPhys×W .i64×W .u32×Unit=>T_prf_Put d.1 d.2.1 d.2.2.1):=fun d k=>by kernel_rfl
theorem o45_27:Mo t45 q45 g45 27 [(3,.any),(4,.any),(7,.any),(8,.any)] (.trim [(4,.any),(7,.any)] (.loop (.mark 29 [(3,.any),(4,.any),(7,.any),(8,.any)] (mOf g45 29)))):=loop_mark (fnsC_mono _) (m:=K45_27) rfl (by kernel_rfl) (by kernel_rfl) (fun a=>by kernel_rfl) (marksE (by kernel_rfl) marks_nil) (B:=fun a:TMach×TCore×TCore×W .i64×Unit=>B_core_New_27 a.1 a.2.1 a.2.2.1 a.2.2.2.1) (fun a=>by kernel_rfl) (fun a kn kx=>by kernel_rfl)
theorem h45:MarksE t45 q45 fuel g45.keep g45.body:=(marksE (l:=[(27,[(3,.any),(4,.any),(7,.any),(8,.any)],(.trim [(4,.any),(7,.any)] (.loop (.mark 29 [(3,.any),(4,.any),(7,.any),(8,.any)] (mOf g45 29)))))]) (by kernel_rfl) (marks_cons o45_27 marks_nil))
theorem e45:FnE t45 q45 fuel g45 N45 (fun d:TConf×TMach×Unit=>T_core_New d.1 d.2.1):=fun d k=>by kernel_rfl
theorem e48:FnE t48 q0 fuel g48 N48 (fun d:W .u32×W .i64×W .i64×Unit=>T_bits_Field d.1 d.2.1 d.2.2.1):=fun d k=>by kernel_rfl
theorem e57:FnE t57 q0 fuel g57 N57 (fun d:TInst×Unit=>T_crack_target d.1):=fun d k=>by kernel_rfl
theorem e60:FnE t0 q0 fuel g60 N60 (fun d:TUop×Unit=>T_place_waits d.1):=fun d k=>by kernel_rfl
theorem e65:FnE t0 q0 fuel g65 N65 (fun d:TUop×Unit=>T_place_writes d.1):=fun d k=>by kernel_rfl
theorem e74:FnE t74 q0 fuel g74 N74 (fun d:TFree×Unit=>T_freel_Take d.1):=fun d k=>by kernel_rfl
theorem e75:FnE t75 q0 fuel g75 N75 (fun d:Arr 16 (W .i64)×W .i64×W .i64×Unit=>T_rat_Set d.1 d.2.1 d.2.2.1):=fun d k=>by kernel_rfl
theorem e83:FnE t0 q0 fuel g83 N83 (fun d:Sl 224 (TIq)×Sl 224 (TIq)×Bool×Unit=>T_place_kept_Iq d.1 d.2.1 d.2.2.1):=fun d k=>by kernel_rfl
theorem e89:FnE t89 q0 fuel g89 N89 (fun d:Sl 32 (TSq)×W .u64×W .i64×Unit=>T_sq_Put d.1 d.2.1 d.2.2.1):=fun d k=>by kernel_rfl
theorem o91_19:Mo t91 q91 g91 19 [(2,.any),(3,.any),(4,.any),(5,.any),(7,.any),(9,.any),(10,.any),(13,.any),(55,.any),(56,.any)] (.trim [(2,.any),(3,.any),(4,.any),(5,.any),(7,.any),(9,.any),(10,.any),(13,.any)] (.loop (.mark 21 [(2,.any),(3,.any),(4,.any),(5,.any),(7,.any),(9,.any),(10,.any),(13,.any),(55,.any),(56,.any)] (mOf g91 21)))):=loop_mark (fnsC_mono _) (m:=K91_19) rfl (by kernel_rfl) (by kernel_rfl) (fun a=>by kernel_rfl) (marksE (by kernel_rfl) marks_nil) (B:=fun a:TCore×TUop×TCore×TNote×TRen×TConf×W .u32×Arr 3 (Bool)×Arr 3 (W .i64)×W .i64×Unit=>B_place_put_19 a.1 a.2.1 a.2.2.1 a.2.2.2.1 a.2.2.2.2.1 a.2.2.2.2.2.1 a.2.2.2.2.2.2.1 a.2.2.2.2.2.2.2.1 a.2.2.2.2.2.2.2.2.1 a.2.2.2.2.2.2.2.2.2.1) (fun a=>by kernel_rfl) (fun a kn kx=>by kernel_rfl)
theorem h91:MarksE t91 q91 fuel g91.keep g91.body:=(marksE (l:=[(19,[(2,.any),(3,.any),(4,.any),(5,.any),(7,.any),(9,.any),(10,.any),(13,.any),(55,.any),(56,.any)],(.trim [(2,.any),(3,.any),(4,.any),(5,.any),(7,.any),(9,.any),(10,.any),(13,.any)] (.loop (.mark 21 [(2,.any),(3,.any),(4,.any),(5,.any),(7,.any),(9,.any),(10,.any),(13,.any),(55,.any),(56,.any)] (mOf g91 21)))))]) (by kernel_rfl) (marks_cons o91_19 marks_nil))
theorem e91:FnE t91 q91 fuel g91 N91 (fun d:TCore×TUop×Unit=>T_place_put d.1 d.2.1):=fun d k=>by kernel_rfl
theorem o94_7:Mo t0 q94 g94 7 [(0,.any),(1,.any),(5,.any),(6,.any)] (.trim [(5,.any)] (.loop (.mark 9 [(0,.any),(1,.any),(5,.any),(6,.any)] (mOf g94 9)))):=loop_mark (fnsC_mono _) (m:=K94_7) rfl (by kernel_rfl) (by kernel_rfl) (fun a=>by kernel_rfl) (marksE (by kernel_rfl) marks_nil) (B:=fun a:Sl 168 (TUop)×W .i64×W .i64×W .i64×Unit=>B_ref45_count_7 a.1 a.2.1 a.2.2.1 a.2.2.2.1) (fun a=>by kernel_rfl) (fun a kn kx=>by kernel_rfl)
theorem h94:MarksE t0 q94 fuel g94.keep g94.body:=(marksE (l:=[(7,[(0,.any),(1,.any),(5,.any),(6,.any)],(.trim [(5,.any)] (.loop (.mark 9 [(0,.any),(1,.any),(5,.any),(6,.any)] (mOf g94 9)))))]) (by kernel_rfl) (marks_cons o94_7 marks_nil))
theorem e94:FnE t0 q94 fuel g94 N94 (fun d:Sl 168 (TUop)×W .i64×Unit=>T_ref45_count d.1 d.2.1):=fun d k=>by kernel_rfl
theorem e98:FnE t98 q0 fuel g98 N98 (fun d:TCore×Sl 168 (TUop)×Unit=>T_ref45_Fits d.1 d.2.1):=fun d k=>by kernel_rfl
theorem e99:FnE t99 q0 fuel g99 N99 (fun d:TCore×Sl 168 (TUop)×Unit=>T_law45_PlaceFits d.1 d.2.1):=fun d k=>by kernel_rfl
end Go.Proofs.YtkddkpmijhionaaDoor
