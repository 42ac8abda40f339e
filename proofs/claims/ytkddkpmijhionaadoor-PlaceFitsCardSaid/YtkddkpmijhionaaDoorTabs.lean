/- YtkddkpmijhionaaDoorTabs: the tables of functions and marks. No statement of the seat is proved here. -/
import Derived.Test.YtkddkpmijhionaaDoorTrees
import Derived.Test.YtkddkpmijhionaaDoorChecked
import Derived.Test.YtkddkpmijhionaaDoorA2G
set_option linter.unusedSimpArgs false
set_option linter.unusedVariables false
set_option maxRecDepth 100000
namespace Go.Proofs.YtkddkpmijhionaaDoor
open Go Go.A2
noncomputable section
abbrev Tt:=Nat→List (FnK tab)
abbrev Qt:=Nat→Option (MarkK tab)
def t0:Tt:=tbl []
def q0:Qt:=fun _=>none
def gx (x:FnX) (f:Func):AFn tab:=gOf Tryd.prog cx x f
abbrev OkN:=FnOk (X:=tab) Tryd.prog
abbrev Mo (t:Tt) (q:Qt) (g:AFn tab):=MarkOk (fnsC t) (markL q) g.keep fuel
def g1:=gx ⟨[0,1,2,3],[],[true],[]⟩ Tryd.f4
def N1:FnK tab:=⟨[.val (.named .TCore) (.no)],Bool,fun a:TCore×Unit=>F_law45_Light a.1,fun r:Bool=>(.val (.bool) r (.no),[.undef])⟩
def g2:=gx ⟨[0,2,3,10,17,20,27,34,37,40,43,46,49],[],[true],[]⟩ Tryd.f44
def N2:FnK tab:=⟨[.val (.int .i64) (.no)],W .i64,fun a:W .i64×Unit=>F_inst_Form a.1,fun r:W .i64=>(.val (.int .i64) r (.no),[.undef])⟩
def g3:=gx ⟨[0,1,4],[],[true],[]⟩ Tryd.f24
def N3:FnK tab:=⟨[.val (.int .i64) (.no),.val (.int .i64) (.no)],Bool,fun a:W .i64×W .i64×Unit=>F_inst_has a.1 a.2.1,fun r:Bool=>(.val (.bool) r (.no),[.undef,.undef])⟩
def t3:Tt:=tbl [(44,N2)]
def g4:=gx ⟨[0,1,4,5,6,16,24],[],[true],[]⟩ Tryd.f45
def N4:FnK tab:=⟨[.val (.int .i64) (.no),.val (.int .i64) (.no)],Bool,fun a:W .i64×W .i64×Unit=>F_inst_within a.1 a.2.1,fun r:Bool=>(.val (.bool) r (.no),[.undef,.undef])⟩
def g5:=gx ⟨[0,1,2,4,8,18,19,20,44,46,56],[],[true],[(11,[(1,.any),(18,.any),(19,.any)]),(12,[(1,.any),(2,.any)]),(13,[(1,.any),(18,.any),(19,.any)])]⟩ Tryd.f22
def K5_11:MarkK tab:=⟨[(1,.box (.named .TInst) (.no)),(18,.val (.arr 3 (.named .TS124)) (.no)),(19,.val (.int .i64) (.no))],[(.ret,[(1,.box (.named .TInst) (.no)),(2,.val (.int .i64) (.no))]),((.exit 0),[(1,.box (.named .TInst) (.no)),(2,.undef)])],L_inst_Right_11⟩
def N5:FnK tab:=⟨[.val (.named .TInst) (.no)],W .i64,fun a:TInst×Unit=>F_inst_Right a.1,fun r:W .i64=>(.val (.int .i64) r (.no),[.undef])⟩
def t5:Tt:=tbl [(24,N3),(44,N2),(45,N4)]
def q5:Qt:=mtbl [(11,K5_11)]
def g6:=gx ⟨[0,1,2,6],[],[true],[]⟩ Tryd.f79
def N6:FnK tab:=⟨[.val (.int .i64) (.no),.val (.int .i64) (.no),.val (.int .i64) (.no)],W .i64,fun a:W .i64×W .i64×W .i64×Unit=>F_bits_clamp a.1 a.2.1 a.2.2.1,fun r:W .i64=>(.val (.int .i64) r (.no),[.undef,.undef,.undef])⟩
def g7:=gx ⟨[0,2],[],[true],[]⟩ Tryd.f80
def N7:FnK tab:=⟨[.val (.int .i64) (.no)],W .u32,fun a:W .i64×Unit=>F_bits_ones a.1,fun r:W .u32=>(.val (.int .u32) r (.no),[.undef])⟩
def g8:=gx ⟨[0,1,4,5,12],[],[true,true],[]⟩ Tryd.f46
def N8:FnK tab:=⟨[.val (.int .i64) (.no),.val (.int .i64) (.no)],W .u32×W .i64,fun a:W .i64×W .i64×Unit=>F_bits_mask a.1 a.2.1,fun r:W .u32×W .i64=>(.tup [.val (.int .u32) r.1 (.no),.val (.int .i64) r.2 (.no)],[.undef,.undef])⟩
def t8:Tt:=tbl [(79,N6),(80,N7)]
def g9:=gx ⟨[0,1,2,3,8,9,10],[],[true],[]⟩ Tryd.f23
def N9:FnK tab:=⟨[.val (.int .u32) (.no),.val (.int .i64) (.no),.val (.int .i64) (.no),.val (.int .u32) (.no)],W .u32,fun a:W .u32×W .i64×W .i64×W .u32×Unit=>F_bits_Put a.1 a.2.1 a.2.2.1 a.2.2.2.1,fun r:W .u32=>(.val (.int .u32) r (.no),[.undef,.undef,.undef,.undef])⟩
def t9:Tt:=tbl [(46,N8)]
def g10:=gx ⟨[0,2,5],[],[true],[]⟩ Tryd.f25
def N10:FnK tab:=⟨[.val (.int .i64) (.no)],W .i64,fun a:W .i64×Unit=>F_inst_width a.1,fun r:W .i64=>(.val (.int .i64) r (.no),[.undef])⟩
def t10:Tt:=tbl [(44,N2)]
def g11:=gx ⟨[0,1,2,3,4,5,9,32],[],[true,true],[]⟩ Tryd.f8
def N11:FnK tab:=⟨[.val (.named .TInst) (.no)],W .u32×W .i64,fun a:TInst×Unit=>F_inst_Enc a.1,fun r:W .u32×W .i64=>(.tup [.val (.int .u32) r.1 (.no),.val (.int .i64) r.2 (.no)],[.undef])⟩
def t11:Tt:=tbl [(22,N5),(23,N9),(24,N3),(25,N10)]
def g12:=gx ⟨[0,1,2],[],[true],[]⟩ Tryd.f48
def N12:FnK tab:=⟨[.val (.named .TSeg) (.no)],W .i64,fun a:TSeg×Unit=>F_rom_end a.1,fun r:W .i64=>(.val (.int .i64) r (.no),[.undef])⟩
def g13:=gx ⟨[0,1,2,3,5,9,11,12,13,14,17,22,26],[],[true],[(13,[(3,.any),(11,.any),(12,.any),(13,.any)]),(14,[(2,.any)]),(15,[(3,.any),(11,.any),(12,.any),(13,.any)])]⟩ Tryd.f47
def K13_13:MarkK tab:=⟨[(3,.val (.int .i64) (.no)),(11,.val (.slice 32 (.named .TSeg)) (.no)),(12,.val (.int .i64) (.no)),(13,.val (.int .i64) (.no))],[(.ret,[(2,.val (.int .i64) (.no))]),((.exit 0),[(2,.undef)])],L_rom_Right_13⟩
def N13:FnK tab:=⟨[.val (.named .TImage) (.no)],W .i64,fun a:TImage×Unit=>F_rom_Right a.1,fun r:W .i64=>(.val (.int .i64) r (.no),[.undef])⟩
def t13:Tt:=tbl [(48,N12)]
def q13:Qt:=mtbl [(13,K13_13)]
def g14:=gx ⟨[0,1,3,4,5,6,7,9,20,24,29,30,31,32,38],[],[true,true],[(21,[(0,.any),(7,.any),(29,.any),(30,.any),(31,.any)]),(22,[(4,.any),(5,.any),(7,.any)]),(23,[(0,.any),(7,.any),(29,.any),(30,.any),(31,.any)])]⟩ Tryd.f26
def K14_21:MarkK tab:=⟨[(0,.val (.int .i64) (.no)),(7,.val (.slice 1 (.int .u8)) (.yes 0)),(29,.val (.slice 32 (.named .TSeg)) (.no)),(30,.val (.int .i64) (.no)),(31,.val (.int .i64) (.no))],[(.ret,[(4,.val (.slice 1 (.int .u8)) (.full)),(5,.val (.int .i64) (.no)),(7,.val (.slice 1 (.int .u8)) (.yes 0))]),((.exit 0),[(4,.undef),(5,.undef),(7,.val (.slice 1 (.int .u8)) (.yes 0))])],L_rom_Load_21⟩
def N14:FnK tab:=⟨[.val (.int .i64) (.no),.val (.named .TImage) (.no)],Sl 1 (W .u8)×W .i64,fun a:W .i64×TImage×Unit=>F_rom_Load a.1 a.2.1,fun r:Sl 1 (W .u8)×W .i64=>(.tup [.val (.slice 1 (.int .u8)) r.1 (.no),.val (.int .i64) r.2 (.no)],[.undef,.undef])⟩
def t14:Tt:=tbl [(47,N13),(48,N12)]
def q14:Qt:=mtbl [(21,K14_21)]
def g15:=gx ⟨[0,1,2,4,5,6,7,8,16],[],[true,true],[]⟩ Tryd.f9
def N15:FnK tab:=⟨[.val (.named .TImage) (.no),.val (.int .i64) (.no)],TMach×W .i64,fun a:TImage×W .i64×Unit=>F_step_New a.1 a.2.1,fun r:TMach×W .i64=>(.tup [.val (.named .TMach) r.1 (.no),.val (.int .i64) r.2 (.no)],[.undef,.undef])⟩
def t15:Tt:=tbl [(26,N14)]
def g16:=gx ⟨[0],[],[true],[]⟩ Tryd.f11
def N16:FnK tab:=⟨[],TConf,fun a:Unit=>F_core_Plain,fun r:TConf=>(.val (.named .TConf) r (.no),[])⟩
def g17:=gx ⟨[0,1,2],[],[true],[]⟩ Tryd.f50
def N17:FnK tab:=⟨[.val (.named .TConf) (.no)],Sl 24 (TBound),fun a:TConf×Unit=>F_core_bounds a.1,fun r:Sl 24 (TBound)=>(.val (.slice 24 (.named .TBound)) r (.no),[.undef])⟩
def g18:=gx ⟨[0,1,2],[],[true],[]⟩ Tryd.f51
def N18:FnK tab:=⟨[.val (.named .TBound) (.no)],Bool,fun a:TBound×Unit=>F_core_Conf_1 a.1,fun r:Bool=>(.val (.bool) r (.no),[.undef])⟩
def g19:=gx ⟨[0,1,4,5,7,8,9,16],[],[true],[(5,[(0,.any),(1,.any),(7,.any),(8,.any)]),(6,[(4,.any)]),(7,[(0,.any),(1,.any),(7,.any),(8,.any)])]⟩ Tryd.f81
def K19_5:MarkK tab:=⟨[(0,.val (.slice 24 (.named .TBound)) (.no)),(1,.fn 51 [] []),(7,.val (.int .i64) (.no)),(8,.val (.int .i64) (.no))],[(.ret,[(4,.val (.int .i64) (.no))]),((.exit 0),[(4,.undef)])],L_slices_IndexFunc_bound_of_core_Conf_1_5⟩
def N19:FnK tab:=⟨[.val (.slice 24 (.named .TBound)) (.no),.fn 51 [] []],W .i64,fun a:Sl 24 (TBound)×((Unit)×(Unit))×Unit=>F_slices_IndexFunc_bound_of_core_Conf_1 a.1,fun r:W .i64=>(.val (.int .i64) r (.no),[.undef,.undef])⟩
def t19:Tt:=tbl [(51,N18)]
def q19:Qt:=mtbl [(5,K19_5)]
def g20:=gx ⟨[0,1,4],[],[true],[]⟩ Tryd.f49
def N20:FnK tab:=⟨[.val (.slice 24 (.named .TBound)) (.no),.fn 51 [] []],Bool,fun a:Sl 24 (TBound)×((Unit)×(Unit))×Unit=>F_slices_ContainsFunc_bound_of_core_Conf_1 a.1,fun r:Bool=>(.val (.bool) r (.no),[.undef,.undef])⟩
def t20:Tt:=tbl [(81,N19)]
def g21:=gx ⟨[0,1,2,5],[],[true],[]⟩ Tryd.f27
def N21:FnK tab:=⟨[.val (.named .TConf) (.no)],W .i64,fun a:TConf×Unit=>F_core_Conf a.1,fun r:W .i64=>(.val (.int .i64) r (.no),[.undef])⟩
def t21:Tt:=tbl [(49,N20),(50,N17)]
def g22:=gx ⟨[0,2,3,10],[],[true],[]⟩ Tryd.f82
def N22:FnK tab:=⟨[.val (.int .i64) (.no)],W .u32,fun a:W .i64×Unit=>F_csr_Masked a.1,fun r:W .u32=>(.val (.int .u32) r (.no),[.undef])⟩
def g23:=gx ⟨[0,1,2,3,4,6,7,8,15],[],[true],[(5,[(1,.any),(6,.any),(7,.any)]),(6,[(1,.any),(2,.any)]),(7,[(1,.any),(6,.any),(7,.any)])]⟩ Tryd.f52
def K23_5:MarkK tab:=⟨[(1,.box (.named .TArch) (.no)),(6,.val (.arr 12 (.int .u32)) (.no)),(7,.val (.int .i64) (.no))],[(.ret,[(1,.box (.named .TArch) (.no)),(2,.val (.bool) (.no))]),((.exit 0),[(1,.box (.named .TArch) (.no)),(2,.undef)])],L_core_clean_5⟩
def N23:FnK tab:=⟨[.val (.named .TArch) (.no)],Bool,fun a:TArch×Unit=>F_core_clean a.1,fun r:Bool=>(.val (.bool) r (.no),[.undef])⟩
def t23:Tt:=tbl [(82,N22)]
def q23:Qt:=mtbl [(5,K23_5)]
def g24:=gx ⟨[0,1,2,3,24],[],[true],[]⟩ Tryd.f28
def N24:FnK tab:=⟨[.val (.named .TMach) (.no)],Bool,fun a:TMach×Unit=>F_core_right a.1,fun r:Bool=>(.val (.bool) r (.no),[.undef])⟩
def t24:Tt:=tbl [(52,N23)]
def g25:=gx ⟨[0,1,2],[],[true],[]⟩ Tryd.f29
def N25:FnK tab:=⟨[.val (.named .TMach) (.no)],TMach,fun a:TMach×Unit=>F_step_Copy a.1,fun r:TMach=>(.val (.named .TMach) r (.no),[.undef])⟩
def g26:=gx ⟨[0,2],[],[true],[]⟩ Tryd.f84
def N26:FnK tab:=⟨[.val (.int .i64) (.no)],W .i64,fun a:W .i64×Unit=>F_pht_clamp a.1,fun r:W .i64=>(.val (.int .i64) r (.no),[.undef])⟩
def g27:=gx ⟨[0,1,4,5,6,7,8,9,10,11,12,13],[],[true,true],[]⟩ Tryd.f99
def N27:FnK tab:=⟨[.val (.int .u64) (.no),.val (.int .u64) (.no)],W .u64×W .u64,fun a:W .u64×W .u64×Unit=>F_bits_Mul64 a.1 a.2.1,fun r:W .u64×W .u64=>(.tup [.val (.int .u64) r.1 (.no),.val (.int .u64) r.2 (.no)],[.undef,.undef])⟩
def g28:=gx ⟨[0,1,4,5,6,7,8,9],[],[true,true],[]⟩ Tryd.f85
def N28:FnK tab:=⟨[.val (.int .u64) (.no),.val (.int .u64) (.no)],W .u64×W .u64,fun a:W .u64×W .u64×Unit=>F_bits_Mul a.1 a.2.1,fun r:W .u64×W .u64=>(.tup [.val (.int .u64) r.1 (.no),.val (.int .u64) r.2 (.no)],[.undef,.undef])⟩
def t28:Tt:=tbl [(99,N27)]
def g29:=gx ⟨[0,1,4,5,6,7,8,10,26,37],[],[true],[(17,[(7,.any),(8,.any)]),(18,[(7,.any)]),(19,[(7,.any),(8,.any)])]⟩ Tryd.f83
def K29_17:MarkK tab:=⟨[(7,.val (.slice 1 (.int .u8)) (.yes 0)),(8,.val (.int .i64) (.no))],[((.exit 0),[(7,.val (.slice 1 (.int .u8)) (.yes 0))])],L_slices_Repeat_uint8_17⟩
def N29:FnK tab:=⟨[.val (.slice 1 (.int .u8)) (.no),.val (.int .i64) (.no)],Sl 1 (W .u8),fun a:Sl 1 (W .u8)×W .i64×Unit=>F_slices_Repeat_uint8 a.1 a.2.1,fun r:Sl 1 (W .u8)=>(.val (.slice 1 (.int .u8)) r (.no),[.undef,.undef])⟩
def t29:Tt:=tbl [(85,N28)]
def q29:Qt:=mtbl [(17,K29_17)]
def g30:=gx ⟨[0,2],[],[true],[]⟩ Tryd.f53
def N30:FnK tab:=⟨[.val (.int .i64) (.no)],Sl 1 (W .u8),fun a:W .i64×Unit=>F_pht_New a.1,fun r:Sl 1 (W .u8)=>(.val (.slice 1 (.int .u8)) r (.no),[.undef])⟩
def t30:Tt:=tbl [(83,N29),(84,N26)]
def g31:=gx ⟨[0,2],[],[true],[]⟩ Tryd.f54
def N31:FnK tab:=⟨[.val (.int .i64) (.no)],Sl 16 (TBtb),fun a:W .i64×Unit=>F_btb_New a.1,fun r:Sl 16 (TBtb)=>(.val (.slice 16 (.named .TBtb)) r (.no),[.undef])⟩
def g32:=gx ⟨[0,2],[],[true],[]⟩ Tryd.f55
def N32:FnK tab:=⟨[.val (.int .i64) (.no)],Sl 4 (W .u32),fun a:W .i64×Unit=>F_ras_New a.1,fun r:Sl 4 (W .u32)=>(.val (.slice 4 (.int .u32)) r (.no),[.undef])⟩
def g33:=gx ⟨[0,1,2],[],[true],[]⟩ Tryd.f30
def N33:FnK tab:=⟨[.val (.named .TConf) (.no)],TPred,fun a:TConf×Unit=>F_pred_New a.1,fun r:TPred=>(.val (.named .TPred) r (.no),[.undef])⟩
def t33:Tt:=tbl [(53,N30),(54,N31),(55,N32)]
def g34:=gx ⟨[0,2],[],[true],[]⟩ Tryd.f31
def N34:FnK tab:=⟨[.val (.int .i64) (.no)],Sl 24 (TTlb),fun a:W .i64×Unit=>F_tlb_New a.1,fun r:Sl 24 (TTlb)=>(.val (.slice 24 (.named .TTlb)) r (.no),[.undef])⟩
def g35:=gx ⟨[0,2],[],[true],[]⟩ Tryd.f32
def N35:FnK tab:=⟨[.val (.int .i64) (.no)],Sl 1 (W .u8),fun a:W .i64×Unit=>F_dep_New a.1,fun r:Sl 1 (W .u8)=>(.val (.slice 1 (.int .u8)) r (.no),[.undef])⟩
def g36:=gx ⟨[0,1,2,5],[],[true],[(7,[(0,.any),(1,.any),(2,.any)]),(8,[(0,.any),(1,.any)]),(9,[(0,.any),(1,.any),(2,.any)])]⟩ Tryd.f56
def K36_7:MarkK tab:=⟨[(0,.box (.arr 16 (.int .i64)) (.no)),(1,.box (.arr 16 (.int .i64)) (.no)),(2,.val (.int .i64) (.no))],[((.exit 0),[(0,.box (.arr 16 (.int .i64)) (.no)),(1,.box (.arr 16 (.int .i64)) (.no))])],L_rat_New_7⟩
def N36:FnK tab:=⟨[],Arr 16 (W .i64),fun a:Unit=>F_rat_New,fun r:Arr 16 (W .i64)=>(.val (.arr 16 (.int .i64)) r (.no),[])⟩
def q36:Qt:=mtbl [(7,K36_7)]
def g37:=gx ⟨[0,1,4,5,6,21,22,23],[],[true],[(11,[(1,.any),(4,.any),(5,.any),(21,.any),(22,.any)]),(12,[(4,.any),(5,.any)]),(13,[(1,.any),(4,.any),(5,.any),(21,.any),(22,.any)])]⟩ Tryd.f57
def K37_11:MarkK tab:=⟨[(1,.val (.int .i64) (.no)),(4,.box (.named .TFree) (.st [.yes 0,.no,.no])),(5,.box (.named .TFree) (.st [.yes 0,.no,.no])),(21,.val (.int .i64) (.no)),(22,.val (.int .i64) (.no))],[((.exit 0),[(4,.box (.named .TFree) (.st [.yes 0,.no,.no])),(5,.box (.named .TFree) (.st [.yes 0,.no,.no]))])],L_freel_New_11⟩
def N37:FnK tab:=⟨[.val (.int .i64) (.no),.val (.int .i64) (.no)],TFree,fun a:W .i64×W .i64×Unit=>F_freel_New a.1 a.2.1,fun r:TFree=>(.val (.named .TFree) r (.no),[.undef,.undef])⟩
def q37:Qt:=mtbl [(11,K37_11)]
def g38:=gx ⟨[0,2],[],[true],[]⟩ Tryd.f33
def N38:FnK tab:=⟨[.val (.int .i64) (.no)],TNames,fun a:W .i64×Unit=>F_rename_New a.1,fun r:TNames=>(.val (.named .TNames) r (.no),[.undef])⟩
def t38:Tt:=tbl [(56,N36),(57,N37)]
def g39:=gx ⟨[0,1,4,5,6,7,8,10,26,37],[],[true],[(17,[(7,.any),(8,.any)]),(18,[(7,.any)]),(19,[(7,.any),(8,.any)])]⟩ Tryd.f58
def K39_17:MarkK tab:=⟨[(7,.val (.slice 1 (.bool)) (.yes 0)),(8,.val (.int .i64) (.no))],[((.exit 0),[(7,.val (.slice 1 (.bool)) (.yes 0))])],L_slices_Repeat_bool_17⟩
def N39:FnK tab:=⟨[.val (.slice 1 (.bool)) (.no),.val (.int .i64) (.no)],Sl 1 (Bool),fun a:Sl 1 (Bool)×W .i64×Unit=>F_slices_Repeat_bool a.1 a.2.1,fun r:Sl 1 (Bool)=>(.val (.slice 1 (.bool)) r (.no),[.undef,.undef])⟩
def t39:Tt:=tbl [(85,N28)]
def q39:Qt:=mtbl [(17,K39_17)]
def g40:=gx ⟨[0,2],[],[true],[]⟩ Tryd.f34
def N40:FnK tab:=⟨[.val (.int .i64) (.no)],TPhys,fun a:W .i64×Unit=>F_prf_New a.1,fun r:TPhys=>(.val (.named .TPhys) r (.no),[.undef])⟩
def t40:Tt:=tbl [(58,N39)]
def N41:FnK tab:=cloneK 4 (.int .u32)
def N42:FnK tab:=cloneK 1 (.bool)
def g43:=gx ⟨[0,1,2,4],[],[true],[]⟩ Tryd.f61
def N43:FnK tab:=⟨[.val (.named .TPhys) (.no),.val (.int .i64) (.no)],Bool,fun a:TPhys×W .i64×Unit=>F_prf_has a.1 a.2.1,fun r:Bool=>(.val (.bool) r (.no),[.undef,.undef])⟩
def g44:=gx ⟨[0,1,2,3,6,7,17],[],[true],[]⟩ Tryd.f35
def N44:FnK tab:=⟨[.val (.named .TPhys) (.no),.val (.int .i64) (.no),.val (.int .u32) (.no)],TPhys,fun a:TPhys×W .i64×W .u32×Unit=>F_prf_Put a.1 a.2.1 a.2.2.1,fun r:TPhys=>(.val (.named .TPhys) r (.no),[.undef,.undef,.undef])⟩
def t44:Tt:=tbl [(59,N41),(60,N42),(61,N43)]
def g45:=gx ⟨[0,1,2,3,4,5,6,7,8,12,17,52],[],[true,true],[(27,[(3,.any),(4,.any),(7,.any),(8,.any)]),(28,[(4,.any),(7,.any)]),(29,[(3,.any),(4,.any),(7,.any),(8,.any)])]⟩ Tryd.f10
def K45_27:MarkK tab:=⟨[(3,.box (.named .TMach) (.no)),(4,.box (.named .TCore) (.st [.no,.no,.yes 0,.yes 0,.no,.no,.no,.yes 0,.no,.yes 0,.no,.no,.yes 0,.yes 0,.yes 0,.yes 0,.yes 0,.yes 0,.yes 0,.no,.no])),(7,.box (.named .TCore) (.st [.no,.no,.no,.no,.no,.no,.no,.no,.no,.yes 0,.no,.no,.yes 0,.yes 0,.yes 0,.yes 0,.yes 0,.yes 0,.no,.no,.no])),(8,.val (.int .i64) (.no))],[((.exit 0),[(4,.box (.named .TCore) (.st [.no,.no,.yes 0,.yes 0,.no,.no,.no,.yes 0,.no,.yes 0,.no,.no,.yes 0,.yes 0,.yes 0,.yes 0,.yes 0,.yes 0,.yes 0,.no,.no])),(7,.box (.named .TCore) (.st [.no,.no,.no,.no,.no,.no,.no,.no,.no,.yes 0,.no,.no,.yes 0,.yes 0,.yes 0,.yes 0,.yes 0,.yes 0,.no,.no,.no]))])],L_core_New_27⟩
def N45:FnK tab:=⟨[.val (.named .TConf) (.no),.val (.named .TMach) (.no)],TCore×W .i64,fun a:TConf×TMach×Unit=>F_core_New a.1 a.2.1,fun r:TCore×W .i64=>(.tup [.val (.named .TCore) r.1 (.no),.val (.int .i64) r.2 (.no)],[.undef,.undef])⟩
def t45:Tt:=tbl [(27,N21),(28,N24),(29,N25),(30,N33),(31,N34),(32,N35),(33,N38),(34,N40),(35,N44)]
def q45:Qt:=mtbl [(27,K45_27)]
def g46:=gx ⟨[0],[],[true],[]⟩ Tryd.f73
def N46:FnK tab:=⟨[],Arr 3 (W .i64),fun a:Unit=>F_crack_none,fun r:Arr 3 (W .i64)=>(.val (.arr 3 (.int .i64)) r (.no),[])⟩
def g47:=gx ⟨[0,1,2,3,6],[],[true],[]⟩ Tryd.f37
def N47:FnK tab:=⟨[.val (.named .TSlot) (.no),.val (.int .i64) (.no),.val (.int .u32) (.no)],Sl 168 (TUop),fun a:TSlot×W .i64×W .u32×Unit=>F_crack_trap a.1 a.2.1 a.2.2.1,fun r:Sl 168 (TUop)=>(.val (.slice 168 (.named .TUop)) r (.no),[.undef,.undef,.undef])⟩
def t47:Tt:=tbl [(73,N46)]
def g48:=gx ⟨[0,1,2,6,7,8],[],[true],[]⟩ Tryd.f74
def N48:FnK tab:=⟨[.val (.int .u32) (.no),.val (.int .i64) (.no),.val (.int .i64) (.no)],W .u32,fun a:W .u32×W .i64×W .i64×Unit=>F_bits_Field a.1 a.2.1 a.2.2.1,fun r:W .u32=>(.val (.int .u32) r (.no),[.undef,.undef,.undef])⟩
def t48:Tt:=tbl [(46,N8)]
def g49:=gx ⟨[0,1,4],[],[true],[]⟩ Tryd.f94
def N49:FnK tab:=⟨[.val (.int .u32) (.no),.val (.int .i64) (.no)],W .u32,fun a:W .u32×W .i64×Unit=>F_bits_Zext a.1 a.2.1,fun r:W .u32=>(.val (.int .u32) r (.no),[.undef,.undef])⟩
def t49:Tt:=tbl [(79,N6),(80,N7)]
def g50:=gx ⟨[0,1,4,5],[],[true],[]⟩ Tryd.f95
def N50:FnK tab:=⟨[.val (.int .u32) (.no),.val (.int .i64) (.no)],W .u32,fun a:W .u32×W .i64×Unit=>F_bits_Sext a.1 a.2.1,fun r:W .u32=>(.val (.int .u32) r (.no),[.undef,.undef])⟩
def t50:Tt:=tbl [(79,N6)]
def g51:=gx ⟨[0,1,4,6],[],[true],[]⟩ Tryd.f75
def N51:FnK tab:=⟨[.val (.int .i64) (.no),.val (.int .u32) (.no)],W .i64,fun a:W .i64×W .u32×Unit=>F_inst_number a.1 a.2.1,fun r:W .i64=>(.val (.int .i64) r (.no),[.undef,.undef])⟩
def t51:Tt:=tbl [(25,N10),(94,N49),(95,N50)]
def g52:=gx ⟨[0,2,3,4,5,6,13,17,24,31,38,55],[],[true,true],[]⟩ Tryd.f38
def N52:FnK tab:=⟨[.val (.int .u32) (.no)],TInst×W .i64,fun a:W .u32×Unit=>F_inst_Dec a.1,fun r:TInst×W .i64=>(.tup [.val (.named .TInst) r.1 (.no),.val (.int .i64) r.2 (.no)],[.undef])⟩
def t52:Tt:=tbl [(8,N11),(24,N3),(74,N48),(75,N51)]
def g53:=gx ⟨[0,2],[],[true],[]⟩ Tryd.f96
def N53:FnK tab:=⟨[.val (.int .i64) (.no)],Bool,fun a:W .i64×Unit=>F_crack_Serial a.1,fun r:Bool=>(.val (.bool) r (.no),[.undef])⟩
def g54:=gx ⟨[0,2,3,10,17,24,31,38,45],[],[true],[]⟩ Tryd.f76
def N54:FnK tab:=⟨[.val (.int .i64) (.no)],W .i64,fun a:W .i64×Unit=>F_crack_Unit a.1,fun r:W .i64=>(.val (.int .i64) r (.no),[.undef])⟩
def t54:Tt:=tbl [(96,N53)]
def g55:=gx ⟨[0,2,4],[],[true],[]⟩ Tryd.f97
def N55:FnK tab:=⟨[.val (.int .i64) (.no)],W .i64,fun a:W .i64×Unit=>F_crack_reg a.1,fun r:W .i64=>(.val (.int .i64) r (.no),[.undef])⟩
def g56:=gx ⟨[0,1,2,3,7,11,12,24,33],[],[true],[]⟩ Tryd.f77
def N56:FnK tab:=⟨[.val (.named .TInst) (.no)],Arr 3 (W .i64),fun a:TInst×Unit=>F_crack_sources a.1,fun r:Arr 3 (W .i64)=>(.val (.arr 3 (.int .i64)) r (.no),[.undef])⟩
def t56:Tt:=tbl [(44,N2),(73,N46),(96,N53),(97,N55)]
def g57:=gx ⟨[0,1,2,5,6],[],[true],[]⟩ Tryd.f78
def N57:FnK tab:=⟨[.val (.named .TInst) (.no)],W .i64,fun a:TInst×Unit=>F_crack_target a.1,fun r:W .i64=>(.val (.int .i64) r (.no),[.undef])⟩
def t57:Tt:=tbl [(44,N2),(97,N55)]
def g58:=gx ⟨[0,1,2,3,4,5,8],[],[true],[]⟩ Tryd.f39
def N58:FnK tab:=⟨[.val (.named .TSlot) (.no),.val (.named .TInst) (.no),.val (.int .i64) (.no),.val (.bool) (.no)],TUop,fun a:TSlot×TInst×W .i64×Bool×Unit=>F_crack_part a.1 a.2.1 a.2.2.1 a.2.2.2.1,fun r:TUop=>(.val (.named .TUop) r (.no),[.undef,.undef,.undef,.undef])⟩
def t58:Tt:=tbl [(76,N54),(77,N56),(78,N57)]
def g59:=gx ⟨[0,1,2,3,4,5,8,22,29,48],[],[true],[]⟩ Tryd.f13
def N59:FnK tab:=⟨[.val (.named .TSlot) (.no)],Sl 168 (TUop),fun a:TSlot×Unit=>F_crack_Uops a.1,fun r:Sl 168 (TUop)=>(.val (.slice 168 (.named .TUop)) r (.no),[.undef])⟩
def t59:Tt:=tbl [(37,N47),(38,N52),(39,N58)]
def g60:=gx ⟨[0,1,2],[],[true],[]⟩ Tryd.f15
def N60:FnK tab:=⟨[.val (.named .TUop) (.no)],Bool,fun a:TUop×Unit=>F_place_waits a.1,fun r:Bool=>(.val (.bool) r (.no),[.undef])⟩
def g61:=gx ⟨[0,1,4,5,7,8,9,10,11,16],[],[true],[(7,[(1,.any),(5,.any),(8,.any),(9,.any),(10,.any)]),(8,[(5,.any)]),(9,[(1,.any),(5,.any),(8,.any),(9,.any),(10,.any)])]⟩ Tryd.f14
def K61_7:MarkK tab:=⟨[(1,.fn 15 [] []),(5,.val (.int .i64) (.no)),(8,.val (.slice 168 (.named .TUop)) (.no)),(9,.val (.int .i64) (.no)),(10,.val (.int .i64) (.no))],[((.exit 0),[(5,.val (.int .i64) (.no))])],L_place_many_7⟩
def N61:FnK tab:=⟨[.val (.slice 168 (.named .TUop)) (.no),.fn 15 [] []],W .i64,fun a:Sl 168 (TUop)×((Unit)×(Unit))×Unit=>F_place_many a.1,fun r:W .i64=>(.val (.int .i64) r (.no),[.undef,.undef])⟩
def t61:Tt:=tbl [(15,N60)]
def q61:Qt:=mtbl [(7,K61_7)]
def g62:=gx ⟨[0,1,2],[],[true],[]⟩ Tryd.f16
def N62:FnK tab:=⟨[.val (.int .i64) (.no)],W .i64,fun a:W .i64×Unit=>F_place_of a.1,fun r:W .i64=>(.fn 40 [] [.rptr (.int .i64) r],[.undef])⟩
def g63:=gx ⟨[0,1,2,3],[],[true],[]⟩ Tryd.f40
def N63:FnK tab:=⟨[.val (.named .TUop) (.no),.rptr (.int .i64)],Bool,fun a:TUop×W .i64×Unit=>F_place_of_1 a.1 a.2.1,fun r:Bool=>(.val (.bool) r (.no),[.undef,.undef])⟩
def g64:=gx ⟨[0,1,4,5,7,8,9,10,11,16],[],[true],[(7,[(1,.any),(5,.any),(8,.any),(9,.any),(10,.any)]),(8,[(5,.any)]),(9,[(1,.any),(5,.any),(8,.any),(9,.any),(10,.any)])]⟩ Tryd.f14
def K64_7:MarkK tab:=⟨[(1,.fn 40 [] [.rptr (.int .i64)]),(5,.val (.int .i64) (.no)),(8,.val (.slice 168 (.named .TUop)) (.no)),(9,.val (.int .i64) (.no)),(10,.val (.int .i64) (.no))],[((.exit 0),[(5,.val (.int .i64) (.no))])],L_place_many_v1_7⟩
def N64:FnK tab:=⟨[.val (.slice 168 (.named .TUop)) (.no),.fn 40 [] [.rptr (.int .i64)]],W .i64,fun a:Sl 168 (TUop)×((Unit)×(W .i64×Unit))×Unit=>F_place_many_v1 a.1 a.2.1.2.1,fun r:W .i64=>(.val (.int .i64) r (.no),[.undef,.undef])⟩
def t64:Tt:=tbl [(40,N63)]
def q64:Qt:=mtbl [(7,K64_7)]
def g65:=gx ⟨[0,1,2],[],[true],[]⟩ Tryd.f17
def N65:FnK tab:=⟨[.val (.named .TUop) (.no)],Bool,fun a:TUop×Unit=>F_place_writes a.1,fun r:Bool=>(.val (.bool) r (.no),[.undef])⟩
def g66:=gx ⟨[0,1,4,5,7,8,9,10,11,16],[],[true],[(7,[(1,.any),(5,.any),(8,.any),(9,.any),(10,.any)]),(8,[(5,.any)]),(9,[(1,.any),(5,.any),(8,.any),(9,.any),(10,.any)])]⟩ Tryd.f14
def K66_7:MarkK tab:=⟨[(1,.fn 17 [] []),(5,.val (.int .i64) (.no)),(8,.val (.slice 168 (.named .TUop)) (.no)),(9,.val (.int .i64) (.no)),(10,.val (.int .i64) (.no))],[((.exit 0),[(5,.val (.int .i64) (.no))])],L_place_many_v2_7⟩
def N66:FnK tab:=⟨[.val (.slice 168 (.named .TUop)) (.no),.fn 17 [] []],W .i64,fun a:Sl 168 (TUop)×((Unit)×(Unit))×Unit=>F_place_many_v2 a.1,fun r:W .i64=>(.val (.int .i64) r (.no),[.undef,.undef])⟩
def t66:Tt:=tbl [(17,N65)]
def q66:Qt:=mtbl [(7,K66_7)]
def g67:=gx ⟨[0,1,2,3],[],[true],[]⟩ Tryd.f41
def N67:FnK tab:=⟨[.val (.named .TFree) (.no)],Bool,fun a:TFree×Unit=>F_freel_ring_sound a.1,fun r:Bool=>(.val (.bool) r (.no),[.undef])⟩
def g68:=gx ⟨[0,1,2,4,5],[],[true],[]⟩ Tryd.f42
def N68:FnK tab:=⟨[.val (.named .TFree) (.no),.val (.int .i64) (.no)],W .i64,fun a:TFree×W .i64×Unit=>F_freel_ring_at a.1 a.2.1,fun r:W .i64=>(.val (.int .i64) r (.no),[.undef,.undef])⟩
def g69:=gx ⟨[0,1,2,3,4,5,8,12,13,14],[],[true],[(15,[(1,.any),(3,.any),(4,.own),(12,.any),(13,.any)]),(16,[(4,.any)]),(17,[(1,.any),(3,.any),(4,.own),(12,.any),(13,.any)])]⟩ Tryd.f18
def K69_15:MarkK tab:=⟨[(1,.box (.named .TFree) (.no)),(3,.fn 42 [.val (.named .TFree) (.no)] []),(4,.val (.slice 8 (.int .i64)) (.yes 0)),(12,.val (.int .i64) (.no)),(13,.val (.int .i64) (.no))],[((.exit 0),[(4,.val (.slice 8 (.int .i64)) (.yes 0))])],L_freel_List_15⟩
def N69:FnK tab:=⟨[.val (.named .TFree) (.no)],Sl 8 (W .i64),fun a:TFree×Unit=>F_freel_List a.1,fun r:Sl 8 (W .i64)=>(.val (.slice 8 (.int .i64)) r (.no),[.undef])⟩
def t69:Tt:=tbl [(41,N67),(42,N68)]
def q69:Qt:=mtbl [(15,K69_15)]
def g70:=gx ⟨[0,1,2,4,5],[],[true],[]⟩ Tryd.f6
def N70:FnK tab:=⟨[.val (.named .TCore) (.no),.val (.slice 168 (.named .TUop)) (.no)],Bool,fun a:TCore×Sl 168 (TUop)×Unit=>F_place_Fits a.1 a.2.1,fun r:Bool=>(.val (.bool) r (.no),[.undef,.undef])⟩
def t70:Tt:=tbl [(14,N61),(14,N66),(14,N64),(16,N62),(18,N69)]
def g71:=gx ⟨[0,2],[],[true],[]⟩ Tryd.f100
def N71:FnK tab:=⟨[.val (.int .i64) (.no)],Bool,fun a:W .i64×Unit=>F_rat_is a.1,fun r:Bool=>(.val (.bool) r (.no),[.undef])⟩
def g72:=gx ⟨[0,1,2,4,7],[],[true],[]⟩ Tryd.f86
def N72:FnK tab:=⟨[.val (.arr 16 (.int .i64)) (.no),.val (.int .i64) (.no)],W .i64,fun a:Arr 16 (W .i64)×W .i64×Unit=>F_rat_Get a.1 a.2.1,fun r:W .i64=>(.val (.int .i64) r (.no),[.undef,.undef])⟩
def t72:Tt:=tbl [(100,N71)]
def g73:=gx ⟨[0,1,2],[],[true],[]⟩ Tryd.f87
def N73:FnK tab:=⟨[.val (.named .TUop) (.no)],Bool,fun a:TUop×Unit=>F_rename_writes a.1,fun r:Bool=>(.val (.bool) r (.no),[.undef])⟩
def g74:=gx ⟨[0,1,2,3,4,5,6,14],[],[true,true,true],[]⟩ Tryd.f88
def N74:FnK tab:=⟨[.val (.named .TFree) (.no)],TFree×W .i64×Bool,fun a:TFree×Unit=>F_freel_Take a.1,fun r:TFree×W .i64×Bool=>(.tup [.val (.named .TFree) r.1 (.no),.val (.int .i64) r.2.1 (.no),.val (.bool) r.2.2 (.no)],[.undef])⟩
def t74:Tt:=tbl [(41,N67),(42,N68)]
def g75:=gx ⟨[0,1,2,3,6,8],[],[true],[]⟩ Tryd.f89
def N75:FnK tab:=⟨[.val (.arr 16 (.int .i64)) (.no),.val (.int .i64) (.no),.val (.int .i64) (.no)],Arr 16 (W .i64),fun a:Arr 16 (W .i64)×W .i64×W .i64×Unit=>F_rat_Set a.1 a.2.1 a.2.2.1,fun r:Arr 16 (W .i64)=>(.val (.arr 16 (.int .i64)) r (.no),[.undef,.undef,.undef])⟩
def t75:Tt:=tbl [(100,N71)]
def g76:=gx ⟨[0,1,2,3,4,5,6,7,8,9,10,11,12,18,19,20,32,41],[],[true,true,true],[(7,[(2,.any),(3,.any),(4,.any),(5,.any),(7,.any),(18,.any),(19,.any)]),(8,[(2,.any),(3,.any),(4,.any),(5,.any),(7,.any)]),(9,[(2,.any),(3,.any),(4,.any),(5,.any),(7,.any),(18,.any),(19,.any)])]⟩ Tryd.f62
def K76_7:MarkK tab:=⟨[(2,.box (.named .TNames) (.no)),(3,.box (.named .TUop) (.no)),(4,.box (.named .TNames) (.no)),(5,.box (.named .TRen) (.no)),(7,.box (.named .TRen) (.no)),(18,.val (.arr 3 (.int .i64)) (.no)),(19,.val (.int .i64) (.no))],[((.exit 0),[(2,.box (.named .TNames) (.no)),(3,.box (.named .TUop) (.no)),(4,.box (.named .TNames) (.no)),(5,.box (.named .TRen) (.no)),(7,.box (.named .TRen) (.no))])],L_rename_One_7⟩
def N76:FnK tab:=⟨[.val (.named .TNames) (.no),.val (.named .TUop) (.no)],TNames×TRen×Bool,fun a:TNames×TUop×Unit=>F_rename_One a.1 a.2.1,fun r:TNames×TRen×Bool=>(.tup [.val (.named .TNames) r.1 (.no),.val (.named .TRen) r.2.1 (.no),.val (.bool) r.2.2 (.no)],[.undef,.undef])⟩
def t76:Tt:=tbl [(86,N72),(87,N73),(88,N74),(89,N75)]
def q76:Qt:=mtbl [(7,K76_7)]
def N77:FnK tab:=cloneK 248 (.named .TRob)
def g78:=gx ⟨[0,1,2,4,6,7,11],[],[true,true],[]⟩ Tryd.f63
def N78:FnK tab:=⟨[.val (.slice 248 (.named .TRob)) (.no),.val (.named .TRen) (.no),.val (.int .i64) (.no)],Sl 248 (TRob)×Bool,fun a:Sl 248 (TRob)×TRen×W .i64×Unit=>F_rob_Put a.1 a.2.1 a.2.2.1,fun r:Sl 248 (TRob)×Bool=>(.tup [.val (.slice 248 (.named .TRob)) r.1 (.no),.val (.bool) r.2 (.no)],[.undef,.undef,.undef])⟩
def t78:Tt:=tbl [(90,N77)]
def g79:=gx ⟨[0,1,2,6,7],[],[true],[]⟩ Tryd.f64
def N79:FnK tab:=⟨[.val (.slice 248 (.named .TRob)) (.no),.val (.slice 248 (.named .TRob)) (.no),.val (.bool) (.no)],Sl 248 (TRob),fun a:Sl 248 (TRob)×Sl 248 (TRob)×Bool×Unit=>F_place_kept_Rob a.1 a.2.1 a.2.2.1,fun r:Sl 248 (TRob)=>(.val (.slice 248 (.named .TRob)) r (.no),[.undef,.undef,.undef])⟩
def g80:=gx ⟨[0,1,2,4,5,6,11],[],[true,true],[]⟩ Tryd.f65
def N80:FnK tab:=⟨[.val (.named .TPhys) (.no),.val (.int .i64) (.no)],W .u32×Bool,fun a:TPhys×W .i64×Unit=>F_prf_Get a.1 a.2.1,fun r:W .u32×Bool=>(.tup [.val (.int .u32) r.1 (.no),.val (.bool) r.2 (.no)],[.undef,.undef])⟩
def t80:Tt:=tbl [(61,N43)]
def N81:FnK tab:=cloneK 224 (.named .TIq)
def g82:=gx ⟨[0,1,2,3,5,6,8,9,13],[],[true,true],[]⟩ Tryd.f66
def N82:FnK tab:=⟨[.val (.slice 224 (.named .TIq)) (.no),.val (.named .TRen) (.no),.val (.arr 3 (.bool)) (.no),.val (.int .i64) (.no)],Sl 224 (TIq)×Bool,fun a:Sl 224 (TIq)×TRen×Arr 3 (Bool)×W .i64×Unit=>F_iq_Put a.1 a.2.1 a.2.2.1 a.2.2.2.1,fun r:Sl 224 (TIq)×Bool=>(.tup [.val (.slice 224 (.named .TIq)) r.1 (.no),.val (.bool) r.2 (.no)],[.undef,.undef,.undef,.undef])⟩
def t82:Tt:=tbl [(91,N81)]
def g83:=gx ⟨[0,1,2,6,7],[],[true],[]⟩ Tryd.f67
def N83:FnK tab:=⟨[.val (.slice 224 (.named .TIq)) (.no),.val (.slice 224 (.named .TIq)) (.no),.val (.bool) (.no)],Sl 224 (TIq),fun a:Sl 224 (TIq)×Sl 224 (TIq)×Bool×Unit=>F_place_kept_Iq a.1 a.2.1 a.2.2.1,fun r:Sl 224 (TIq)=>(.val (.slice 224 (.named .TIq)) r (.no),[.undef,.undef,.undef])⟩
def g84:=gx ⟨[0,1,2,4,5,15],[],[true],[]⟩ Tryd.f68
def N84:FnK tab:=⟨[.val (.named .TPhys) (.no),.val (.int .i64) (.no)],TPhys,fun a:TPhys×W .i64×Unit=>F_prf_Drop a.1 a.2.1,fun r:TPhys=>(.val (.named .TPhys) r (.no),[.undef,.undef])⟩
def t84:Tt:=tbl [(59,N41),(60,N42),(61,N43)]
def N85:FnK tab:=cloneK 48 (.named .TLq)
def g86:=gx ⟨[0,1,2,3,8,9,13],[],[true,true],[]⟩ Tryd.f69
def N86:FnK tab:=⟨[.val (.slice 48 (.named .TLq)) (.no),.val (.int .u64) (.no),.val (.int .u32) (.no),.val (.int .i64) (.no)],Sl 48 (TLq)×Bool,fun a:Sl 48 (TLq)×W .u64×W .u32×W .i64×Unit=>F_lq_Put a.1 a.2.1 a.2.2.1 a.2.2.2.1,fun r:Sl 48 (TLq)×Bool=>(.tup [.val (.slice 48 (.named .TLq)) r.1 (.no),.val (.bool) r.2 (.no)],[.undef,.undef,.undef,.undef])⟩
def t86:Tt:=tbl [(92,N85)]
def g87:=gx ⟨[0,1,2,6,7],[],[true],[]⟩ Tryd.f70
def N87:FnK tab:=⟨[.val (.slice 48 (.named .TLq)) (.no),.val (.slice 48 (.named .TLq)) (.no),.val (.bool) (.no)],Sl 48 (TLq),fun a:Sl 48 (TLq)×Sl 48 (TLq)×Bool×Unit=>F_place_kept_Lq a.1 a.2.1 a.2.2.1,fun r:Sl 48 (TLq)=>(.val (.slice 48 (.named .TLq)) r (.no),[.undef,.undef,.undef])⟩
def N88:FnK tab:=cloneK 32 (.named .TSq)
def g89:=gx ⟨[0,1,2,6,7,11],[],[true,true],[]⟩ Tryd.f71
def N89:FnK tab:=⟨[.val (.slice 32 (.named .TSq)) (.no),.val (.int .u64) (.no),.val (.int .i64) (.no)],Sl 32 (TSq)×Bool,fun a:Sl 32 (TSq)×W .u64×W .i64×Unit=>F_sq_Put a.1 a.2.1 a.2.2.1,fun r:Sl 32 (TSq)×Bool=>(.tup [.val (.slice 32 (.named .TSq)) r.1 (.no),.val (.bool) r.2 (.no)],[.undef,.undef,.undef])⟩
def t89:Tt:=tbl [(93,N88)]
def g90:=gx ⟨[0,1,2,6,7],[],[true],[]⟩ Tryd.f72
def N90:FnK tab:=⟨[.val (.slice 32 (.named .TSq)) (.no),.val (.slice 32 (.named .TSq)) (.no),.val (.bool) (.no)],Sl 32 (TSq),fun a:Sl 32 (TSq)×Sl 32 (TSq)×Bool×Unit=>F_place_kept_Sq a.1 a.2.1 a.2.2.1,fun r:Sl 32 (TSq)=>(.val (.slice 32 (.named .TSq)) r (.no),[.undef,.undef,.undef])⟩
def g91:=gx ⟨[0,1,2,3,4,5,6,7,9,10,11,12,13,14,15,16,17,18,19,20,21,53,55,56,57,93,94,113],[],[true,true],[(19,[(2,.any),(3,.any),(4,.any),(5,.any),(7,.any),(9,.any),(10,.any),(13,.any),(55,.any),(56,.any)]),(20,[(2,.any),(3,.any),(4,.any),(5,.any),(7,.any),(9,.any),(10,.any),(13,.any)]),(21,[(2,.any),(3,.any),(4,.any),(5,.any),(7,.any),(9,.any),(10,.any),(13,.any),(55,.any),(56,.any)])]⟩ Tryd.f36
def K91_19:MarkK tab:=⟨[(2,.box (.named .TCore) (.no)),(3,.box (.named .TUop) (.no)),(4,.box (.named .TCore) (.st [.no,.no,.yes 0,.yes 0,.no,.no,.no,.yes 0,.no,.yes 0,.no,.no,.yes 0,.yes 0,.yes 0,.yes 0,.yes 0,.yes 0,.yes 0,.no,.no])),(5,.box (.named .TNote) (.no)),(7,.box (.named .TRen) (.no)),(9,.box (.named .TConf) (.no)),(10,.val (.int .u32) (.no)),(13,.box (.arr 3 (.bool)) (.no)),(55,.val (.arr 3 (.int .i64)) (.no)),(56,.val (.int .i64) (.no))],[((.exit 0),[(2,.box (.named .TCore) (.no)),(3,.box (.named .TUop) (.no)),(4,.box (.named .TCore) (.st [.no,.no,.yes 0,.yes 0,.no,.no,.no,.yes 0,.no,.yes 0,.no,.no,.yes 0,.yes 0,.yes 0,.yes 0,.yes 0,.yes 0,.yes 0,.no,.no])),(5,.box (.named .TNote) (.no)),(7,.box (.named .TRen) (.no)),(9,.box (.named .TConf) (.no)),(10,.val (.int .u32) (.no)),(13,.box (.arr 3 (.bool)) (.no))])],L_place_put_19⟩
def N91:FnK tab:=⟨[.val (.named .TCore) (.no),.val (.named .TUop) (.no)],TCore×TNote,fun a:TCore×TUop×Unit=>F_place_put a.1 a.2.1,fun r:TCore×TNote=>(.tup [.val (.named .TCore) r.1 (.no),.val (.named .TNote) r.2 (.no)],[.undef,.undef])⟩
def t91:Tt:=tbl [(15,N60),(62,N76),(63,N78),(64,N79),(65,N80),(66,N82),(67,N83),(68,N84),(69,N86),(70,N87),(71,N89),(72,N90)]
def q91:Qt:=mtbl [(19,K91_19)]
def g92:=gx ⟨[0,1,2,3,4,5,6,7,9,10,14,20,21,22,26,35,40,41,42,43],[],[true,true],[(13,[(2,.any),(4,.any),(6,.own),(20,.any),(21,.any)]),(14,[(2,.any),(4,.any),(6,.own)]),(15,[(2,.any),(4,.any),(6,.own),(20,.any),(21,.any)]),(34,[(2,.any),(4,.any),(6,.own),(20,.any),(21,.any),(40,.any),(41,.any),(42,.any)]),(35,[(2,.any),(4,.any),(6,.any),(20,.any),(21,.any)]),(36,[(2,.any),(4,.any),(6,.own),(20,.any),(21,.any),(40,.any),(41,.any),(42,.any)])]⟩ Tryd.f12
def K92_34:MarkK tab:=⟨[(2,.box (.named .TCore) (.no)),(4,.box (.named .TCore) (.st [.no,.no,.yes 0,.yes 0,.no,.no,.no,.yes 0,.no,.yes 0,.no,.no,.yes 0,.yes 0,.yes 0,.yes 0,.yes 0,.yes 0,.yes 0,.no,.no])),(6,.val (.slice 32 (.named .TNote)) (.yes 0)),(20,.val (.int .i64) (.no)),(21,.val (.int .i64) (.no)),(40,.val (.slice 168 (.named .TUop)) (.no)),(41,.val (.int .i64) (.no)),(42,.val (.int .i64) (.no))],[((.exit 2),[(2,.box (.named .TCore) (.no)),(4,.box (.named .TCore) (.st [.no,.no,.yes 0,.yes 0,.no,.no,.no,.yes 0,.no,.yes 0,.no,.no,.yes 0,.yes 0,.yes 0,.yes 0,.yes 0,.yes 0,.yes 0,.no,.no])),(6,.val (.slice 32 (.named .TNote)) (.yes 0)),(20,.val (.int .i64) (.no)),(21,.val (.int .i64) (.no))])],L_place_Stage_34⟩
def K92_13:MarkK tab:=⟨[(2,.box (.named .TCore) (.no)),(4,.box (.named .TCore) (.st [.no,.no,.yes 0,.yes 0,.no,.no,.no,.yes 0,.no,.yes 0,.no,.no,.yes 0,.yes 0,.yes 0,.yes 0,.yes 0,.yes 0,.yes 0,.no,.no])),(6,.val (.slice 32 (.named .TNote)) (.yes 0)),(20,.val (.int .i64) (.no)),(21,.val (.int .i64) (.no))],[((.exit 0),[(2,.box (.named .TCore) (.no)),(4,.box (.named .TCore) (.st [.no,.no,.yes 0,.yes 0,.no,.no,.no,.yes 0,.no,.yes 0,.no,.no,.yes 0,.yes 0,.yes 0,.yes 0,.yes 0,.yes 0,.yes 0,.no,.no])),(6,.val (.slice 32 (.named .TNote)) (.yes 0))])],L_place_Stage_13⟩
def N92:FnK tab:=⟨[.val (.named .TCore) (.no),.val (.named .TTick) (.no)],TCore×Sl 32 (TNote),fun a:TCore×TTick×Unit=>F_place_Stage a.1 a.2.1,fun r:TCore×Sl 32 (TNote)=>(.tup [.val (.named .TCore) r.1 (.no),.val (.slice 32 (.named .TNote)) r.2 (.no)],[.undef,.undef])⟩
def t92:Tt:=tbl [(6,N70),(13,N59),(36,N91)]
def q92:Qt:=mtbl [(34,K92_34),(13,K92_13)]
def g93:=gx ⟨[0,1,3,5,6,7,8,9,10,37],[],[true],[]⟩ Tryd.f5
def N93:FnK tab:=⟨[],Bool,fun a:Unit=>F_law45_awake,fun r:Bool=>(.val (.bool) r (.no),[])⟩
def t93:Tt:=tbl [(6,N70),(8,N11),(9,N15),(10,N45),(11,N16),(12,N92),(13,N59)]
def g94:=gx ⟨[0,1,4,5,6,10,31],[],[true],[(7,[(0,.any),(1,.any),(5,.any),(6,.any)]),(8,[(5,.any)]),(9,[(0,.any),(1,.any),(5,.any),(6,.any)])]⟩ Tryd.f19
def K94_7:MarkK tab:=⟨[(0,.val (.slice 168 (.named .TUop)) (.no)),(1,.val (.int .i64) (.no)),(5,.val (.int .i64) (.no)),(6,.val (.int .i64) (.no))],[((.exit 0),[(5,.val (.int .i64) (.no))])],L_ref45_count_7⟩
def N94:FnK tab:=⟨[.val (.slice 168 (.named .TUop)) (.no),.val (.int .i64) (.no)],W .i64,fun a:Sl 168 (TUop)×W .i64×Unit=>F_ref45_count a.1 a.2.1,fun r:W .i64=>(.val (.int .i64) r (.no),[.undef,.undef])⟩
def q94:Qt:=mtbl [(7,K94_7)]
def g95:=gx ⟨[0,2,3,4,8,24],[],[true],[(7,[(0,.any),(3,.any),(4,.any)]),(8,[(3,.any)]),(9,[(0,.any),(3,.any),(4,.any)])]⟩ Tryd.f20
def K95_7:MarkK tab:=⟨[(0,.val (.slice 168 (.named .TUop)) (.no)),(3,.val (.int .i64) (.no)),(4,.val (.int .i64) (.no))],[((.exit 0),[(3,.val (.int .i64) (.no))])],L_ref45_writers_7⟩
def N95:FnK tab:=⟨[.val (.slice 168 (.named .TUop)) (.no)],W .i64,fun a:Sl 168 (TUop)×Unit=>F_ref45_writers a.1,fun r:W .i64=>(.val (.int .i64) r (.no),[.undef])⟩
def q95:Qt:=mtbl [(7,K95_7)]
def g96:=gx ⟨[0,1,2,3,19],[],[true],[]⟩ Tryd.f43
def N96:FnK tab:=⟨[.val (.named .TFree) (.no)],Bool,fun a:TFree×Unit=>F_ref25_Is a.1,fun r:Bool=>(.val (.bool) r (.no),[.undef])⟩
def g97:=gx ⟨[0,1,2,3,4,8,13],[],[false],[(13,[(1,.any),(3,.any),(4,.any)]),(14,[(3,.any)]),(15,[(1,.any),(3,.any),(4,.any)])]⟩ Tryd.f21
def K97_13:MarkK tab:=⟨[(1,.box (.named .TFree) (.no)),(3,.val (.slice 8 (.int .i64)) (.yes 0)),(4,.val (.int .i64) (.no))],[((.exit 0),[(3,.val (.slice 8 (.int .i64)) (.yes 0))])],L_ref25_List_13⟩
def N97:FnK tab:=⟨[.val (.named .TFree) (.no)],Sl 8 (W .i64),fun a:TFree×Unit=>F_ref25_List a.1,fun r:Sl 8 (W .i64)=>(.val (.slice 8 (.int .i64)) r (.yes 0),[.undef])⟩
def t97:Tt:=tbl [(43,N96)]
def q97:Qt:=mtbl [(13,K97_13)]
def g98:=gx ⟨[0,1,2,4,26,48],[],[true],[]⟩ Tryd.f7
def N98:FnK tab:=⟨[.val (.named .TCore) (.no),.val (.slice 168 (.named .TUop)) (.no)],Bool,fun a:TCore×Sl 168 (TUop)×Unit=>F_ref45_Fits a.1 a.2.1,fun r:Bool=>(.val (.bool) r (.no),[.undef,.undef])⟩
def t98:Tt:=tbl [(19,N94),(20,N95),(21,N97)]
def g99:=gx ⟨[0,1,2,4,12],[],[true],[]⟩ Tryd.f3
def N99:FnK tab:=⟨[.val (.named .TCore) (.no),.val (.slice 168 (.named .TUop)) (.no)],Bool,fun a:TCore×Sl 168 (TUop)×Unit=>F_law45_PlaceFits a.1 a.2.1,fun r:Bool=>(.val (.bool) r (.no),[.undef,.undef])⟩
def t99:Tt:=tbl [(4,N1),(5,N93),(6,N70),(7,N98)]
end
end Go.Proofs.YtkddkpmijhionaaDoor
