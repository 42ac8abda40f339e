/- YtkddkpmijhionaaGreatDoorTabs: the tables of functions and marks. No statement of the seat is proved here. -/
import Derived.Test.YtkddkpmijhionaaGreatDoorTrees
import Derived.Test.YtkddkpmijhionaaGreatDoorChecked
import Derived.Test.YtkddkpmijhionaaGreatDoorA2G
set_option linter.unusedSimpArgs false
set_option linter.unusedVariables false
set_option maxRecDepth 100000
namespace Go.Proofs.YtkddkpmijhionaaGreatDoor
open Go Go.A2
noncomputable section
abbrev Tt:=Nat→List (FnK tab)
abbrev Qt:=Nat→Option (MarkK tab)
def t0:Tt:=tbl []
def q0:Qt:=fun _=>none
def gx (x:FnX) (f:Func):AFn tab:=gOf Tryz.prog cx x f
abbrev OkN:=FnOk (X:=tab) Tryz.prog
abbrev Mo (t:Tt) (q:Qt) (g:AFn tab):=MarkOk (fnsC t) (markL q) g.keep fuel
def g1:=gx ⟨[0,1,2,3],[],[true],[]⟩ Tryz.f6
def N1:FnK tab:=⟨[.val (.named .TCore) (.no)],Bool,fun a:TCore×Unit=>F_law45_Light a.1,fun r:Bool=>(.val (.bool) r (.no),[.undef])⟩
def g2:=gx ⟨[0,2,3,10,17,20,27,34,37,40,43,46,49],[],[true],[]⟩ Tryz.f123
def N2:FnK tab:=⟨[.val (.int .i64) (.no)],W .i64,fun a:W .i64×Unit=>F_inst_Form a.1,fun r:W .i64=>(.val (.int .i64) r (.no),[.undef])⟩
def g3:=gx ⟨[0,1,4],[],[true],[]⟩ Tryz.f58
def N3:FnK tab:=⟨[.val (.int .i64) (.no),.val (.int .i64) (.no)],Bool,fun a:W .i64×W .i64×Unit=>F_inst_has a.1 a.2.1,fun r:Bool=>(.val (.bool) r (.no),[.undef,.undef])⟩
def t3:Tt:=tbl [(123,N2)]
def g4:=gx ⟨[0,1,4,5,6,16,24],[],[true],[]⟩ Tryz.f124
def N4:FnK tab:=⟨[.val (.int .i64) (.no),.val (.int .i64) (.no)],Bool,fun a:W .i64×W .i64×Unit=>F_inst_within a.1 a.2.1,fun r:Bool=>(.val (.bool) r (.no),[.undef,.undef])⟩
def g5:=gx ⟨[0,1,2,4,8,18,19,20,44,46,56],[],[true],[(11,[(1,.any),(18,.any),(19,.any)]),(12,[(1,.any),(2,.any)]),(13,[(1,.any),(18,.any),(19,.any)])]⟩ Tryz.f56
def K5_11:MarkK tab:=⟨[(1,.box (.named .TInst) (.no)),(18,.val (.arr 3 (.named .TS214)) (.no)),(19,.val (.int .i64) (.no))],[(.ret,[(1,.box (.named .TInst) (.no)),(2,.val (.int .i64) (.no))]),((.exit 0),[(1,.box (.named .TInst) (.no)),(2,.undef)])],L_inst_Right_11⟩
def N5:FnK tab:=⟨[.val (.named .TInst) (.no)],W .i64,fun a:TInst×Unit=>F_inst_Right a.1,fun r:W .i64=>(.val (.int .i64) r (.no),[.undef])⟩
def t5:Tt:=tbl [(58,N3),(123,N2),(124,N4)]
def q5:Qt:=mtbl [(11,K5_11)]
def g6:=gx ⟨[0,1,2,6],[],[true],[]⟩ Tryz.f168
def N6:FnK tab:=⟨[.val (.int .i64) (.no),.val (.int .i64) (.no),.val (.int .i64) (.no)],W .i64,fun a:W .i64×W .i64×W .i64×Unit=>F_bits_clamp a.1 a.2.1 a.2.2.1,fun r:W .i64=>(.val (.int .i64) r (.no),[.undef,.undef,.undef])⟩
def g7:=gx ⟨[0,2],[],[true],[]⟩ Tryz.f169
def N7:FnK tab:=⟨[.val (.int .i64) (.no)],W .u32,fun a:W .i64×Unit=>F_bits_ones a.1,fun r:W .u32=>(.val (.int .u32) r (.no),[.undef])⟩
def g8:=gx ⟨[0,1,4,5,12],[],[true,true],[]⟩ Tryz.f125
def N8:FnK tab:=⟨[.val (.int .i64) (.no),.val (.int .i64) (.no)],W .u32×W .i64,fun a:W .i64×W .i64×Unit=>F_bits_mask a.1 a.2.1,fun r:W .u32×W .i64=>(.tup [.val (.int .u32) r.1 (.no),.val (.int .i64) r.2 (.no)],[.undef,.undef])⟩
def t8:Tt:=tbl [(168,N6),(169,N7)]
def g9:=gx ⟨[0,1,2,3,8,9,10],[],[true],[]⟩ Tryz.f57
def N9:FnK tab:=⟨[.val (.int .u32) (.no),.val (.int .i64) (.no),.val (.int .i64) (.no),.val (.int .u32) (.no)],W .u32,fun a:W .u32×W .i64×W .i64×W .u32×Unit=>F_bits_Put a.1 a.2.1 a.2.2.1 a.2.2.2.1,fun r:W .u32=>(.val (.int .u32) r (.no),[.undef,.undef,.undef,.undef])⟩
def t9:Tt:=tbl [(125,N8)]
def g10:=gx ⟨[0,2,5],[],[true],[]⟩ Tryz.f59
def N10:FnK tab:=⟨[.val (.int .i64) (.no)],W .i64,fun a:W .i64×Unit=>F_inst_width a.1,fun r:W .i64=>(.val (.int .i64) r (.no),[.undef])⟩
def t10:Tt:=tbl [(123,N2)]
def g11:=gx ⟨[0,1,2,3,4,5,9,32],[],[true,true],[]⟩ Tryz.f19
def N11:FnK tab:=⟨[.val (.named .TInst) (.no)],W .u32×W .i64,fun a:TInst×Unit=>F_inst_Enc a.1,fun r:W .u32×W .i64=>(.tup [.val (.int .u32) r.1 (.no),.val (.int .i64) r.2 (.no)],[.undef])⟩
def t11:Tt:=tbl [(56,N5),(57,N9),(58,N3),(59,N10)]
def g12:=gx ⟨[0,1,2],[],[true],[]⟩ Tryz.f127
def N12:FnK tab:=⟨[.val (.named .TSeg) (.no)],W .i64,fun a:TSeg×Unit=>F_rom_end a.1,fun r:W .i64=>(.val (.int .i64) r (.no),[.undef])⟩
def g13:=gx ⟨[0,1,2,3,5,9,11,12,13,14,17,22,26],[],[true],[(13,[(3,.any),(11,.any),(12,.any),(13,.any)]),(14,[(2,.any)]),(15,[(3,.any),(11,.any),(12,.any),(13,.any)])]⟩ Tryz.f126
def K13_13:MarkK tab:=⟨[(3,.val (.int .i64) (.no)),(11,.val (.slice 32 (.named .TSeg)) (.no)),(12,.val (.int .i64) (.no)),(13,.val (.int .i64) (.no))],[(.ret,[(2,.val (.int .i64) (.no))]),((.exit 0),[(2,.undef)])],L_rom_Right_13⟩
def N13:FnK tab:=⟨[.val (.named .TImage) (.no)],W .i64,fun a:TImage×Unit=>F_rom_Right a.1,fun r:W .i64=>(.val (.int .i64) r (.no),[.undef])⟩
def t13:Tt:=tbl [(127,N12)]
def q13:Qt:=mtbl [(13,K13_13)]
def g14:=gx ⟨[0,1,3,4,5,6,7,9,20,24,29,30,31,32,38],[],[true,true],[(21,[(0,.any),(7,.any),(29,.any),(30,.any),(31,.any)]),(22,[(4,.any),(5,.any),(7,.any)]),(23,[(0,.any),(7,.any),(29,.any),(30,.any),(31,.any)])]⟩ Tryz.f60
def K14_21:MarkK tab:=⟨[(0,.val (.int .i64) (.no)),(7,.val (.slice 1 (.int .u8)) (.yes 0)),(29,.val (.slice 32 (.named .TSeg)) (.no)),(30,.val (.int .i64) (.no)),(31,.val (.int .i64) (.no))],[(.ret,[(4,.val (.slice 1 (.int .u8)) (.full)),(5,.val (.int .i64) (.no)),(7,.val (.slice 1 (.int .u8)) (.yes 0))]),((.exit 0),[(4,.undef),(5,.undef),(7,.val (.slice 1 (.int .u8)) (.yes 0))])],L_rom_Load_21⟩
def N14:FnK tab:=⟨[.val (.int .i64) (.no),.val (.named .TImage) (.no)],Sl 1 (W .u8)×W .i64,fun a:W .i64×TImage×Unit=>F_rom_Load a.1 a.2.1,fun r:Sl 1 (W .u8)×W .i64=>(.tup [.val (.slice 1 (.int .u8)) r.1 (.no),.val (.int .i64) r.2 (.no)],[.undef,.undef])⟩
def t14:Tt:=tbl [(126,N13),(127,N12)]
def q14:Qt:=mtbl [(21,K14_21)]
def g15:=gx ⟨[0,1,2,4,5,6,7,8,16],[],[true,true],[]⟩ Tryz.f20
def N15:FnK tab:=⟨[.val (.named .TImage) (.no),.val (.int .i64) (.no)],TMach×W .i64,fun a:TImage×W .i64×Unit=>F_step_New a.1 a.2.1,fun r:TMach×W .i64=>(.tup [.val (.named .TMach) r.1 (.no),.val (.int .i64) r.2 (.no)],[.undef,.undef])⟩
def t15:Tt:=tbl [(60,N14)]
def g16:=gx ⟨[0],[],[true],[]⟩ Tryz.f22
def N16:FnK tab:=⟨[],TConf,fun a:Unit=>F_core_Plain,fun r:TConf=>(.val (.named .TConf) r (.no),[])⟩
def g17:=gx ⟨[0,1,2],[],[true],[]⟩ Tryz.f129
def N17:FnK tab:=⟨[.val (.named .TConf) (.no)],Sl 24 (TBound),fun a:TConf×Unit=>F_core_bounds a.1,fun r:Sl 24 (TBound)=>(.val (.slice 24 (.named .TBound)) r (.no),[.undef])⟩
def g18:=gx ⟨[0,1,2],[],[true],[]⟩ Tryz.f130
def N18:FnK tab:=⟨[.val (.named .TBound) (.no)],Bool,fun a:TBound×Unit=>F_core_Conf_1 a.1,fun r:Bool=>(.val (.bool) r (.no),[.undef])⟩
def g19:=gx ⟨[0,1,4,5,7,8,9,16],[],[true],[(5,[(0,.any),(1,.any),(7,.any),(8,.any)]),(6,[(4,.any)]),(7,[(0,.any),(1,.any),(7,.any),(8,.any)])]⟩ Tryz.f170
def K19_5:MarkK tab:=⟨[(0,.val (.slice 24 (.named .TBound)) (.no)),(1,.fn 130 [] []),(7,.val (.int .i64) (.no)),(8,.val (.int .i64) (.no))],[(.ret,[(4,.val (.int .i64) (.no))]),((.exit 0),[(4,.undef)])],L_slices_IndexFunc_bound_of_core_Conf_1_5⟩
def N19:FnK tab:=⟨[.val (.slice 24 (.named .TBound)) (.no),.fn 130 [] []],W .i64,fun a:Sl 24 (TBound)×((Unit)×(Unit))×Unit=>F_slices_IndexFunc_bound_of_core_Conf_1 a.1,fun r:W .i64=>(.val (.int .i64) r (.no),[.undef,.undef])⟩
def t19:Tt:=tbl [(130,N18)]
def q19:Qt:=mtbl [(5,K19_5)]
def g20:=gx ⟨[0,1,4],[],[true],[]⟩ Tryz.f128
def N20:FnK tab:=⟨[.val (.slice 24 (.named .TBound)) (.no),.fn 130 [] []],Bool,fun a:Sl 24 (TBound)×((Unit)×(Unit))×Unit=>F_slices_ContainsFunc_bound_of_core_Conf_1 a.1,fun r:Bool=>(.val (.bool) r (.no),[.undef,.undef])⟩
def t20:Tt:=tbl [(170,N19)]
def g21:=gx ⟨[0,1,2,5],[],[true],[]⟩ Tryz.f61
def N21:FnK tab:=⟨[.val (.named .TConf) (.no)],W .i64,fun a:TConf×Unit=>F_core_Conf a.1,fun r:W .i64=>(.val (.int .i64) r (.no),[.undef])⟩
def t21:Tt:=tbl [(128,N20),(129,N17)]
def g22:=gx ⟨[0,2,3,10],[],[true],[]⟩ Tryz.f111
def N22:FnK tab:=⟨[.val (.int .i64) (.no)],W .u32,fun a:W .i64×Unit=>F_csr_Masked a.1,fun r:W .u32=>(.val (.int .u32) r (.no),[.undef])⟩
def g23:=gx ⟨[0,1,2,3,4,6,7,8,15],[],[true],[(5,[(1,.any),(6,.any),(7,.any)]),(6,[(1,.any),(2,.any)]),(7,[(1,.any),(6,.any),(7,.any)])]⟩ Tryz.f45
def K23_5:MarkK tab:=⟨[(1,.box (.named .TArch) (.no)),(6,.val (.arr 12 (.int .u32)) (.no)),(7,.val (.int .i64) (.no))],[(.ret,[(1,.box (.named .TArch) (.no)),(2,.val (.bool) (.no))]),((.exit 0),[(1,.box (.named .TArch) (.no)),(2,.undef)])],L_core_clean_5⟩
def N23:FnK tab:=⟨[.val (.named .TArch) (.no)],Bool,fun a:TArch×Unit=>F_core_clean a.1,fun r:Bool=>(.val (.bool) r (.no),[.undef])⟩
def t23:Tt:=tbl [(111,N22)]
def q23:Qt:=mtbl [(5,K23_5)]
def g24:=gx ⟨[0,1,2,3,24],[],[true],[]⟩ Tryz.f62
def N24:FnK tab:=⟨[.val (.named .TMach) (.no)],Bool,fun a:TMach×Unit=>F_core_right a.1,fun r:Bool=>(.val (.bool) r (.no),[.undef])⟩
def t24:Tt:=tbl [(45,N23)]
def g25:=gx ⟨[0,1,2],[],[true],[]⟩ Tryz.f63
def N25:FnK tab:=⟨[.val (.named .TMach) (.no)],TMach,fun a:TMach×Unit=>F_step_Copy a.1,fun r:TMach=>(.val (.named .TMach) r (.no),[.undef])⟩
def g26:=gx ⟨[0,2],[],[true],[]⟩ Tryz.f172
def N26:FnK tab:=⟨[.val (.int .i64) (.no)],W .i64,fun a:W .i64×Unit=>F_pht_clamp a.1,fun r:W .i64=>(.val (.int .i64) r (.no),[.undef])⟩
def g27:=gx ⟨[0,1,4,5,6,7,8,9,10,11,12,13],[],[true,true],[]⟩ Tryz.f180
def N27:FnK tab:=⟨[.val (.int .u64) (.no),.val (.int .u64) (.no)],W .u64×W .u64,fun a:W .u64×W .u64×Unit=>F_bits_Mul64 a.1 a.2.1,fun r:W .u64×W .u64=>(.tup [.val (.int .u64) r.1 (.no),.val (.int .u64) r.2 (.no)],[.undef,.undef])⟩
def g28:=gx ⟨[0,1,4,5,6,7,8,9],[],[true,true],[]⟩ Tryz.f173
def N28:FnK tab:=⟨[.val (.int .u64) (.no),.val (.int .u64) (.no)],W .u64×W .u64,fun a:W .u64×W .u64×Unit=>F_bits_Mul a.1 a.2.1,fun r:W .u64×W .u64=>(.tup [.val (.int .u64) r.1 (.no),.val (.int .u64) r.2 (.no)],[.undef,.undef])⟩
def t28:Tt:=tbl [(180,N27)]
def g29:=gx ⟨[0,1,4,5,6,7,8,10,26,37],[],[true],[(17,[(7,.any),(8,.any)]),(18,[(7,.any)]),(19,[(7,.any),(8,.any)])]⟩ Tryz.f171
def K29_17:MarkK tab:=⟨[(7,.val (.slice 1 (.int .u8)) (.yes 0)),(8,.val (.int .i64) (.no))],[((.exit 0),[(7,.val (.slice 1 (.int .u8)) (.yes 0))])],L_slices_Repeat_uint8_17⟩
def N29:FnK tab:=⟨[.val (.slice 1 (.int .u8)) (.no),.val (.int .i64) (.no)],Sl 1 (W .u8),fun a:Sl 1 (W .u8)×W .i64×Unit=>F_slices_Repeat_uint8 a.1 a.2.1,fun r:Sl 1 (W .u8)=>(.val (.slice 1 (.int .u8)) r (.no),[.undef,.undef])⟩
def t29:Tt:=tbl [(173,N28)]
def q29:Qt:=mtbl [(17,K29_17)]
def g30:=gx ⟨[0,2],[],[true],[]⟩ Tryz.f131
def N30:FnK tab:=⟨[.val (.int .i64) (.no)],Sl 1 (W .u8),fun a:W .i64×Unit=>F_pht_New a.1,fun r:Sl 1 (W .u8)=>(.val (.slice 1 (.int .u8)) r (.no),[.undef])⟩
def t30:Tt:=tbl [(171,N29),(172,N26)]
def g31:=gx ⟨[0,2],[],[true],[]⟩ Tryz.f132
def N31:FnK tab:=⟨[.val (.int .i64) (.no)],Sl 16 (TBtb),fun a:W .i64×Unit=>F_btb_New a.1,fun r:Sl 16 (TBtb)=>(.val (.slice 16 (.named .TBtb)) r (.no),[.undef])⟩
def g32:=gx ⟨[0,2],[],[true],[]⟩ Tryz.f133
def N32:FnK tab:=⟨[.val (.int .i64) (.no)],Sl 4 (W .u32),fun a:W .i64×Unit=>F_ras_New a.1,fun r:Sl 4 (W .u32)=>(.val (.slice 4 (.int .u32)) r (.no),[.undef])⟩
def g33:=gx ⟨[0,1,2],[],[true],[]⟩ Tryz.f64
def N33:FnK tab:=⟨[.val (.named .TConf) (.no)],TPred,fun a:TConf×Unit=>F_pred_New a.1,fun r:TPred=>(.val (.named .TPred) r (.no),[.undef])⟩
def t33:Tt:=tbl [(131,N30),(132,N31),(133,N32)]
def g34:=gx ⟨[0,2],[],[true],[]⟩ Tryz.f65
def N34:FnK tab:=⟨[.val (.int .i64) (.no)],Sl 24 (TTlb),fun a:W .i64×Unit=>F_tlb_New a.1,fun r:Sl 24 (TTlb)=>(.val (.slice 24 (.named .TTlb)) r (.no),[.undef])⟩
def g35:=gx ⟨[0,2],[],[true],[]⟩ Tryz.f66
def N35:FnK tab:=⟨[.val (.int .i64) (.no)],Sl 1 (W .u8),fun a:W .i64×Unit=>F_dep_New a.1,fun r:Sl 1 (W .u8)=>(.val (.slice 1 (.int .u8)) r (.no),[.undef])⟩
def g36:=gx ⟨[0,1,2,5],[],[true],[(7,[(0,.any),(1,.any),(2,.any)]),(8,[(0,.any),(1,.any)]),(9,[(0,.any),(1,.any),(2,.any)])]⟩ Tryz.f134
def K36_7:MarkK tab:=⟨[(0,.box (.arr 16 (.int .i64)) (.no)),(1,.box (.arr 16 (.int .i64)) (.no)),(2,.val (.int .i64) (.no))],[((.exit 0),[(0,.box (.arr 16 (.int .i64)) (.no)),(1,.box (.arr 16 (.int .i64)) (.no))])],L_rat_New_7⟩
def N36:FnK tab:=⟨[],Arr 16 (W .i64),fun a:Unit=>F_rat_New,fun r:Arr 16 (W .i64)=>(.val (.arr 16 (.int .i64)) r (.no),[])⟩
def q36:Qt:=mtbl [(7,K36_7)]
def g37:=gx ⟨[0,1,4,5,6,21,22,23],[],[true],[(11,[(1,.any),(4,.any),(5,.any),(21,.any),(22,.any)]),(12,[(4,.any),(5,.any)]),(13,[(1,.any),(4,.any),(5,.any),(21,.any),(22,.any)])]⟩ Tryz.f135
def K37_11:MarkK tab:=⟨[(1,.val (.int .i64) (.no)),(4,.box (.named .TFree) (.st [.yes 0,.no,.no])),(5,.box (.named .TFree) (.st [.yes 0,.no,.no])),(21,.val (.int .i64) (.no)),(22,.val (.int .i64) (.no))],[((.exit 0),[(4,.box (.named .TFree) (.st [.yes 0,.no,.no])),(5,.box (.named .TFree) (.st [.yes 0,.no,.no]))])],L_freel_New_11⟩
def N37:FnK tab:=⟨[.val (.int .i64) (.no),.val (.int .i64) (.no)],TFree,fun a:W .i64×W .i64×Unit=>F_freel_New a.1 a.2.1,fun r:TFree=>(.val (.named .TFree) r (.no),[.undef,.undef])⟩
def q37:Qt:=mtbl [(11,K37_11)]
def g38:=gx ⟨[0,2],[],[true],[]⟩ Tryz.f67
def N38:FnK tab:=⟨[.val (.int .i64) (.no)],TNames,fun a:W .i64×Unit=>F_rename_New a.1,fun r:TNames=>(.val (.named .TNames) r (.no),[.undef])⟩
def t38:Tt:=tbl [(134,N36),(135,N37)]
def g39:=gx ⟨[0,1,4,5,6,7,8,10,26,37],[],[true],[(17,[(7,.any),(8,.any)]),(18,[(7,.any)]),(19,[(7,.any),(8,.any)])]⟩ Tryz.f136
def K39_17:MarkK tab:=⟨[(7,.val (.slice 1 (.bool)) (.yes 0)),(8,.val (.int .i64) (.no))],[((.exit 0),[(7,.val (.slice 1 (.bool)) (.yes 0))])],L_slices_Repeat_bool_17⟩
def N39:FnK tab:=⟨[.val (.slice 1 (.bool)) (.no),.val (.int .i64) (.no)],Sl 1 (Bool),fun a:Sl 1 (Bool)×W .i64×Unit=>F_slices_Repeat_bool a.1 a.2.1,fun r:Sl 1 (Bool)=>(.val (.slice 1 (.bool)) r (.no),[.undef,.undef])⟩
def t39:Tt:=tbl [(173,N28)]
def q39:Qt:=mtbl [(17,K39_17)]
def g40:=gx ⟨[0,2],[],[true],[]⟩ Tryz.f68
def N40:FnK tab:=⟨[.val (.int .i64) (.no)],TPhys,fun a:W .i64×Unit=>F_prf_New a.1,fun r:TPhys=>(.val (.named .TPhys) r (.no),[.undef])⟩
def t40:Tt:=tbl [(136,N39)]
def N41:FnK tab:=cloneK 4 (.int .u32)
def N42:FnK tab:=cloneK 1 (.bool)
def g43:=gx ⟨[0,1,2,4],[],[true],[]⟩ Tryz.f139
def N43:FnK tab:=⟨[.val (.named .TPhys) (.no),.val (.int .i64) (.no)],Bool,fun a:TPhys×W .i64×Unit=>F_prf_has a.1 a.2.1,fun r:Bool=>(.val (.bool) r (.no),[.undef,.undef])⟩
def g44:=gx ⟨[0,1,2,3,6,7,17],[],[true],[]⟩ Tryz.f69
def N44:FnK tab:=⟨[.val (.named .TPhys) (.no),.val (.int .i64) (.no),.val (.int .u32) (.no)],TPhys,fun a:TPhys×W .i64×W .u32×Unit=>F_prf_Put a.1 a.2.1 a.2.2.1,fun r:TPhys=>(.val (.named .TPhys) r (.no),[.undef,.undef,.undef])⟩
def t44:Tt:=tbl [(137,N41),(138,N42),(139,N43)]
def g45:=gx ⟨[0,1,2,3,4,5,6,7,8,12,17,52],[],[true,true],[(27,[(3,.any),(4,.any),(7,.any),(8,.any)]),(28,[(4,.any),(7,.any)]),(29,[(3,.any),(4,.any),(7,.any),(8,.any)])]⟩ Tryz.f21
def K45_27:MarkK tab:=⟨[(3,.box (.named .TMach) (.no)),(4,.box (.named .TCore) (.st [.no,.no,.yes 0,.yes 0,.no,.no,.no,.yes 0,.no,.yes 0,.no,.no,.yes 0,.yes 0,.yes 0,.yes 0,.yes 0,.yes 0,.yes 0,.no,.no])),(7,.box (.named .TCore) (.st [.no,.no,.no,.no,.no,.no,.no,.no,.no,.yes 0,.no,.no,.yes 0,.yes 0,.yes 0,.yes 0,.yes 0,.yes 0,.no,.no,.no])),(8,.val (.int .i64) (.no))],[((.exit 0),[(4,.box (.named .TCore) (.st [.no,.no,.yes 0,.yes 0,.no,.no,.no,.yes 0,.no,.yes 0,.no,.no,.yes 0,.yes 0,.yes 0,.yes 0,.yes 0,.yes 0,.yes 0,.no,.no])),(7,.box (.named .TCore) (.st [.no,.no,.no,.no,.no,.no,.no,.no,.no,.yes 0,.no,.no,.yes 0,.yes 0,.yes 0,.yes 0,.yes 0,.yes 0,.no,.no,.no]))])],L_core_New_27⟩
def N45:FnK tab:=⟨[.val (.named .TConf) (.no),.val (.named .TMach) (.no)],TCore×W .i64,fun a:TConf×TMach×Unit=>F_core_New a.1 a.2.1,fun r:TCore×W .i64=>(.tup [.val (.named .TCore) r.1 (.no),.val (.int .i64) r.2 (.no)],[.undef,.undef])⟩
def t45:Tt:=tbl [(61,N21),(62,N24),(63,N25),(64,N33),(65,N34),(66,N35),(67,N38),(68,N40),(69,N44)]
def q45:Qt:=mtbl [(27,K45_27)]
def g46:=gx ⟨[0],[],[true],[]⟩ Tryz.f114
def N46:FnK tab:=⟨[],Arr 3 (W .i64),fun a:Unit=>F_crack_none,fun r:Arr 3 (W .i64)=>(.val (.arr 3 (.int .i64)) r (.no),[])⟩
def g47:=gx ⟨[0,1,2,3,6],[],[true],[]⟩ Tryz.f47
def N47:FnK tab:=⟨[.val (.named .TSlot) (.no),.val (.int .i64) (.no),.val (.int .u32) (.no)],Sl 168 (TUop),fun a:TSlot×W .i64×W .u32×Unit=>F_crack_trap a.1 a.2.1 a.2.2.1,fun r:Sl 168 (TUop)=>(.val (.slice 168 (.named .TUop)) r (.no),[.undef,.undef,.undef])⟩
def t47:Tt:=tbl [(114,N46)]
def g48:=gx ⟨[0,1,2,6,7,8],[],[true],[]⟩ Tryz.f115
def N48:FnK tab:=⟨[.val (.int .u32) (.no),.val (.int .i64) (.no),.val (.int .i64) (.no)],W .u32,fun a:W .u32×W .i64×W .i64×Unit=>F_bits_Field a.1 a.2.1 a.2.2.1,fun r:W .u32=>(.val (.int .u32) r (.no),[.undef,.undef,.undef])⟩
def t48:Tt:=tbl [(125,N8)]
def g49:=gx ⟨[0,1,4],[],[true],[]⟩ Tryz.f164
def N49:FnK tab:=⟨[.val (.int .u32) (.no),.val (.int .i64) (.no)],W .u32,fun a:W .u32×W .i64×Unit=>F_bits_Zext a.1 a.2.1,fun r:W .u32=>(.val (.int .u32) r (.no),[.undef,.undef])⟩
def t49:Tt:=tbl [(168,N6),(169,N7)]
def g50:=gx ⟨[0,1,4,5],[],[true],[]⟩ Tryz.f165
def N50:FnK tab:=⟨[.val (.int .u32) (.no),.val (.int .i64) (.no)],W .u32,fun a:W .u32×W .i64×Unit=>F_bits_Sext a.1 a.2.1,fun r:W .u32=>(.val (.int .u32) r (.no),[.undef,.undef])⟩
def t50:Tt:=tbl [(168,N6)]
def g51:=gx ⟨[0,1,4,6],[],[true],[]⟩ Tryz.f116
def N51:FnK tab:=⟨[.val (.int .i64) (.no),.val (.int .u32) (.no)],W .i64,fun a:W .i64×W .u32×Unit=>F_inst_number a.1 a.2.1,fun r:W .i64=>(.val (.int .i64) r (.no),[.undef,.undef])⟩
def t51:Tt:=tbl [(59,N10),(164,N49),(165,N50)]
def g52:=gx ⟨[0,2,3,4,5,6,13,17,24,31,38,55],[],[true,true],[]⟩ Tryz.f48
def N52:FnK tab:=⟨[.val (.int .u32) (.no)],TInst×W .i64,fun a:W .u32×Unit=>F_inst_Dec a.1,fun r:TInst×W .i64=>(.tup [.val (.named .TInst) r.1 (.no),.val (.int .i64) r.2 (.no)],[.undef])⟩
def t52:Tt:=tbl [(19,N11),(58,N3),(115,N48),(116,N51)]
def g53:=gx ⟨[0,2],[],[true],[]⟩ Tryz.f166
def N53:FnK tab:=⟨[.val (.int .i64) (.no)],Bool,fun a:W .i64×Unit=>F_crack_Serial a.1,fun r:Bool=>(.val (.bool) r (.no),[.undef])⟩
def g54:=gx ⟨[0,2,3,10,17,24,31,38,45],[],[true],[]⟩ Tryz.f117
def N54:FnK tab:=⟨[.val (.int .i64) (.no)],W .i64,fun a:W .i64×Unit=>F_crack_Unit a.1,fun r:W .i64=>(.val (.int .i64) r (.no),[.undef])⟩
def t54:Tt:=tbl [(166,N53)]
def g55:=gx ⟨[0,2,4],[],[true],[]⟩ Tryz.f167
def N55:FnK tab:=⟨[.val (.int .i64) (.no)],W .i64,fun a:W .i64×Unit=>F_crack_reg a.1,fun r:W .i64=>(.val (.int .i64) r (.no),[.undef])⟩
def g56:=gx ⟨[0,1,2,3,7,11,12,24,33],[],[true],[]⟩ Tryz.f118
def N56:FnK tab:=⟨[.val (.named .TInst) (.no)],Arr 3 (W .i64),fun a:TInst×Unit=>F_crack_sources a.1,fun r:Arr 3 (W .i64)=>(.val (.arr 3 (.int .i64)) r (.no),[.undef])⟩
def t56:Tt:=tbl [(114,N46),(123,N2),(166,N53),(167,N55)]
def g57:=gx ⟨[0,1,2,5,6],[],[true],[]⟩ Tryz.f119
def N57:FnK tab:=⟨[.val (.named .TInst) (.no)],W .i64,fun a:TInst×Unit=>F_crack_target a.1,fun r:W .i64=>(.val (.int .i64) r (.no),[.undef])⟩
def t57:Tt:=tbl [(123,N2),(167,N55)]
def g58:=gx ⟨[0,1,2,3,4,5,8],[],[true],[]⟩ Tryz.f49
def N58:FnK tab:=⟨[.val (.named .TSlot) (.no),.val (.named .TInst) (.no),.val (.int .i64) (.no),.val (.bool) (.no)],TUop,fun a:TSlot×TInst×W .i64×Bool×Unit=>F_crack_part a.1 a.2.1 a.2.2.1 a.2.2.2.1,fun r:TUop=>(.val (.named .TUop) r (.no),[.undef,.undef,.undef,.undef])⟩
def t58:Tt:=tbl [(117,N54),(118,N56),(119,N57)]
def g59:=gx ⟨[0,1,2,3,4,5,8,22,29,48],[],[true],[]⟩ Tryz.f13
def N59:FnK tab:=⟨[.val (.named .TSlot) (.no)],Sl 168 (TUop),fun a:TSlot×Unit=>F_crack_Uops a.1,fun r:Sl 168 (TUop)=>(.val (.slice 168 (.named .TUop)) r (.no),[.undef])⟩
def t59:Tt:=tbl [(47,N47),(48,N52),(49,N58)]
def g60:=gx ⟨[0,1,2],[],[true],[]⟩ Tryz.f51
def N60:FnK tab:=⟨[.val (.named .TUop) (.no)],Bool,fun a:TUop×Unit=>F_place_waits a.1,fun r:Bool=>(.val (.bool) r (.no),[.undef])⟩
def g61:=gx ⟨[0,1,4,5,7,8,9,10,11,16],[],[true],[(7,[(1,.any),(5,.any),(8,.any),(9,.any),(10,.any)]),(8,[(5,.any)]),(9,[(1,.any),(5,.any),(8,.any),(9,.any),(10,.any)])]⟩ Tryz.f50
def K61_7:MarkK tab:=⟨[(1,.fn 51 [] []),(5,.val (.int .i64) (.no)),(8,.val (.slice 168 (.named .TUop)) (.no)),(9,.val (.int .i64) (.no)),(10,.val (.int .i64) (.no))],[((.exit 0),[(5,.val (.int .i64) (.no))])],L_place_many_7⟩
def N61:FnK tab:=⟨[.val (.slice 168 (.named .TUop)) (.no),.fn 51 [] []],W .i64,fun a:Sl 168 (TUop)×((Unit)×(Unit))×Unit=>F_place_many a.1,fun r:W .i64=>(.val (.int .i64) r (.no),[.undef,.undef])⟩
def t61:Tt:=tbl [(51,N60)]
def q61:Qt:=mtbl [(7,K61_7)]
def g62:=gx ⟨[0,1,2],[],[true],[]⟩ Tryz.f52
def N62:FnK tab:=⟨[.val (.int .i64) (.no)],W .i64,fun a:W .i64×Unit=>F_place_of a.1,fun r:W .i64=>(.fn 120 [] [.rptr (.int .i64) r],[.undef])⟩
def g63:=gx ⟨[0,1,2,3],[],[true],[]⟩ Tryz.f120
def N63:FnK tab:=⟨[.val (.named .TUop) (.no),.rptr (.int .i64)],Bool,fun a:TUop×W .i64×Unit=>F_place_of_1 a.1 a.2.1,fun r:Bool=>(.val (.bool) r (.no),[.undef,.undef])⟩
def g64:=gx ⟨[0,1,4,5,7,8,9,10,11,16],[],[true],[(7,[(1,.any),(5,.any),(8,.any),(9,.any),(10,.any)]),(8,[(5,.any)]),(9,[(1,.any),(5,.any),(8,.any),(9,.any),(10,.any)])]⟩ Tryz.f50
def K64_7:MarkK tab:=⟨[(1,.fn 120 [] [.rptr (.int .i64)]),(5,.val (.int .i64) (.no)),(8,.val (.slice 168 (.named .TUop)) (.no)),(9,.val (.int .i64) (.no)),(10,.val (.int .i64) (.no))],[((.exit 0),[(5,.val (.int .i64) (.no))])],L_place_many_v1_7⟩
def N64:FnK tab:=⟨[.val (.slice 168 (.named .TUop)) (.no),.fn 120 [] [.rptr (.int .i64)]],W .i64,fun a:Sl 168 (TUop)×((Unit)×(W .i64×Unit))×Unit=>F_place_many_v1 a.1 a.2.1.2.1,fun r:W .i64=>(.val (.int .i64) r (.no),[.undef,.undef])⟩
def t64:Tt:=tbl [(120,N63)]
def q64:Qt:=mtbl [(7,K64_7)]
def g65:=gx ⟨[0,1,2],[],[true],[]⟩ Tryz.f53
def N65:FnK tab:=⟨[.val (.named .TUop) (.no)],Bool,fun a:TUop×Unit=>F_place_writes a.1,fun r:Bool=>(.val (.bool) r (.no),[.undef])⟩
def g66:=gx ⟨[0,1,4,5,7,8,9,10,11,16],[],[true],[(7,[(1,.any),(5,.any),(8,.any),(9,.any),(10,.any)]),(8,[(5,.any)]),(9,[(1,.any),(5,.any),(8,.any),(9,.any),(10,.any)])]⟩ Tryz.f50
def K66_7:MarkK tab:=⟨[(1,.fn 53 [] []),(5,.val (.int .i64) (.no)),(8,.val (.slice 168 (.named .TUop)) (.no)),(9,.val (.int .i64) (.no)),(10,.val (.int .i64) (.no))],[((.exit 0),[(5,.val (.int .i64) (.no))])],L_place_many_v2_7⟩
def N66:FnK tab:=⟨[.val (.slice 168 (.named .TUop)) (.no),.fn 53 [] []],W .i64,fun a:Sl 168 (TUop)×((Unit)×(Unit))×Unit=>F_place_many_v2 a.1,fun r:W .i64=>(.val (.int .i64) r (.no),[.undef,.undef])⟩
def t66:Tt:=tbl [(53,N65)]
def q66:Qt:=mtbl [(7,K66_7)]
def g67:=gx ⟨[0,1,2,3],[],[true],[]⟩ Tryz.f121
def N67:FnK tab:=⟨[.val (.named .TFree) (.no)],Bool,fun a:TFree×Unit=>F_freel_ring_sound a.1,fun r:Bool=>(.val (.bool) r (.no),[.undef])⟩
def g68:=gx ⟨[0,1,2,4,5],[],[true],[]⟩ Tryz.f122
def N68:FnK tab:=⟨[.val (.named .TFree) (.no),.val (.int .i64) (.no)],W .i64,fun a:TFree×W .i64×Unit=>F_freel_ring_at a.1 a.2.1,fun r:W .i64=>(.val (.int .i64) r (.no),[.undef,.undef])⟩
def g69:=gx ⟨[0,1,2,3,4,5,8,12,13,14],[],[true],[(15,[(1,.any),(3,.any),(4,.own),(12,.any),(13,.any)]),(16,[(4,.any)]),(17,[(1,.any),(3,.any),(4,.own),(12,.any),(13,.any)])]⟩ Tryz.f54
def K69_15:MarkK tab:=⟨[(1,.box (.named .TFree) (.no)),(3,.fn 122 [.val (.named .TFree) (.no)] []),(4,.val (.slice 8 (.int .i64)) (.yes 0)),(12,.val (.int .i64) (.no)),(13,.val (.int .i64) (.no))],[((.exit 0),[(4,.val (.slice 8 (.int .i64)) (.yes 0))])],L_freel_List_15⟩
def N69:FnK tab:=⟨[.val (.named .TFree) (.no)],Sl 8 (W .i64),fun a:TFree×Unit=>F_freel_List a.1,fun r:Sl 8 (W .i64)=>(.val (.slice 8 (.int .i64)) r (.no),[.undef])⟩
def t69:Tt:=tbl [(121,N67),(122,N68)]
def q69:Qt:=mtbl [(15,K69_15)]
def g70:=gx ⟨[0,1,2,4,5],[],[true],[]⟩ Tryz.f14
def N70:FnK tab:=⟨[.val (.named .TCore) (.no),.val (.slice 168 (.named .TUop)) (.no)],Bool,fun a:TCore×Sl 168 (TUop)×Unit=>F_place_Fits a.1 a.2.1,fun r:Bool=>(.val (.bool) r (.no),[.undef,.undef])⟩
def t70:Tt:=tbl [(50,N64),(50,N61),(50,N66),(52,N62),(54,N69)]
def g71:=gx ⟨[0,2],[],[true],[]⟩ Tryz.f174
def N71:FnK tab:=⟨[.val (.int .i64) (.no)],Bool,fun a:W .i64×Unit=>F_rat_is a.1,fun r:Bool=>(.val (.bool) r (.no),[.undef])⟩
def g72:=gx ⟨[0,1,2,4,7],[],[true],[]⟩ Tryz.f140
def N72:FnK tab:=⟨[.val (.arr 16 (.int .i64)) (.no),.val (.int .i64) (.no)],W .i64,fun a:Arr 16 (W .i64)×W .i64×Unit=>F_rat_Get a.1 a.2.1,fun r:W .i64=>(.val (.int .i64) r (.no),[.undef,.undef])⟩
def t72:Tt:=tbl [(174,N71)]
def g73:=gx ⟨[0,1,2],[],[true],[]⟩ Tryz.f141
def N73:FnK tab:=⟨[.val (.named .TUop) (.no)],Bool,fun a:TUop×Unit=>F_rename_writes a.1,fun r:Bool=>(.val (.bool) r (.no),[.undef])⟩
def g74:=gx ⟨[0,1,2,3,4,5,6,14],[],[true,true,true],[]⟩ Tryz.f142
def N74:FnK tab:=⟨[.val (.named .TFree) (.no)],TFree×W .i64×Bool,fun a:TFree×Unit=>F_freel_Take a.1,fun r:TFree×W .i64×Bool=>(.tup [.val (.named .TFree) r.1 (.no),.val (.int .i64) r.2.1 (.no),.val (.bool) r.2.2 (.no)],[.undef])⟩
def t74:Tt:=tbl [(121,N67),(122,N68)]
def g75:=gx ⟨[0,1,2,3,6,8],[],[true],[]⟩ Tryz.f143
def N75:FnK tab:=⟨[.val (.arr 16 (.int .i64)) (.no),.val (.int .i64) (.no),.val (.int .i64) (.no)],Arr 16 (W .i64),fun a:Arr 16 (W .i64)×W .i64×W .i64×Unit=>F_rat_Set a.1 a.2.1 a.2.2.1,fun r:Arr 16 (W .i64)=>(.val (.arr 16 (.int .i64)) r (.no),[.undef,.undef,.undef])⟩
def t75:Tt:=tbl [(174,N71)]
def g76:=gx ⟨[0,1,2,3,4,5,6,7,8,9,10,11,12,18,19,20,32,41],[],[true,true,true],[(7,[(2,.any),(3,.any),(4,.any),(5,.any),(7,.any),(18,.any),(19,.any)]),(8,[(2,.any),(3,.any),(4,.any),(5,.any),(7,.any)]),(9,[(2,.any),(3,.any),(4,.any),(5,.any),(7,.any),(18,.any),(19,.any)])]⟩ Tryz.f70
def K76_7:MarkK tab:=⟨[(2,.box (.named .TNames) (.no)),(3,.box (.named .TUop) (.no)),(4,.box (.named .TNames) (.no)),(5,.box (.named .TRen) (.no)),(7,.box (.named .TRen) (.no)),(18,.val (.arr 3 (.int .i64)) (.no)),(19,.val (.int .i64) (.no))],[((.exit 0),[(2,.box (.named .TNames) (.no)),(3,.box (.named .TUop) (.no)),(4,.box (.named .TNames) (.no)),(5,.box (.named .TRen) (.no)),(7,.box (.named .TRen) (.no))])],L_rename_One_7⟩
def N76:FnK tab:=⟨[.val (.named .TNames) (.no),.val (.named .TUop) (.no)],TNames×TRen×Bool,fun a:TNames×TUop×Unit=>F_rename_One a.1 a.2.1,fun r:TNames×TRen×Bool=>(.tup [.val (.named .TNames) r.1 (.no),.val (.named .TRen) r.2.1 (.no),.val (.bool) r.2.2 (.no)],[.undef,.undef])⟩
def t76:Tt:=tbl [(140,N72),(141,N73),(142,N74),(143,N75)]
def q76:Qt:=mtbl [(7,K76_7)]
def N77:FnK tab:=cloneK 248 (.named .TRob)
def g78:=gx ⟨[0,1,2,4,6,7,11],[],[true,true],[]⟩ Tryz.f71
def N78:FnK tab:=⟨[.val (.slice 248 (.named .TRob)) (.no),.val (.named .TRen) (.no),.val (.int .i64) (.no)],Sl 248 (TRob)×Bool,fun a:Sl 248 (TRob)×TRen×W .i64×Unit=>F_rob_Put a.1 a.2.1 a.2.2.1,fun r:Sl 248 (TRob)×Bool=>(.tup [.val (.slice 248 (.named .TRob)) r.1 (.no),.val (.bool) r.2 (.no)],[.undef,.undef,.undef])⟩
def t78:Tt:=tbl [(144,N77)]
def g79:=gx ⟨[0,1,2,6,7],[],[true],[]⟩ Tryz.f72
def N79:FnK tab:=⟨[.val (.slice 248 (.named .TRob)) (.no),.val (.slice 248 (.named .TRob)) (.no),.val (.bool) (.no)],Sl 248 (TRob),fun a:Sl 248 (TRob)×Sl 248 (TRob)×Bool×Unit=>F_place_kept_Rob a.1 a.2.1 a.2.2.1,fun r:Sl 248 (TRob)=>(.val (.slice 248 (.named .TRob)) r (.no),[.undef,.undef,.undef])⟩
def g80:=gx ⟨[0,1,2,4,5,6,11],[],[true,true],[]⟩ Tryz.f73
def N80:FnK tab:=⟨[.val (.named .TPhys) (.no),.val (.int .i64) (.no)],W .u32×Bool,fun a:TPhys×W .i64×Unit=>F_prf_Get a.1 a.2.1,fun r:W .u32×Bool=>(.tup [.val (.int .u32) r.1 (.no),.val (.bool) r.2 (.no)],[.undef,.undef])⟩
def t80:Tt:=tbl [(139,N43)]
def N81:FnK tab:=cloneK 224 (.named .TIq)
def g82:=gx ⟨[0,1,2,3,5,6,8,9,13],[],[true,true],[]⟩ Tryz.f74
def N82:FnK tab:=⟨[.val (.slice 224 (.named .TIq)) (.no),.val (.named .TRen) (.no),.val (.arr 3 (.bool)) (.no),.val (.int .i64) (.no)],Sl 224 (TIq)×Bool,fun a:Sl 224 (TIq)×TRen×Arr 3 (Bool)×W .i64×Unit=>F_iq_Put a.1 a.2.1 a.2.2.1 a.2.2.2.1,fun r:Sl 224 (TIq)×Bool=>(.tup [.val (.slice 224 (.named .TIq)) r.1 (.no),.val (.bool) r.2 (.no)],[.undef,.undef,.undef,.undef])⟩
def t82:Tt:=tbl [(145,N81)]
def g83:=gx ⟨[0,1,2,6,7],[],[true],[]⟩ Tryz.f75
def N83:FnK tab:=⟨[.val (.slice 224 (.named .TIq)) (.no),.val (.slice 224 (.named .TIq)) (.no),.val (.bool) (.no)],Sl 224 (TIq),fun a:Sl 224 (TIq)×Sl 224 (TIq)×Bool×Unit=>F_place_kept_Iq a.1 a.2.1 a.2.2.1,fun r:Sl 224 (TIq)=>(.val (.slice 224 (.named .TIq)) r (.no),[.undef,.undef,.undef])⟩
def g84:=gx ⟨[0,1,2,4,5,15],[],[true],[]⟩ Tryz.f76
def N84:FnK tab:=⟨[.val (.named .TPhys) (.no),.val (.int .i64) (.no)],TPhys,fun a:TPhys×W .i64×Unit=>F_prf_Drop a.1 a.2.1,fun r:TPhys=>(.val (.named .TPhys) r (.no),[.undef,.undef])⟩
def t84:Tt:=tbl [(137,N41),(138,N42),(139,N43)]
def N85:FnK tab:=cloneK 48 (.named .TLq)
def g86:=gx ⟨[0,1,2,3,8,9,13],[],[true,true],[]⟩ Tryz.f77
def N86:FnK tab:=⟨[.val (.slice 48 (.named .TLq)) (.no),.val (.int .u64) (.no),.val (.int .u32) (.no),.val (.int .i64) (.no)],Sl 48 (TLq)×Bool,fun a:Sl 48 (TLq)×W .u64×W .u32×W .i64×Unit=>F_lq_Put a.1 a.2.1 a.2.2.1 a.2.2.2.1,fun r:Sl 48 (TLq)×Bool=>(.tup [.val (.slice 48 (.named .TLq)) r.1 (.no),.val (.bool) r.2 (.no)],[.undef,.undef,.undef,.undef])⟩
def t86:Tt:=tbl [(146,N85)]
def g87:=gx ⟨[0,1,2,6,7],[],[true],[]⟩ Tryz.f78
def N87:FnK tab:=⟨[.val (.slice 48 (.named .TLq)) (.no),.val (.slice 48 (.named .TLq)) (.no),.val (.bool) (.no)],Sl 48 (TLq),fun a:Sl 48 (TLq)×Sl 48 (TLq)×Bool×Unit=>F_place_kept_Lq a.1 a.2.1 a.2.2.1,fun r:Sl 48 (TLq)=>(.val (.slice 48 (.named .TLq)) r (.no),[.undef,.undef,.undef])⟩
def N88:FnK tab:=cloneK 32 (.named .TSq)
def g89:=gx ⟨[0,1,2,6,7,11],[],[true,true],[]⟩ Tryz.f79
def N89:FnK tab:=⟨[.val (.slice 32 (.named .TSq)) (.no),.val (.int .u64) (.no),.val (.int .i64) (.no)],Sl 32 (TSq)×Bool,fun a:Sl 32 (TSq)×W .u64×W .i64×Unit=>F_sq_Put a.1 a.2.1 a.2.2.1,fun r:Sl 32 (TSq)×Bool=>(.tup [.val (.slice 32 (.named .TSq)) r.1 (.no),.val (.bool) r.2 (.no)],[.undef,.undef,.undef])⟩
def t89:Tt:=tbl [(147,N88)]
def g90:=gx ⟨[0,1,2,6,7],[],[true],[]⟩ Tryz.f80
def N90:FnK tab:=⟨[.val (.slice 32 (.named .TSq)) (.no),.val (.slice 32 (.named .TSq)) (.no),.val (.bool) (.no)],Sl 32 (TSq),fun a:Sl 32 (TSq)×Sl 32 (TSq)×Bool×Unit=>F_place_kept_Sq a.1 a.2.1 a.2.2.1,fun r:Sl 32 (TSq)=>(.val (.slice 32 (.named .TSq)) r (.no),[.undef,.undef,.undef])⟩
def g91:=gx ⟨[0,1,2,3,4,5,6,7,9,10,11,12,13,14,15,16,17,18,19,20,21,53,55,56,57,93,94,113],[],[true,true],[(19,[(2,.any),(3,.any),(4,.any),(5,.any),(7,.any),(9,.any),(10,.any),(13,.any),(55,.any),(56,.any)]),(20,[(2,.any),(3,.any),(4,.any),(5,.any),(7,.any),(9,.any),(10,.any),(13,.any)]),(21,[(2,.any),(3,.any),(4,.any),(5,.any),(7,.any),(9,.any),(10,.any),(13,.any),(55,.any),(56,.any)])]⟩ Tryz.f23
def K91_19:MarkK tab:=⟨[(2,.box (.named .TCore) (.no)),(3,.box (.named .TUop) (.no)),(4,.box (.named .TCore) (.st [.no,.no,.yes 0,.yes 0,.no,.no,.no,.yes 0,.no,.yes 0,.no,.no,.yes 0,.yes 0,.yes 0,.yes 0,.yes 0,.yes 0,.yes 0,.no,.no])),(5,.box (.named .TNote) (.no)),(7,.box (.named .TRen) (.no)),(9,.box (.named .TConf) (.no)),(10,.val (.int .u32) (.no)),(13,.box (.arr 3 (.bool)) (.no)),(55,.val (.arr 3 (.int .i64)) (.no)),(56,.val (.int .i64) (.no))],[((.exit 0),[(2,.box (.named .TCore) (.no)),(3,.box (.named .TUop) (.no)),(4,.box (.named .TCore) (.st [.no,.no,.yes 0,.yes 0,.no,.no,.no,.yes 0,.no,.yes 0,.no,.no,.yes 0,.yes 0,.yes 0,.yes 0,.yes 0,.yes 0,.yes 0,.no,.no])),(5,.box (.named .TNote) (.no)),(7,.box (.named .TRen) (.no)),(9,.box (.named .TConf) (.no)),(10,.val (.int .u32) (.no)),(13,.box (.arr 3 (.bool)) (.no))])],L_place_put_19⟩
def N91:FnK tab:=⟨[.val (.named .TCore) (.no),.val (.named .TUop) (.no)],TCore×TNote,fun a:TCore×TUop×Unit=>F_place_put a.1 a.2.1,fun r:TCore×TNote=>(.tup [.val (.named .TCore) r.1 (.no),.val (.named .TNote) r.2 (.no)],[.undef,.undef])⟩
def t91:Tt:=tbl [(51,N60),(70,N76),(71,N78),(72,N79),(73,N80),(74,N82),(75,N83),(76,N84),(77,N86),(78,N87),(79,N89),(80,N90)]
def q91:Qt:=mtbl [(19,K91_19)]
def g92:=gx ⟨[0,1,2,3,4,5,6,7,9,10,14,20,21,22,26,35,40,41,42,43],[],[true,true],[(13,[(2,.any),(4,.any),(6,.own),(20,.any),(21,.any)]),(14,[(2,.any),(4,.any),(6,.own)]),(15,[(2,.any),(4,.any),(6,.own),(20,.any),(21,.any)]),(34,[(2,.any),(4,.any),(6,.own),(20,.any),(21,.any),(40,.any),(41,.any),(42,.any)]),(35,[(2,.any),(4,.any),(6,.any),(20,.any),(21,.any)]),(36,[(2,.any),(4,.any),(6,.own),(20,.any),(21,.any),(40,.any),(41,.any),(42,.any)])]⟩ Tryz.f8
def K92_34:MarkK tab:=⟨[(2,.box (.named .TCore) (.no)),(4,.box (.named .TCore) (.st [.no,.no,.yes 0,.yes 0,.no,.no,.no,.yes 0,.no,.yes 0,.no,.no,.yes 0,.yes 0,.yes 0,.yes 0,.yes 0,.yes 0,.yes 0,.no,.no])),(6,.val (.slice 32 (.named .TNote)) (.yes 0)),(20,.val (.int .i64) (.no)),(21,.val (.int .i64) (.no)),(40,.val (.slice 168 (.named .TUop)) (.no)),(41,.val (.int .i64) (.no)),(42,.val (.int .i64) (.no))],[((.exit 2),[(2,.box (.named .TCore) (.no)),(4,.box (.named .TCore) (.st [.no,.no,.yes 0,.yes 0,.no,.no,.no,.yes 0,.no,.yes 0,.no,.no,.yes 0,.yes 0,.yes 0,.yes 0,.yes 0,.yes 0,.yes 0,.no,.no])),(6,.val (.slice 32 (.named .TNote)) (.yes 0)),(20,.val (.int .i64) (.no)),(21,.val (.int .i64) (.no))])],L_place_Stage_34⟩
def K92_13:MarkK tab:=⟨[(2,.box (.named .TCore) (.no)),(4,.box (.named .TCore) (.st [.no,.no,.yes 0,.yes 0,.no,.no,.no,.yes 0,.no,.yes 0,.no,.no,.yes 0,.yes 0,.yes 0,.yes 0,.yes 0,.yes 0,.yes 0,.no,.no])),(6,.val (.slice 32 (.named .TNote)) (.yes 0)),(20,.val (.int .i64) (.no)),(21,.val (.int .i64) (.no))],[((.exit 0),[(2,.box (.named .TCore) (.no)),(4,.box (.named .TCore) (.st [.no,.no,.yes 0,.yes 0,.no,.no,.no,.yes 0,.no,.yes 0,.no,.no,.yes 0,.yes 0,.yes 0,.yes 0,.yes 0,.yes 0,.yes 0,.no,.no])),(6,.val (.slice 32 (.named .TNote)) (.yes 0))])],L_place_Stage_13⟩
def N92:FnK tab:=⟨[.val (.named .TCore) (.no),.val (.named .TTick) (.no)],TCore×Sl 32 (TNote),fun a:TCore×TTick×Unit=>F_place_Stage a.1 a.2.1,fun r:TCore×Sl 32 (TNote)=>(.tup [.val (.named .TCore) r.1 (.no),.val (.slice 32 (.named .TNote)) r.2 (.no)],[.undef,.undef])⟩
def t92:Tt:=tbl [(13,N59),(14,N70),(23,N91)]
def q92:Qt:=mtbl [(34,K92_34),(13,K92_13)]
def g93:=gx ⟨[0,1,3,5,6,7,8,9,10,37],[],[true],[]⟩ Tryz.f7
def N93:FnK tab:=⟨[],Bool,fun a:Unit=>F_law45_awake,fun r:Bool=>(.val (.bool) r (.no),[])⟩
def t93:Tt:=tbl [(8,N92),(13,N59),(14,N70),(19,N11),(20,N15),(21,N45),(22,N16)]
def g94:=gx ⟨[0,1,2,3,56],[],[true],[]⟩ Tryz.f36
def N94:FnK tab:=⟨[.val (.named .TCore) (.no)],Bool,fun a:TCore×Unit=>F_core_rooms a.1,fun r:Bool=>(.val (.bool) r (.no),[.undef])⟩
def t94:Tt:=tbl [(61,N21)]
def g95:=gx ⟨[0,1,2,3,5,7,9,10,11,12,22,23,24,25],[],[true,true],[(5,[(1,.any),(2,.own),(3,.own),(9,.any),(10,.any),(11,.any)]),(6,[(1,.any),(2,.any),(3,.own)]),(7,[(1,.any),(2,.own),(3,.own),(9,.any),(10,.any),(11,.any)]),(20,[(2,.any),(3,.own),(22,.any),(23,.any),(24,.any)]),(21,[(2,.any),(3,.any)]),(22,[(2,.any),(3,.own),(22,.any),(23,.any),(24,.any)])]⟩ Tryz.f37
def K95_5:MarkK tab:=⟨[(1,.box (.named .TCore) (.no)),(2,.val (.slice 216 (.named .TRen)) (.yes 0)),(3,.val (.slice 216 (.named .TRen)) (.yes 0)),(9,.val (.slice 224 (.named .TIq)) (.no)),(10,.val (.int .i64) (.no)),(11,.val (.int .i64) (.no))],[((.exit 0),[(1,.box (.named .TCore) (.no)),(2,.val (.slice 216 (.named .TRen)) (.yes 0)),(3,.val (.slice 216 (.named .TRen)) (.yes 0))])],L_core_queued_5⟩
def K95_20:MarkK tab:=⟨[(2,.val (.slice 216 (.named .TRen)) (.yes 0)),(3,.val (.slice 216 (.named .TRen)) (.yes 0)),(22,.val (.slice 256 (.named .TFlight)) (.no)),(23,.val (.int .i64) (.no)),(24,.val (.int .i64) (.no))],[((.exit 2),[(2,.val (.slice 216 (.named .TRen)) (.yes 0)),(3,.val (.slice 216 (.named .TRen)) (.yes 0))])],L_core_queued_20⟩
def N95:FnK tab:=⟨[.val (.named .TCore) (.no)],Sl 216 (TRen)×Sl 216 (TRen),fun a:TCore×Unit=>F_core_queued a.1,fun r:Sl 216 (TRen)×Sl 216 (TRen)=>(.tup [.val (.slice 216 (.named .TRen)) r.1 (.no),.val (.slice 216 (.named .TRen)) r.2 (.no)],[.undef])⟩
def q95:Qt:=mtbl [(5,K95_5),(20,K95_20)]
def g96:=gx ⟨[0,2,3,4,6,7,8,9,10,25,34],[],[true],[(7,[(3,.any),(4,.any),(7,.any),(8,.any),(9,.any)]),(8,[(2,.any),(4,.any)]),(9,[(3,.any),(4,.any),(7,.any),(8,.any),(9,.any)])]⟩ Tryz.f96
def K96_7:MarkK tab:=⟨[(3,.val (.int .u64) (.no)),(4,.val (.int .i64) (.no)),(7,.val (.slice 248 (.named .TRob)) (.no)),(8,.val (.int .i64) (.no)),(9,.val (.int .i64) (.no))],[(.ret,[(2,.val (.bool) (.no)),(4,.val (.int .i64) (.no))]),((.exit 0),[(2,.undef),(4,.val (.int .i64) (.no))])],L_rob_Right_7⟩
def N96:FnK tab:=⟨[.val (.slice 248 (.named .TRob)) (.no)],Bool,fun a:Sl 248 (TRob)×Unit=>F_rob_Right a.1,fun r:Bool=>(.val (.bool) r (.no),[.undef])⟩
def q96:Qt:=mtbl [(7,K96_7)]
def g97:=gx ⟨[0,1,2,3],[],[true],[]⟩ Tryz.f38
def N97:FnK tab:=⟨[.val (.named .TCore) (.no)],Bool,fun a:TCore×Unit=>F_core_ordered a.1,fun r:Bool=>(.val (.bool) r (.no),[.undef])⟩
def t97:Tt:=tbl [(96,N96)]
def g98:=gx ⟨[0,1,2,3,5,7,8,9,10],[],[true],[(7,[(3,.own),(7,.any),(8,.any),(9,.any)]),(8,[(3,.any)]),(9,[(3,.own),(7,.any),(8,.any),(9,.any)])]⟩ Tryz.f40
def K98_7:MarkK tab:=⟨[(3,.val (.slice 216 (.named .TRen)) (.yes 0)),(7,.val (.slice 248 (.named .TRob)) (.no)),(8,.val (.int .i64) (.no)),(9,.val (.int .i64) (.no))],[((.exit 0),[(3,.val (.slice 216 (.named .TRen)) (.yes 0))])],L_core_rens_7⟩
def N98:FnK tab:=⟨[.val (.named .TCore) (.no)],Sl 216 (TRen),fun a:TCore×Unit=>F_core_rens a.1,fun r:Sl 216 (TRen)=>(.val (.slice 216 (.named .TRen)) r (.no),[.undef])⟩
def q98:Qt:=mtbl [(7,K98_7)]
def g99:=gx ⟨[0,1,2,4,5,6,9,11,16,25,36],[],[true],[(11,[(1,.any),(2,.any),(5,.any)]),(12,[(4,.any)]),(13,[(1,.any),(2,.any),(5,.any)]),(20,[(1,.any),(2,.any),(5,.any),(6,.any)]),(21,[(1,.any),(2,.any),(4,.any),(5,.any)]),(22,[(1,.any),(2,.any),(5,.any),(6,.any)])]⟩ Tryz.f97
def K99_20:MarkK tab:=⟨[(1,.val (.int .i64) (.no)),(2,.box (.arr 16 (.int .i64)) (.no)),(5,.val (.int .i64) (.no)),(6,.val (.int .i64) (.no))],[(.ret,[(1,.val (.int .i64) (.no)),(2,.box (.arr 16 (.int .i64)) (.no)),(4,.val (.bool) (.no)),(5,.val (.int .i64) (.no))]),((.exit 2),[(1,.val (.int .i64) (.no)),(2,.box (.arr 16 (.int .i64)) (.no)),(4,.undef),(5,.val (.int .i64) (.no))])],L_rat_Right_20⟩
def K99_11:MarkK tab:=⟨[(1,.val (.int .i64) (.no)),(2,.box (.arr 16 (.int .i64)) (.no)),(5,.val (.int .i64) (.no))],[(.ret,[(4,.val (.bool) (.no))]),((.exit 0),[(4,.undef)])],L_rat_Right_11⟩
def N99:FnK tab:=⟨[.val (.arr 16 (.int .i64)) (.no),.val (.int .i64) (.no)],Bool,fun a:Arr 16 (W .i64)×W .i64×Unit=>F_rat_Right a.1 a.2.1,fun r:Bool=>(.val (.bool) r (.no),[.undef,.undef])⟩
def q99:Qt:=mtbl [(20,K99_20),(11,K99_11)]
def g100:=gx ⟨[0,1,2,4,5,7,17,19,20,21,22,36],[],[true],[(13,[(1,.any),(5,.any),(19,.any),(20,.any),(21,.any)]),(14,[(4,.any)]),(15,[(1,.any),(5,.any),(19,.any),(20,.any),(21,.any)])]⟩ Tryz.f98
def K100_13:MarkK tab:=⟨[(1,.val (.int .i64) (.no)),(5,.box (.arr 96 (.bool)) (.no)),(19,.val (.slice 8 (.int .i64)) (.no)),(20,.val (.int .i64) (.no)),(21,.val (.int .i64) (.no))],[(.ret,[(4,.val (.bool) (.no))]),((.exit 0),[(4,.undef)])],L_freel_Right_13⟩
def N100:FnK tab:=⟨[.val (.named .TFree) (.no),.val (.int .i64) (.no)],Bool,fun a:TFree×W .i64×Unit=>F_freel_Right a.1 a.2.1,fun r:Bool=>(.val (.bool) r (.no),[.undef,.undef])⟩
def t100:Tt:=tbl [(54,N69),(121,N67)]
def q100:Qt:=mtbl [(13,K100_13)]
def g101:=gx ⟨[0,1,2,3,11],[1,2,3],[],[]⟩ Tryz.f99
def N101:FnK tab:=⟨[.val (.int .i64) (.no),.box (.int .i64) (.no),.box (.bool) (.no),.box (.arr 96 (.int .i64)) (.no)],W .i64×Bool×Arr 96 (W .i64),fun a:W .i64×W .i64×Bool×Arr 96 (W .i64)×Unit=>F_rename_Right_1 a.1 a.2.1 a.2.2.1 a.2.2.2.1,fun r:W .i64×Bool×Arr 96 (W .i64)=>(.tup [],[.undef,.box 0 (.int .i64) r.1 (.no),.box 0 (.bool) r.2.1 (.no),.box 0 (.arr 96 (.int .i64)) r.2.2 (.no)])⟩
def g102:=gx ⟨[0,1,2,4,5,6,8,11,12,13,14,27,33,41,54],[],[true],[(7,[(2,.any),(5,.any),(6,.any),(11,.any),(12,.any),(13,.any)]),(8,[(2,.any),(4,.any),(5,.any)]),(9,[(2,.any),(5,.any),(6,.any),(11,.any),(12,.any),(13,.any)])]⟩ Tryz.f101
def K102_7:MarkK tab:=⟨[(2,.box (.named .TNames) (.no)),(5,.box (.arr 16 (.int .i64)) (.no)),(6,.val (.int .u64) (.no)),(11,.val (.slice 216 (.named .TRen)) (.no)),(12,.val (.int .i64) (.no)),(13,.val (.int .i64) (.no))],[(.ret,[(2,.box (.named .TNames) (.no)),(4,.val (.bool) (.no)),(5,.box (.arr 16 (.int .i64)) (.no))]),((.exit 0),[(2,.box (.named .TNames) (.no)),(4,.undef),(5,.box (.arr 16 (.int .i64)) (.no))])],L_rename_steps_7⟩
def N102:FnK tab:=⟨[.val (.named .TNames) (.no),.val (.slice 216 (.named .TRen)) (.no)],Bool,fun a:TNames×Sl 216 (TRen)×Unit=>F_rename_steps a.1 a.2.1,fun r:Bool=>(.val (.bool) r (.no),[.undef,.undef])⟩
def t102:Tt:=tbl [(140,N72),(141,N73),(143,N75)]
def q102:Qt:=mtbl [(7,K102_7)]
def g103:=gx ⟨[0,1,2,3,4,5,6,7,12,20,30],[0,2,3,4,5],[],[(3,[(0,.any),(1,.any),(2,.any),(3,.any),(4,.any),(5,.any),(6,.any)]),(4,[(0,.any),(2,.any),(3,.any),(4,.any),(5,.any)]),(5,[(0,.any),(1,.any),(2,.any),(3,.any),(4,.any),(5,.any),(6,.any)]),(18,[(0,.any),(2,.any),(3,.any),(4,.any),(5,.any),(7,.any)]),(19,[(0,.any),(2,.any),(3,.any),(4,.any),(5,.any)]),(20,[(0,.any),(2,.any),(3,.any),(4,.any),(5,.any),(7,.any)])]⟩ Tryz.f100
def K103_3:MarkK tab:=⟨[(0,.box (.slice 216 (.named .TRen)) (.no)),(1,.rfn 99 [] [.ptr 2 [],.ptr 5 [],.ptr 4 []]),(2,.box (.int .i64) (.no)),(3,.box (.bool) (.no)),(4,.box (.arr 96 (.int .i64)) (.no)),(5,.box (.bool) (.no)),(6,.val (.int .i64) (.no))],[((.exit 0),[(0,.box (.slice 216 (.named .TRen)) (.no)),(2,.box (.int .i64) (.no)),(3,.box (.bool) (.no)),(4,.box (.arr 96 (.int .i64)) (.no)),(5,.box (.bool) (.no))])],L_rename_Right_2_3⟩
def K103_18:MarkK tab:=⟨[(0,.box (.slice 216 (.named .TRen)) (.no)),(2,.box (.int .i64) (.no)),(3,.box (.bool) (.no)),(4,.box (.arr 96 (.int .i64)) (.no)),(5,.box (.bool) (.no)),(7,.val (.int .i64) (.no))],[((.exit 2),[(0,.box (.slice 216 (.named .TRen)) (.no)),(2,.box (.int .i64) (.no)),(3,.box (.bool) (.no)),(4,.box (.arr 96 (.int .i64)) (.no)),(5,.box (.bool) (.no))])],L_rename_Right_2_18⟩
def N103:FnK tab:=⟨[.box (.slice 216 (.named .TRen)) (.no),.rfn 99 [] [.ptr 2 [],.ptr 5 [],.ptr 4 []],.box (.int .i64) (.no),.box (.bool) (.no),.box (.arr 96 (.int .i64)) (.no),.box (.bool) (.no)],Sl 216 (TRen)×W .i64×Bool×Arr 96 (W .i64)×Bool,fun a:Sl 216 (TRen)×((Unit)×(Unit×Unit×Unit×Unit))×W .i64×Bool×Arr 96 (W .i64)×Bool×Unit=>F_rename_Right_2 a.1 a.2.2.1 a.2.2.2.1 a.2.2.2.2.1 a.2.2.2.2.2.1,fun r:Sl 216 (TRen)×W .i64×Bool×Arr 96 (W .i64)×Bool=>(.tup [],[.box 0 (.slice 216 (.named .TRen)) r.1 (.no),.undef,.box 0 (.int .i64) r.2.1 (.no),.box 0 (.bool) r.2.2.1 (.no),.box 0 (.arr 96 (.int .i64)) r.2.2.2.1 (.no),.box 0 (.bool) r.2.2.2.2 (.no)])⟩
def t103:Tt:=tbl [(99,N101)]
def q103:Qt:=mtbl [(3,K103_3),(18,K103_18)]
def g104:=gx ⟨[0,1,2,3,4,5,6,7,8,9,11,12,39,41,44,45,46,47,55],[],[true],[(19,[(3,.any),(4,.any),(5,.any),(6,.any),(7,.any),(8,.any),(9,.any),(41,.any),(44,.any),(45,.any),(46,.any)]),(20,[(3,.any),(4,.any),(5,.any),(6,.any),(7,.any),(8,.any),(9,.any),(41,.any)]),(21,[(3,.any),(4,.any),(5,.any),(6,.any),(7,.any),(8,.any),(9,.any),(41,.any),(44,.any),(45,.any),(46,.any)]),(34,[(3,.any),(4,.any),(5,.any),(6,.any),(7,.any),(8,.any),(9,.any),(12,.any),(41,.any)]),(35,[(3,.any),(4,.any),(5,.any),(6,.any),(7,.any),(8,.any),(41,.any)]),(36,[(3,.any),(4,.any),(5,.any),(6,.any),(7,.any),(8,.any),(9,.any),(12,.any),(41,.any)])]⟩ Tryz.f39
def K104_19:MarkK tab:=⟨[(3,.box (.named .TNames) (.no)),(4,.box (.int .i64) (.no)),(5,.box (.slice 216 (.named .TRen)) (.no)),(6,.box (.bool) (.no)),(7,.box (.arr 96 (.int .i64)) (.no)),(8,.box (.bool) (.no)),(9,.rfn 99 [] [.ptr 4 [],.ptr 8 [],.ptr 7 []]),(41,.fn 100 [] [.ptr 5 [],.rfn 99 [] [.ptr 4 [],.ptr 8 [],.ptr 7 []],.ptr 4 [],.ptr 6 [],.ptr 7 [],.ptr 8 []]),(44,.val (.slice 8 (.int .i64)) (.no)),(45,.val (.int .i64) (.no)),(46,.val (.int .i64) (.no))],[((.exit 0),[(3,.box (.named .TNames) (.no)),(4,.box (.int .i64) (.no)),(5,.box (.slice 216 (.named .TRen)) (.no)),(6,.box (.bool) (.no)),(7,.box (.arr 96 (.int .i64)) (.no)),(8,.box (.bool) (.no)),(9,.rfn 99 [] [.ptr 4 [],.ptr 8 [],.ptr 7 []]),(41,.fn 100 [] [.ptr 5 [],.rfn 99 [] [.ptr 4 [],.ptr 8 [],.ptr 7 []],.ptr 4 [],.ptr 6 [],.ptr 7 [],.ptr 8 []])])],L_rename_Right_19⟩
def K104_34:MarkK tab:=⟨[(3,.box (.named .TNames) (.no)),(4,.box (.int .i64) (.no)),(5,.box (.slice 216 (.named .TRen)) (.no)),(6,.box (.bool) (.no)),(7,.box (.arr 96 (.int .i64)) (.no)),(8,.box (.bool) (.no)),(9,.rfn 99 [] [.ptr 4 [],.ptr 8 [],.ptr 7 []]),(12,.val (.int .i64) (.no)),(41,.fn 100 [] [.ptr 5 [],.rfn 99 [] [.ptr 4 [],.ptr 8 [],.ptr 7 []],.ptr 4 [],.ptr 6 [],.ptr 7 [],.ptr 8 []])],[((.exit 2),[(3,.box (.named .TNames) (.no)),(4,.box (.int .i64) (.no)),(5,.box (.slice 216 (.named .TRen)) (.no)),(6,.box (.bool) (.no)),(7,.box (.arr 96 (.int .i64)) (.no)),(8,.box (.bool) (.no)),(41,.fn 100 [] [.ptr 5 [],.rfn 99 [] [.ptr 4 [],.ptr 8 [],.ptr 7 []],.ptr 4 [],.ptr 6 [],.ptr 7 [],.ptr 8 []])])],L_rename_Right_34⟩
def N104:FnK tab:=⟨[.val (.named .TNames) (.no),.val (.int .i64) (.no),.val (.slice 216 (.named .TRen)) (.no)],Bool,fun a:TNames×W .i64×Sl 216 (TRen)×Unit=>F_rename_Right a.1 a.2.1 a.2.2.1,fun r:Bool=>(.val (.bool) r (.no),[.undef,.undef,.undef])⟩
def t104:Tt:=tbl [(54,N69),(97,N99),(98,N100),(99,N101),(100,N103),(101,N102)]
def q104:Qt:=mtbl [(19,K104_19),(34,K104_34)]
def g105:=gx ⟨[0,1,2,3],[],[true],[]⟩ Tryz.f161
def N105:FnK tab:=⟨[.val (.named .TRob) (.no),.rptr (.named .TRen)],Bool,fun a:TRob×TRen×Unit=>F_core_waits_1 a.1 a.2.1,fun r:Bool=>(.val (.bool) r (.no),[.undef,.undef])⟩
def g106:=gx ⟨[0,1,4,5,7,8,9,16],[],[true],[(5,[(0,.any),(1,.any),(7,.any),(8,.any)]),(6,[(4,.any)]),(7,[(0,.any),(1,.any),(7,.any),(8,.any)])]⟩ Tryz.f163
def K106_5:MarkK tab:=⟨[(0,.val (.slice 248 (.named .TRob)) (.no)),(1,.fn 161 [] [.rptr (.named .TRen)]),(7,.val (.int .i64) (.no)),(8,.val (.int .i64) (.no))],[(.ret,[(4,.val (.int .i64) (.no))]),((.exit 0),[(4,.undef)])],L_slices_IndexFunc_Rob_of_core_waits_1_5⟩
def N106:FnK tab:=⟨[.val (.slice 248 (.named .TRob)) (.no),.fn 161 [] [.rptr (.named .TRen)]],W .i64,fun a:Sl 248 (TRob)×((Unit)×(TRen×Unit))×Unit=>F_slices_IndexFunc_Rob_of_core_waits_1 a.1 a.2.1.2.1,fun r:W .i64=>(.val (.int .i64) r (.no),[.undef,.undef])⟩
def t106:Tt:=tbl [(161,N105)]
def q106:Qt:=mtbl [(5,K106_5)]
def g107:=gx ⟨[0,1,4],[],[true],[]⟩ Tryz.f112
def N107:FnK tab:=⟨[.val (.slice 248 (.named .TRob)) (.no),.fn 161 [] [.rptr (.named .TRen)]],Bool,fun a:Sl 248 (TRob)×((Unit)×(TRen×Unit))×Unit=>F_slices_ContainsFunc_Rob_of_core_waits_1 a.1 a.2.1.2.1,fun r:Bool=>(.val (.bool) r (.no),[.undef,.undef])⟩
def t107:Tt:=tbl [(163,N106)]
def g108:=gx ⟨[0,1,2,3,4],[],[true],[]⟩ Tryz.f102
def N108:FnK tab:=⟨[.val (.named .TCore) (.no),.val (.named .TRen) (.no)],Bool,fun a:TCore×TRen×Unit=>F_core_waits a.1 a.2.1,fun r:Bool=>(.val (.bool) r (.no),[.undef,.undef])⟩
def t108:Tt:=tbl [(112,N107)]
def g109:=gx ⟨[0,1,2,4,5,7,9,10,11,12,30],[],[true],[(7,[(2,.any),(5,.any),(9,.any),(10,.any),(11,.any)]),(8,[(4,.any)]),(9,[(2,.any),(5,.any),(9,.any),(10,.any),(11,.any)])]⟩ Tryz.f41
def K109_7:MarkK tab:=⟨[(2,.box (.named .TCore) (.no)),(5,.val (.map (.int .u64) (.int .i64)) (.yes 0)),(9,.val (.slice 216 (.named .TRen)) (.no)),(10,.val (.int .i64) (.no)),(11,.val (.int .i64) (.no))],[(.ret,[(4,.val (.bool) (.no))]),((.exit 0),[(4,.undef)])],L_core_flying_7⟩
def N109:FnK tab:=⟨[.val (.named .TCore) (.no),.val (.slice 216 (.named .TRen)) (.no)],Bool,fun a:TCore×Sl 216 (TRen)×Unit=>F_core_flying a.1 a.2.1,fun r:Bool=>(.val (.bool) r (.no),[.undef,.undef])⟩
def t109:Tt:=tbl [(102,N108)]
def q109:Qt:=mtbl [(7,K109_7)]
def g110:=gx ⟨[0,1,2,3],[],[true],[]⟩ Tryz.f105
def N110:FnK tab:=⟨[.val (.named .TRen) (.no),.rptr (.named .TRen)],Bool,fun a:TRen×TRen×Unit=>F_core_apart_1_1 a.1 a.2.1,fun r:Bool=>(.val (.bool) r (.no),[.undef,.undef])⟩
def g111:=gx ⟨[0,1,4,5,7,8,9,16],[],[true],[(5,[(0,.any),(1,.any),(7,.any),(8,.any)]),(6,[(4,.any)]),(7,[(0,.any),(1,.any),(7,.any),(8,.any)])]⟩ Tryz.f162
def K111_5:MarkK tab:=⟨[(0,.val (.slice 216 (.named .TRen)) (.no)),(1,.fn 105 [] [.rptr (.named .TRen)]),(7,.val (.int .i64) (.no)),(8,.val (.int .i64) (.no))],[(.ret,[(4,.val (.int .i64) (.no))]),((.exit 0),[(4,.undef)])],L_slices_IndexFunc_Ren_of_core_apart_1_1_5⟩
def N111:FnK tab:=⟨[.val (.slice 216 (.named .TRen)) (.no),.fn 105 [] [.rptr (.named .TRen)]],W .i64,fun a:Sl 216 (TRen)×((Unit)×(TRen×Unit))×Unit=>F_slices_IndexFunc_Ren_of_core_apart_1_1 a.1 a.2.1.2.1,fun r:W .i64=>(.val (.int .i64) r (.no),[.undef,.undef])⟩
def t111:Tt:=tbl [(105,N110)]
def q111:Qt:=mtbl [(5,K111_5)]
def g112:=gx ⟨[0,1,4],[],[true],[]⟩ Tryz.f103
def N112:FnK tab:=⟨[.val (.slice 216 (.named .TRen)) (.no),.fn 105 [] [.rptr (.named .TRen)]],Bool,fun a:Sl 216 (TRen)×((Unit)×(TRen×Unit))×Unit=>F_slices_ContainsFunc_Ren_of_core_apart_1_1 a.1 a.2.1.2.1,fun r:Bool=>(.val (.bool) r (.no),[.undef,.undef])⟩
def t112:Tt:=tbl [(162,N111)]
def g113:=gx ⟨[0,1,2,3],[],[true],[]⟩ Tryz.f104
def N113:FnK tab:=⟨[.val (.named .TRen) (.no),.rptr (.slice 216 (.named .TRen))],Bool,fun a:TRen×Sl 216 (TRen)×Unit=>F_core_apart_1 a.1 a.2.1,fun r:Bool=>(.val (.bool) r (.no),[.undef,.undef])⟩
def t113:Tt:=tbl [(103,N112)]
def g114:=gx ⟨[0,1,4,5,7,8,9,16],[],[true],[(5,[(0,.any),(1,.any),(7,.any),(8,.any)]),(6,[(4,.any)]),(7,[(0,.any),(1,.any),(7,.any),(8,.any)])]⟩ Tryz.f162
def K114_5:MarkK tab:=⟨[(0,.val (.slice 216 (.named .TRen)) (.no)),(1,.fn 104 [] [.rptr (.slice 216 (.named .TRen))]),(7,.val (.int .i64) (.no)),(8,.val (.int .i64) (.no))],[(.ret,[(4,.val (.int .i64) (.no))]),((.exit 0),[(4,.undef)])],L_slices_IndexFunc_Ren_of_core_apart_1_5⟩
def N114:FnK tab:=⟨[.val (.slice 216 (.named .TRen)) (.no),.fn 104 [] [.rptr (.slice 216 (.named .TRen))]],W .i64,fun a:Sl 216 (TRen)×((Unit)×(Sl 216 (TRen)×Unit))×Unit=>F_slices_IndexFunc_Ren_of_core_apart_1 a.1 a.2.1.2.1,fun r:W .i64=>(.val (.int .i64) r (.no),[.undef,.undef])⟩
def t114:Tt:=tbl [(104,N113)]
def q114:Qt:=mtbl [(5,K114_5)]
def g115:=gx ⟨[0,1,4],[],[true],[]⟩ Tryz.f103
def N115:FnK tab:=⟨[.val (.slice 216 (.named .TRen)) (.no),.fn 104 [] [.rptr (.slice 216 (.named .TRen))]],Bool,fun a:Sl 216 (TRen)×((Unit)×(Sl 216 (TRen)×Unit))×Unit=>F_slices_ContainsFunc_Ren_of_core_apart_1 a.1 a.2.1.2.1,fun r:Bool=>(.val (.bool) r (.no),[.undef,.undef])⟩
def t115:Tt:=tbl [(162,N114)]
def g116:=gx ⟨[0,1,3,4],[],[true],[]⟩ Tryz.f42
def N116:FnK tab:=⟨[.val (.slice 216 (.named .TRen)) (.no),.val (.slice 216 (.named .TRen)) (.no)],Bool,fun a:Sl 216 (TRen)×Sl 216 (TRen)×Unit=>F_core_apart a.1 a.2.1,fun r:Bool=>(.val (.bool) r (.no),[.undef,.undef])⟩
def t116:Tt:=tbl [(103,N115)]
def g117:=gx ⟨[0,1,2,4,5,7,9,10,11,12,20],[],[true],[(7,[(1,.any),(5,.own),(9,.any),(10,.any),(11,.any)]),(8,[(5,.any)]),(9,[(1,.any),(5,.own),(9,.any),(10,.any),(11,.any)])]⟩ Tryz.f107
def K117_7:MarkK tab:=⟨[(1,.val (.int .i64) (.no)),(5,.val (.slice 8 (.int .u64)) (.yes 0)),(9,.val (.slice 248 (.named .TRob)) (.no)),(10,.val (.int .i64) (.no)),(11,.val (.int .i64) (.no))],[((.exit 0),[(5,.val (.slice 8 (.int .u64)) (.yes 0))])],L_core_seqs_7⟩
def N117:FnK tab:=⟨[.val (.named .TCore) (.no),.val (.int .i64) (.no)],Sl 8 (W .u64),fun a:TCore×W .i64×Unit=>F_core_seqs a.1 a.2.1,fun r:Sl 8 (W .u64)=>(.val (.slice 8 (.int .u64)) r (.no),[.undef,.undef])⟩
def q117:Qt:=mtbl [(7,K117_7)]
def g118:=gx ⟨[0,1,2,4],[],[true],[]⟩ Tryz.f108
def N118:FnK tab:=⟨[.val (.named .TLq) (.no),.val (.int .u64) (.no)],Bool,fun a:TLq×W .u64×Unit=>F_core_memory_1 a.1 a.2.1,fun r:Bool=>(.val (.bool) r (.no),[.undef,.undef])⟩
def g119:=gx ⟨[0,1,2,6,7,8,9,14,15,16,17,18,30],[],[true],[(11,[(1,.any),(2,.any),(15,.any),(16,.any),(17,.any)]),(12,[(6,.any)]),(13,[(1,.any),(2,.any),(15,.any),(16,.any),(17,.any)])]⟩ Tryz.f106
def K119_11:MarkK tab:=⟨[(1,.val (.slice 8 (.int .u64)) (.no)),(2,.fn 108 [] []),(15,.val (.slice 48 (.named .TLq)) (.no)),(16,.val (.int .i64) (.no)),(17,.val (.int .i64) (.no))],[(.ret,[(6,.val (.bool) (.no))]),((.exit 0),[(6,.undef)])],L_slices_EqualFunc_Lq_uint64_of_core_memory_1_11⟩
def N119:FnK tab:=⟨[.val (.slice 48 (.named .TLq)) (.no),.val (.slice 8 (.int .u64)) (.no),.fn 108 [] []],Bool,fun a:Sl 48 (TLq)×Sl 8 (W .u64)×((Unit)×(Unit))×Unit=>F_slices_EqualFunc_Lq_uint64_of_core_memory_1 a.1 a.2.1,fun r:Bool=>(.val (.bool) r (.no),[.undef,.undef,.undef])⟩
def t119:Tt:=tbl [(108,N118)]
def q119:Qt:=mtbl [(11,K119_11)]
def g120:=gx ⟨[0,1,2,4],[],[true],[]⟩ Tryz.f110
def N120:FnK tab:=⟨[.val (.named .TSq) (.no),.val (.int .u64) (.no)],Bool,fun a:TSq×W .u64×Unit=>F_core_memory_2 a.1 a.2.1,fun r:Bool=>(.val (.bool) r (.no),[.undef,.undef])⟩
def g121:=gx ⟨[0,1,2,6,7,8,9,14,15,16,17,18,30],[],[true],[(11,[(1,.any),(2,.any),(15,.any),(16,.any),(17,.any)]),(12,[(6,.any)]),(13,[(1,.any),(2,.any),(15,.any),(16,.any),(17,.any)])]⟩ Tryz.f109
def K121_11:MarkK tab:=⟨[(1,.val (.slice 8 (.int .u64)) (.no)),(2,.fn 110 [] []),(15,.val (.slice 32 (.named .TSq)) (.no)),(16,.val (.int .i64) (.no)),(17,.val (.int .i64) (.no))],[(.ret,[(6,.val (.bool) (.no))]),((.exit 0),[(6,.undef)])],L_slices_EqualFunc_Sq_uint64_of_core_memory_2_11⟩
def N121:FnK tab:=⟨[.val (.slice 32 (.named .TSq)) (.no),.val (.slice 8 (.int .u64)) (.no),.fn 110 [] []],Bool,fun a:Sl 32 (TSq)×Sl 8 (W .u64)×((Unit)×(Unit))×Unit=>F_slices_EqualFunc_Sq_uint64_of_core_memory_2 a.1 a.2.1,fun r:Bool=>(.val (.bool) r (.no),[.undef,.undef,.undef])⟩
def t121:Tt:=tbl [(110,N120)]
def q121:Qt:=mtbl [(11,K121_11)]
def g122:=gx ⟨[0,1,2,3],[],[true],[]⟩ Tryz.f43
def N122:FnK tab:=⟨[.val (.named .TCore) (.no)],Bool,fun a:TCore×Unit=>F_core_memory a.1,fun r:Bool=>(.val (.bool) r (.no),[.undef])⟩
def t122:Tt:=tbl [(106,N119),(107,N117),(109,N121)]
def g123:=gx ⟨[0,1,2,3,4,5,6,8],[],[true],[(7,[(2,.any),(3,.any),(4,.any),(5,.any),(6,.any)]),(8,[(4,.any),(5,.any)]),(9,[(2,.any),(3,.any),(4,.any),(5,.any),(6,.any)])]⟩ Tryz.f44
def K123_7:MarkK tab:=⟨[(2,.box (.named .TPhys) (.no)),(3,.box (.arr 16 (.int .i64)) (.no)),(4,.box (.arr 16 (.int .u32)) (.no)),(5,.box (.arr 16 (.int .u32)) (.no)),(6,.val (.int .i64) (.no))],[((.exit 0),[(4,.box (.arr 16 (.int .u32)) (.no)),(5,.box (.arr 16 (.int .u32)) (.no))])],L_prf_View_7⟩
def N123:FnK tab:=⟨[.val (.named .TPhys) (.no),.val (.arr 16 (.int .i64)) (.no)],Arr 16 (W .u32),fun a:TPhys×Arr 16 (W .i64)×Unit=>F_prf_View a.1 a.2.1,fun r:Arr 16 (W .u32)=>(.val (.arr 16 (.int .u32)) r (.no),[.undef,.undef])⟩
def t123:Tt:=tbl [(73,N80)]
def q123:Qt:=mtbl [(7,K123_7)]
def g124:=gx ⟨[0,1,2,3,4,5],[],[true],[]⟩ Tryz.f113
def N124:FnK tab:=⟨[.val (.named .TRob) (.no),.rptr (.named .TCore)],Bool,fun a:TRob×TCore×Unit=>F_core_valued_1 a.1 a.2.1,fun r:Bool=>(.val (.bool) r (.no),[.undef,.undef])⟩
def t124:Tt:=tbl [(73,N80)]
def g125:=gx ⟨[0,1,4,5,7,8,9,16],[],[true],[(5,[(0,.any),(1,.any),(7,.any),(8,.any)]),(6,[(4,.any)]),(7,[(0,.any),(1,.any),(7,.any),(8,.any)])]⟩ Tryz.f163
def K125_5:MarkK tab:=⟨[(0,.val (.slice 248 (.named .TRob)) (.no)),(1,.fn 113 [] [.rptr (.named .TCore)]),(7,.val (.int .i64) (.no)),(8,.val (.int .i64) (.no))],[(.ret,[(4,.val (.int .i64) (.no))]),((.exit 0),[(4,.undef)])],L_slices_IndexFunc_Rob_of_core_valued_1_5⟩
def N125:FnK tab:=⟨[.val (.slice 248 (.named .TRob)) (.no),.fn 113 [] [.rptr (.named .TCore)]],W .i64,fun a:Sl 248 (TRob)×((Unit)×(TCore×Unit))×Unit=>F_slices_IndexFunc_Rob_of_core_valued_1 a.1 a.2.1.2.1,fun r:W .i64=>(.val (.int .i64) r (.no),[.undef,.undef])⟩
def t125:Tt:=tbl [(113,N124)]
def q125:Qt:=mtbl [(5,K125_5)]
def g126:=gx ⟨[0,1,4],[],[true],[]⟩ Tryz.f112
def N126:FnK tab:=⟨[.val (.slice 248 (.named .TRob)) (.no),.fn 113 [] [.rptr (.named .TCore)]],Bool,fun a:Sl 248 (TRob)×((Unit)×(TCore×Unit))×Unit=>F_slices_ContainsFunc_Rob_of_core_valued_1 a.1 a.2.1.2.1,fun r:Bool=>(.val (.bool) r (.no),[.undef,.undef])⟩
def t126:Tt:=tbl [(163,N125)]
def g127:=gx ⟨[0,1,2],[],[true],[]⟩ Tryz.f46
def N127:FnK tab:=⟨[.val (.named .TCore) (.no)],Bool,fun a:TCore×Unit=>F_core_valued a.1,fun r:Bool=>(.val (.bool) r (.no),[.undef])⟩
def t127:Tt:=tbl [(112,N126)]
def g128:=gx ⟨[0,1,2,3,4,5,6,7,10,55,56,57,58,63],[],[true],[(15,[(5,.own),(55,.any),(56,.any),(57,.any)]),(16,[(5,.any)]),(17,[(5,.own),(55,.any),(56,.any),(57,.any)])]⟩ Tryz.f12
def K128_15:MarkK tab:=⟨[(5,.val (.slice 8 (.int .i64)) (.yes 0)),(55,.val (.slice 1 (.bool)) (.yes 0)),(56,.val (.int .i64) (.no)),(57,.val (.int .i64) (.no))],[((.exit 0),[(5,.val (.slice 8 (.int .i64)) (.yes 0))])],L_core_Broken_15⟩
def N128:FnK tab:=⟨[.val (.named .TCore) (.no)],Sl 8 (W .i64),fun a:TCore×Unit=>F_core_Broken a.1,fun r:Sl 8 (W .i64)=>(.val (.slice 8 (.int .i64)) r (.no),[.undef])⟩
def t128:Tt:=tbl [(36,N94),(37,N95),(38,N97),(39,N104),(40,N98),(41,N109),(42,N116),(43,N122),(44,N123),(45,N23),(46,N127)]
def q128:Qt:=mtbl [(15,K128_15)]
def g129:=gx ⟨[0,1,4,5,10,20,31],[],[true],[(11,[(0,.any),(1,.any),(5,.any)]),(12,[(4,.any)]),(13,[(0,.any),(1,.any),(5,.any)])]⟩ Tryz.f15
def K129_11:MarkK tab:=⟨[(0,.val (.slice 16 (.named .TSb)) (.no)),(1,.val (.slice 16 (.named .TSb)) (.no)),(5,.val (.int .i64) (.no))],[(.ret,[(4,.val (.bool) (.no))]),((.exit 0),[(4,.undef)])],L_same_Sbs_11⟩
def N129:FnK tab:=⟨[.val (.slice 16 (.named .TSb)) (.no),.val (.slice 16 (.named .TSb)) (.no)],Bool,fun a:Sl 16 (TSb)×Sl 16 (TSb)×Unit=>F_same_Sbs a.1 a.2.1,fun r:Bool=>(.val (.bool) r (.no),[.undef,.undef])⟩
def q129:Qt:=mtbl [(11,K129_11)]
def g130:=gx ⟨[0,1,4,5,10,20,31],[],[true],[(11,[(0,.any),(1,.any),(5,.any)]),(12,[(4,.any)]),(13,[(0,.any),(1,.any),(5,.any)])]⟩ Tryz.f16
def K130_11:MarkK tab:=⟨[(0,.val (.slice 256 (.named .TFlight)) (.no)),(1,.val (.slice 256 (.named .TFlight)) (.no)),(5,.val (.int .i64) (.no))],[(.ret,[(4,.val (.bool) (.no))]),((.exit 0),[(4,.undef)])],L_same_Flights_11⟩
def N130:FnK tab:=⟨[.val (.slice 256 (.named .TFlight)) (.no),.val (.slice 256 (.named .TFlight)) (.no)],Bool,fun a:Sl 256 (TFlight)×Sl 256 (TFlight)×Unit=>F_same_Flights a.1 a.2.1,fun r:Bool=>(.val (.bool) r (.no),[.undef,.undef])⟩
def q130:Qt:=mtbl [(11,K130_11)]
def g131:=gx ⟨[0,1,4,5,10,20,31],[],[true],[(11,[(0,.any),(1,.any),(5,.any)]),(12,[(4,.any)]),(13,[(0,.any),(1,.any),(5,.any)])]⟩ Tryz.f18
def K131_11:MarkK tab:=⟨[(0,.val (.slice 1 (.int .u8)) (.no)),(1,.val (.slice 1 (.int .u8)) (.no)),(5,.val (.int .i64) (.no))],[(.ret,[(4,.val (.bool) (.no))]),((.exit 0),[(4,.undef)])],L_same_Bytes_11⟩
def N131:FnK tab:=⟨[.val (.slice 1 (.int .u8)) (.no),.val (.slice 1 (.int .u8)) (.no)],Bool,fun a:Sl 1 (W .u8)×Sl 1 (W .u8)×Unit=>F_same_Bytes a.1 a.2.1,fun r:Bool=>(.val (.bool) r (.no),[.undef,.undef])⟩
def q131:Qt:=mtbl [(11,K131_11)]
def g132:=gx ⟨[0,1,4,5,10,20,31],[],[true],[(11,[(0,.any),(1,.any),(5,.any)]),(12,[(4,.any)]),(13,[(0,.any),(1,.any),(5,.any)])]⟩ Tryz.f55
def K132_11:MarkK tab:=⟨[(0,.val (.slice 16 (.named .TBtb)) (.no)),(1,.val (.slice 16 (.named .TBtb)) (.no)),(5,.val (.int .i64) (.no))],[(.ret,[(4,.val (.bool) (.no))]),((.exit 0),[(4,.undef)])],L_same_Btbs_11⟩
def N132:FnK tab:=⟨[.val (.slice 16 (.named .TBtb)) (.no),.val (.slice 16 (.named .TBtb)) (.no)],Bool,fun a:Sl 16 (TBtb)×Sl 16 (TBtb)×Unit=>F_same_Btbs a.1 a.2.1,fun r:Bool=>(.val (.bool) r (.no),[.undef,.undef])⟩
def q132:Qt:=mtbl [(11,K132_11)]
def g133:=gx ⟨[0,1,4,5,10,20,31],[],[true],[(11,[(0,.any),(1,.any),(5,.any)]),(12,[(4,.any)]),(13,[(0,.any),(1,.any),(5,.any)])]⟩ Tryz.f27
def K133_11:MarkK tab:=⟨[(0,.val (.slice 4 (.int .u32)) (.no)),(1,.val (.slice 4 (.int .u32)) (.no)),(5,.val (.int .i64) (.no))],[(.ret,[(4,.val (.bool) (.no))]),((.exit 0),[(4,.undef)])],L_same_Words_11⟩
def N133:FnK tab:=⟨[.val (.slice 4 (.int .u32)) (.no),.val (.slice 4 (.int .u32)) (.no)],Bool,fun a:Sl 4 (W .u32)×Sl 4 (W .u32)×Unit=>F_same_Words a.1 a.2.1,fun r:Bool=>(.val (.bool) r (.no),[.undef,.undef])⟩
def q133:Qt:=mtbl [(11,K133_11)]
def g134:=gx ⟨[0,1,2,3,4],[],[true],[]⟩ Tryz.f17
def N134:FnK tab:=⟨[.val (.named .TPred) (.no),.val (.named .TPred) (.no)],Bool,fun a:TPred×TPred×Unit=>F_same_Pred a.1 a.2.1,fun r:Bool=>(.val (.bool) r (.no),[.undef,.undef])⟩
def t134:Tt:=tbl [(18,N131),(27,N133),(55,N132)]
def g135:=gx ⟨[0,1,2,3,4,5,27,94],[],[true],[]⟩ Tryz.f5
def N135:FnK tab:=⟨[.val (.named .TCore) (.no),.val (.named .TTick) (.no)],Bool,fun a:TCore×TTick×Unit=>F_law45_PlaceKeeps a.1 a.2.1,fun r:Bool=>(.val (.bool) r (.no),[.undef,.undef])⟩
def t135:Tt:=tbl [(6,N1),(7,N93),(8,N92),(12,N128),(15,N129),(16,N130),(17,N134),(18,N131)]
end
end Go.Proofs.YtkddkpmijhionaaGreatDoor
