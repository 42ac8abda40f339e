/- YtchpjkadpdajkaaGreatDoorTabs: the tables of functions and marks. No statement of the seat is proved here. -/
import Derived.Test.YtchpjkadpdajkaaGreatDoorTrees
import Derived.Test.YtchpjkadpdajkaaGreatDoorChecked
import Derived.Test.YtchpjkadpdajkaaGreatDoorA2G
set_option linter.unusedSimpArgs false
set_option linter.unusedVariables false
set_option maxRecDepth 100000
namespace Go.Proofs.YtchpjkadpdajkaaGreatDoor
open Go Go.A2
noncomputable section
abbrev Tt:=Nat→List (FnK tab)
abbrev Qt:=Nat→Option (MarkK tab)
def t0:Tt:=tbl []
def q0:Qt:=fun _=>none
def gx (x:FnX) (f:Func):AFn tab:=gOf Tryz.prog cx x f
abbrev OkN:=FnOk (X:=tab) Tryz.prog
abbrev Mo (t:Tt) (q:Qt) (g:AFn tab):=MarkOk (fnsC t) (markL q) g.keep fuel
def g1:=gx ⟨[0,2,3,10,17,20,27,34,37,40,43,46,49],[],[true],[]⟩ Tryz.f137
def N1:FnK tab:=⟨[.val (.int .i64) (.no)],W .i64,fun a:W .i64×Unit=>F_inst_Form a.1,fun r:W .i64=>(.val (.int .i64) r (.no),[.undef])⟩
def g2:=gx ⟨[0,1,4],[],[true],[]⟩ Tryz.f91
def N2:FnK tab:=⟨[.val (.int .i64) (.no),.val (.int .i64) (.no)],Bool,fun a:W .i64×W .i64×Unit=>F_inst_has a.1 a.2.1,fun r:Bool=>(.val (.bool) r (.no),[.undef,.undef])⟩
def t2:Tt:=tbl [(137,N1)]
def g3:=gx ⟨[0,1,4,5,6,16,24],[],[true],[]⟩ Tryz.f184
def N3:FnK tab:=⟨[.val (.int .i64) (.no),.val (.int .i64) (.no)],Bool,fun a:W .i64×W .i64×Unit=>F_inst_within a.1 a.2.1,fun r:Bool=>(.val (.bool) r (.no),[.undef,.undef])⟩
def g4:=gx ⟨[0,1,2,4,8,18,19,20,44,46,56],[],[true],[(11,[(1,.any),(18,.any),(19,.any)]),(12,[(1,.any),(2,.any)]),(13,[(1,.any),(18,.any),(19,.any)])]⟩ Tryz.f89
def K4_11:MarkK tab:=⟨[(1,.box (.named .TInst) (.no)),(18,.val (.arr 3 (.named .TS275)) (.no)),(19,.val (.int .i64) (.no))],[(.ret,[(1,.box (.named .TInst) (.no)),(2,.val (.int .i64) (.no))]),((.exit 0),[(1,.box (.named .TInst) (.no)),(2,.undef)])],L_inst_Right_11⟩
def N4:FnK tab:=⟨[.val (.named .TInst) (.no)],W .i64,fun a:TInst×Unit=>F_inst_Right a.1,fun r:W .i64=>(.val (.int .i64) r (.no),[.undef])⟩
def t4:Tt:=tbl [(91,N2),(137,N1),(184,N3)]
def q4:Qt:=mtbl [(11,K4_11)]
def g5:=gx ⟨[0,1,2,6],[],[true],[]⟩ Tryz.f218
def N5:FnK tab:=⟨[.val (.int .i64) (.no),.val (.int .i64) (.no),.val (.int .i64) (.no)],W .i64,fun a:W .i64×W .i64×W .i64×Unit=>F_bits_clamp a.1 a.2.1 a.2.2.1,fun r:W .i64=>(.val (.int .i64) r (.no),[.undef,.undef,.undef])⟩
def g6:=gx ⟨[0,2],[],[true],[]⟩ Tryz.f217
def N6:FnK tab:=⟨[.val (.int .i64) (.no)],W .u32,fun a:W .i64×Unit=>F_bits_ones a.1,fun r:W .u32=>(.val (.int .u32) r (.no),[.undef])⟩
def g7:=gx ⟨[0,1,4,5,12],[],[true,true],[]⟩ Tryz.f185
def N7:FnK tab:=⟨[.val (.int .i64) (.no),.val (.int .i64) (.no)],W .u32×W .i64,fun a:W .i64×W .i64×Unit=>F_bits_mask a.1 a.2.1,fun r:W .u32×W .i64=>(.tup [.val (.int .u32) r.1 (.no),.val (.int .i64) r.2 (.no)],[.undef,.undef])⟩
def t7:Tt:=tbl [(217,N6),(218,N5)]
def g8:=gx ⟨[0,1,2,3,8,9,10],[],[true],[]⟩ Tryz.f90
def N8:FnK tab:=⟨[.val (.int .u32) (.no),.val (.int .i64) (.no),.val (.int .i64) (.no),.val (.int .u32) (.no)],W .u32,fun a:W .u32×W .i64×W .i64×W .u32×Unit=>F_bits_Put a.1 a.2.1 a.2.2.1 a.2.2.2.1,fun r:W .u32=>(.val (.int .u32) r (.no),[.undef,.undef,.undef,.undef])⟩
def t8:Tt:=tbl [(185,N7)]
def g9:=gx ⟨[0,2,5],[],[true],[]⟩ Tryz.f92
def N9:FnK tab:=⟨[.val (.int .i64) (.no)],W .i64,fun a:W .i64×Unit=>F_inst_width a.1,fun r:W .i64=>(.val (.int .i64) r (.no),[.undef])⟩
def t9:Tt:=tbl [(137,N1)]
def g10:=gx ⟨[0,1,2,3,4,5,9,32],[],[true,true],[]⟩ Tryz.f24
def N10:FnK tab:=⟨[.val (.named .TInst) (.no)],W .u32×W .i64,fun a:TInst×Unit=>F_inst_Enc a.1,fun r:W .u32×W .i64=>(.tup [.val (.int .u32) r.1 (.no),.val (.int .i64) r.2 (.no)],[.undef])⟩
def t10:Tt:=tbl [(89,N4),(90,N8),(91,N2),(92,N9)]
def g11:=gx ⟨[0,1,2],[],[true],[]⟩ Tryz.f187
def N11:FnK tab:=⟨[.val (.named .TSeg) (.no)],W .i64,fun a:TSeg×Unit=>F_rom_end a.1,fun r:W .i64=>(.val (.int .i64) r (.no),[.undef])⟩
def g12:=gx ⟨[0,1,2,3,5,9,11,12,13,14,17,22,26],[],[true],[(13,[(3,.any),(11,.any),(12,.any),(13,.any)]),(14,[(2,.any)]),(15,[(3,.any),(11,.any),(12,.any),(13,.any)])]⟩ Tryz.f186
def K12_13:MarkK tab:=⟨[(3,.val (.int .i64) (.no)),(11,.val (.slice 32 (.named .TSeg)) (.no)),(12,.val (.int .i64) (.no)),(13,.val (.int .i64) (.no))],[(.ret,[(2,.val (.int .i64) (.no))]),((.exit 0),[(2,.undef)])],L_rom_Right_13⟩
def N12:FnK tab:=⟨[.val (.named .TImage) (.no)],W .i64,fun a:TImage×Unit=>F_rom_Right a.1,fun r:W .i64=>(.val (.int .i64) r (.no),[.undef])⟩
def t12:Tt:=tbl [(187,N11)]
def q12:Qt:=mtbl [(13,K12_13)]
def g13:=gx ⟨[0,1,3,4,5,6,7,9,20,24,29,30,31,32,38],[],[true,true],[(21,[(0,.any),(7,.any),(29,.any),(30,.any),(31,.any)]),(22,[(4,.any),(5,.any),(7,.any)]),(23,[(0,.any),(7,.any),(29,.any),(30,.any),(31,.any)])]⟩ Tryz.f93
def K13_21:MarkK tab:=⟨[(0,.val (.int .i64) (.no)),(7,.val (.slice 1 (.int .u8)) (.yes 0)),(29,.val (.slice 32 (.named .TSeg)) (.no)),(30,.val (.int .i64) (.no)),(31,.val (.int .i64) (.no))],[(.ret,[(4,.val (.slice 1 (.int .u8)) (.full)),(5,.val (.int .i64) (.no)),(7,.val (.slice 1 (.int .u8)) (.yes 0))]),((.exit 0),[(4,.undef),(5,.undef),(7,.val (.slice 1 (.int .u8)) (.yes 0))])],L_rom_Load_21⟩
def N13:FnK tab:=⟨[.val (.int .i64) (.no),.val (.named .TImage) (.no)],Sl 1 (W .u8)×W .i64,fun a:W .i64×TImage×Unit=>F_rom_Load a.1 a.2.1,fun r:Sl 1 (W .u8)×W .i64=>(.tup [.val (.slice 1 (.int .u8)) r.1 (.no),.val (.int .i64) r.2 (.no)],[.undef,.undef])⟩
def t13:Tt:=tbl [(186,N12),(187,N11)]
def q13:Qt:=mtbl [(21,K13_21)]
def g14:=gx ⟨[0,1,2,4,5,6,7,8,16],[],[true,true],[]⟩ Tryz.f25
def N14:FnK tab:=⟨[.val (.named .TImage) (.no),.val (.int .i64) (.no)],TMach×W .i64,fun a:TImage×W .i64×Unit=>F_step_New a.1 a.2.1,fun r:TMach×W .i64=>(.tup [.val (.named .TMach) r.1 (.no),.val (.int .i64) r.2 (.no)],[.undef,.undef])⟩
def t14:Tt:=tbl [(93,N13)]
def g15:=gx ⟨[0],[],[true],[]⟩ Tryz.f27
def N15:FnK tab:=⟨[],TConf,fun a:Unit=>F_core_Plain,fun r:TConf=>(.val (.named .TConf) r (.no),[])⟩
def g16:=gx ⟨[0,1,2],[],[true],[]⟩ Tryz.f189
def N16:FnK tab:=⟨[.val (.named .TConf) (.no)],Sl 24 (TBound),fun a:TConf×Unit=>F_core_bounds a.1,fun r:Sl 24 (TBound)=>(.val (.slice 24 (.named .TBound)) r (.no),[.undef])⟩
def g17:=gx ⟨[0,1,2],[],[true],[]⟩ Tryz.f190
def N17:FnK tab:=⟨[.val (.named .TBound) (.no)],Bool,fun a:TBound×Unit=>F_core_Conf_1 a.1,fun r:Bool=>(.val (.bool) r (.no),[.undef])⟩
def g18:=gx ⟨[0,1,4,5,7,8,9,16],[],[true],[(5,[(0,.any),(1,.any),(7,.any),(8,.any)]),(6,[(4,.any)]),(7,[(0,.any),(1,.any),(7,.any),(8,.any)])]⟩ Tryz.f256
def K18_5:MarkK tab:=⟨[(0,.val (.slice 24 (.named .TBound)) (.no)),(1,.fn 190 [] []),(7,.val (.int .i64) (.no)),(8,.val (.int .i64) (.no))],[(.ret,[(4,.val (.int .i64) (.no))]),((.exit 0),[(4,.undef)])],L_slices_IndexFunc_bound_of_core_Conf_1_5⟩
def N18:FnK tab:=⟨[.val (.slice 24 (.named .TBound)) (.no),.fn 190 [] []],W .i64,fun a:Sl 24 (TBound)×((Unit)×(Unit))×Unit=>F_slices_IndexFunc_bound_of_core_Conf_1 a.1,fun r:W .i64=>(.val (.int .i64) r (.no),[.undef,.undef])⟩
def t18:Tt:=tbl [(190,N17)]
def q18:Qt:=mtbl [(5,K18_5)]
def g19:=gx ⟨[0,1,4],[],[true],[]⟩ Tryz.f188
def N19:FnK tab:=⟨[.val (.slice 24 (.named .TBound)) (.no),.fn 190 [] []],Bool,fun a:Sl 24 (TBound)×((Unit)×(Unit))×Unit=>F_slices_ContainsFunc_bound_of_core_Conf_1 a.1,fun r:Bool=>(.val (.bool) r (.no),[.undef,.undef])⟩
def t19:Tt:=tbl [(256,N18)]
def g20:=gx ⟨[0,1,2,5],[],[true],[]⟩ Tryz.f94
def N20:FnK tab:=⟨[.val (.named .TConf) (.no)],W .i64,fun a:TConf×Unit=>F_core_Conf a.1,fun r:W .i64=>(.val (.int .i64) r (.no),[.undef])⟩
def t20:Tt:=tbl [(188,N19),(189,N16)]
def g21:=gx ⟨[0,2,3,10],[],[true],[]⟩ Tryz.f139
def N21:FnK tab:=⟨[.val (.int .i64) (.no)],W .u32,fun a:W .i64×Unit=>F_csr_Masked a.1,fun r:W .u32=>(.val (.int .u32) r (.no),[.undef])⟩
def g22:=gx ⟨[0,1,2,3,4,6,7,8,15],[],[true],[(5,[(1,.any),(6,.any),(7,.any)]),(6,[(1,.any),(2,.any)]),(7,[(1,.any),(6,.any),(7,.any)])]⟩ Tryz.f86
def K22_5:MarkK tab:=⟨[(1,.box (.named .TArch) (.no)),(6,.val (.arr 12 (.int .u32)) (.no)),(7,.val (.int .i64) (.no))],[(.ret,[(1,.box (.named .TArch) (.no)),(2,.val (.bool) (.no))]),((.exit 0),[(1,.box (.named .TArch) (.no)),(2,.undef)])],L_core_clean_5⟩
def N22:FnK tab:=⟨[.val (.named .TArch) (.no)],Bool,fun a:TArch×Unit=>F_core_clean a.1,fun r:Bool=>(.val (.bool) r (.no),[.undef])⟩
def t22:Tt:=tbl [(139,N21)]
def q22:Qt:=mtbl [(5,K22_5)]
def g23:=gx ⟨[0,1,2,3,24],[],[true],[]⟩ Tryz.f95
def N23:FnK tab:=⟨[.val (.named .TMach) (.no)],Bool,fun a:TMach×Unit=>F_core_right a.1,fun r:Bool=>(.val (.bool) r (.no),[.undef])⟩
def t23:Tt:=tbl [(86,N22)]
def g24:=gx ⟨[0,1,2],[],[true],[]⟩ Tryz.f96
def N24:FnK tab:=⟨[.val (.named .TMach) (.no)],TMach,fun a:TMach×Unit=>F_step_Copy a.1,fun r:TMach=>(.val (.named .TMach) r (.no),[.undef])⟩
def g25:=gx ⟨[0,2],[],[true],[]⟩ Tryz.f258
def N25:FnK tab:=⟨[.val (.int .i64) (.no)],W .i64,fun a:W .i64×Unit=>F_pht_clamp a.1,fun r:W .i64=>(.val (.int .i64) r (.no),[.undef])⟩
def g26:=gx ⟨[0,1,4,5,6,7,8,9,10,11,12,13],[],[true,true],[]⟩ Tryz.f304
def N26:FnK tab:=⟨[.val (.int .u64) (.no),.val (.int .u64) (.no)],W .u64×W .u64,fun a:W .u64×W .u64×Unit=>F_bits_Mul64 a.1 a.2.1,fun r:W .u64×W .u64=>(.tup [.val (.int .u64) r.1 (.no),.val (.int .u64) r.2 (.no)],[.undef,.undef])⟩
def g27:=gx ⟨[0,1,4,5,6,7,8,9],[],[true,true],[]⟩ Tryz.f259
def N27:FnK tab:=⟨[.val (.int .u64) (.no),.val (.int .u64) (.no)],W .u64×W .u64,fun a:W .u64×W .u64×Unit=>F_bits_Mul a.1 a.2.1,fun r:W .u64×W .u64=>(.tup [.val (.int .u64) r.1 (.no),.val (.int .u64) r.2 (.no)],[.undef,.undef])⟩
def t27:Tt:=tbl [(304,N26)]
def g28:=gx ⟨[0,1,4,5,6,7,8,10,26,37],[],[true],[(17,[(7,.any),(8,.any)]),(18,[(7,.any)]),(19,[(7,.any),(8,.any)])]⟩ Tryz.f257
def K28_17:MarkK tab:=⟨[(7,.val (.slice 1 (.int .u8)) (.yes 0)),(8,.val (.int .i64) (.no))],[((.exit 0),[(7,.val (.slice 1 (.int .u8)) (.yes 0))])],L_slices_Repeat_uint8_17⟩
def N28:FnK tab:=⟨[.val (.slice 1 (.int .u8)) (.no),.val (.int .i64) (.no)],Sl 1 (W .u8),fun a:Sl 1 (W .u8)×W .i64×Unit=>F_slices_Repeat_uint8 a.1 a.2.1,fun r:Sl 1 (W .u8)=>(.val (.slice 1 (.int .u8)) r (.no),[.undef,.undef])⟩
def t28:Tt:=tbl [(259,N27)]
def q28:Qt:=mtbl [(17,K28_17)]
def g29:=gx ⟨[0,2],[],[true],[]⟩ Tryz.f191
def N29:FnK tab:=⟨[.val (.int .i64) (.no)],Sl 1 (W .u8),fun a:W .i64×Unit=>F_pht_New a.1,fun r:Sl 1 (W .u8)=>(.val (.slice 1 (.int .u8)) r (.no),[.undef])⟩
def t29:Tt:=tbl [(257,N28),(258,N25)]
def g30:=gx ⟨[0,2],[],[true],[]⟩ Tryz.f192
def N30:FnK tab:=⟨[.val (.int .i64) (.no)],Sl 16 (TBtb),fun a:W .i64×Unit=>F_btb_New a.1,fun r:Sl 16 (TBtb)=>(.val (.slice 16 (.named .TBtb)) r (.no),[.undef])⟩
def g31:=gx ⟨[0,2],[],[true],[]⟩ Tryz.f193
def N31:FnK tab:=⟨[.val (.int .i64) (.no)],Sl 4 (W .u32),fun a:W .i64×Unit=>F_ras_New a.1,fun r:Sl 4 (W .u32)=>(.val (.slice 4 (.int .u32)) r (.no),[.undef])⟩
def g32:=gx ⟨[0,1,2],[],[true],[]⟩ Tryz.f97
def N32:FnK tab:=⟨[.val (.named .TConf) (.no)],TPred,fun a:TConf×Unit=>F_pred_New a.1,fun r:TPred=>(.val (.named .TPred) r (.no),[.undef])⟩
def t32:Tt:=tbl [(191,N29),(192,N30),(193,N31)]
def g33:=gx ⟨[0,2],[],[true],[]⟩ Tryz.f98
def N33:FnK tab:=⟨[.val (.int .i64) (.no)],Sl 24 (TTlb),fun a:W .i64×Unit=>F_tlb_New a.1,fun r:Sl 24 (TTlb)=>(.val (.slice 24 (.named .TTlb)) r (.no),[.undef])⟩
def g34:=gx ⟨[0,2],[],[true],[]⟩ Tryz.f99
def N34:FnK tab:=⟨[.val (.int .i64) (.no)],Sl 1 (W .u8),fun a:W .i64×Unit=>F_dep_New a.1,fun r:Sl 1 (W .u8)=>(.val (.slice 1 (.int .u8)) r (.no),[.undef])⟩
def g35:=gx ⟨[0,1,2,5],[],[true],[(7,[(0,.any),(1,.any),(2,.any)]),(8,[(0,.any),(1,.any)]),(9,[(0,.any),(1,.any),(2,.any)])]⟩ Tryz.f194
def K35_7:MarkK tab:=⟨[(0,.box (.arr 16 (.int .i64)) (.no)),(1,.box (.arr 16 (.int .i64)) (.no)),(2,.val (.int .i64) (.no))],[((.exit 0),[(0,.box (.arr 16 (.int .i64)) (.no)),(1,.box (.arr 16 (.int .i64)) (.no))])],L_rat_New_7⟩
def N35:FnK tab:=⟨[],Arr 16 (W .i64),fun a:Unit=>F_rat_New,fun r:Arr 16 (W .i64)=>(.val (.arr 16 (.int .i64)) r (.no),[])⟩
def q35:Qt:=mtbl [(7,K35_7)]
def g36:=gx ⟨[0,1,4,5,6,21,22,23],[],[true],[(11,[(1,.any),(4,.any),(5,.any),(21,.any),(22,.any)]),(12,[(4,.any),(5,.any)]),(13,[(1,.any),(4,.any),(5,.any),(21,.any),(22,.any)])]⟩ Tryz.f195
def K36_11:MarkK tab:=⟨[(1,.val (.int .i64) (.no)),(4,.box (.named .TFree) (.st [.yes 0,.no,.no])),(5,.box (.named .TFree) (.st [.yes 0,.no,.no])),(21,.val (.int .i64) (.no)),(22,.val (.int .i64) (.no))],[((.exit 0),[(4,.box (.named .TFree) (.st [.yes 0,.no,.no])),(5,.box (.named .TFree) (.st [.yes 0,.no,.no]))])],L_freel_New_11⟩
def N36:FnK tab:=⟨[.val (.int .i64) (.no),.val (.int .i64) (.no)],TFree,fun a:W .i64×W .i64×Unit=>F_freel_New a.1 a.2.1,fun r:TFree=>(.val (.named .TFree) r (.no),[.undef,.undef])⟩
def q36:Qt:=mtbl [(11,K36_11)]
def g37:=gx ⟨[0,2],[],[true],[]⟩ Tryz.f100
def N37:FnK tab:=⟨[.val (.int .i64) (.no)],TNames,fun a:W .i64×Unit=>F_rename_New a.1,fun r:TNames=>(.val (.named .TNames) r (.no),[.undef])⟩
def t37:Tt:=tbl [(194,N35),(195,N36)]
def g38:=gx ⟨[0,1,4,5,6,7,8,10,26,37],[],[true],[(17,[(7,.any),(8,.any)]),(18,[(7,.any)]),(19,[(7,.any),(8,.any)])]⟩ Tryz.f196
def K38_17:MarkK tab:=⟨[(7,.val (.slice 1 (.bool)) (.yes 0)),(8,.val (.int .i64) (.no))],[((.exit 0),[(7,.val (.slice 1 (.bool)) (.yes 0))])],L_slices_Repeat_bool_17⟩
def N38:FnK tab:=⟨[.val (.slice 1 (.bool)) (.no),.val (.int .i64) (.no)],Sl 1 (Bool),fun a:Sl 1 (Bool)×W .i64×Unit=>F_slices_Repeat_bool a.1 a.2.1,fun r:Sl 1 (Bool)=>(.val (.slice 1 (.bool)) r (.no),[.undef,.undef])⟩
def t38:Tt:=tbl [(259,N27)]
def q38:Qt:=mtbl [(17,K38_17)]
def g39:=gx ⟨[0,2],[],[true],[]⟩ Tryz.f101
def N39:FnK tab:=⟨[.val (.int .i64) (.no)],TPhys,fun a:W .i64×Unit=>F_prf_New a.1,fun r:TPhys=>(.val (.named .TPhys) r (.no),[.undef])⟩
def t39:Tt:=tbl [(196,N38)]
def N40:FnK tab:=cloneK 4 (.int .u32)
def N41:FnK tab:=cloneK 1 (.bool)
def g42:=gx ⟨[0,1,2,4],[],[true],[]⟩ Tryz.f198
def N42:FnK tab:=⟨[.val (.named .TPhys) (.no),.val (.int .i64) (.no)],Bool,fun a:TPhys×W .i64×Unit=>F_prf_has a.1 a.2.1,fun r:Bool=>(.val (.bool) r (.no),[.undef,.undef])⟩
def g43:=gx ⟨[0,1,2,3,6,7,17],[],[true],[]⟩ Tryz.f102
def N43:FnK tab:=⟨[.val (.named .TPhys) (.no),.val (.int .i64) (.no),.val (.int .u32) (.no)],TPhys,fun a:TPhys×W .i64×W .u32×Unit=>F_prf_Put a.1 a.2.1 a.2.2.1,fun r:TPhys=>(.val (.named .TPhys) r (.no),[.undef,.undef,.undef])⟩
def t43:Tt:=tbl [(144,N40),(197,N41),(198,N42)]
def g44:=gx ⟨[0,1,2,3,4,5,6,7,8,12,17,52],[],[true,true],[(27,[(3,.any),(4,.any),(7,.any),(8,.any)]),(28,[(4,.any),(7,.any)]),(29,[(3,.any),(4,.any),(7,.any),(8,.any)])]⟩ Tryz.f26
def K44_27:MarkK tab:=⟨[(3,.box (.named .TMach) (.no)),(4,.box (.named .TCore) (.st [.no,.no,.yes 0,.yes 0,.no,.no,.no,.yes 0,.no,.yes 0,.no,.no,.yes 0,.yes 0,.yes 0,.yes 0,.yes 0,.yes 0,.yes 0,.no,.no])),(7,.box (.named .TCore) (.st [.no,.no,.no,.no,.no,.no,.no,.no,.no,.yes 0,.no,.no,.yes 0,.yes 0,.yes 0,.yes 0,.yes 0,.yes 0,.no,.no,.no])),(8,.val (.int .i64) (.no))],[((.exit 0),[(4,.box (.named .TCore) (.st [.no,.no,.yes 0,.yes 0,.no,.no,.no,.yes 0,.no,.yes 0,.no,.no,.yes 0,.yes 0,.yes 0,.yes 0,.yes 0,.yes 0,.yes 0,.no,.no])),(7,.box (.named .TCore) (.st [.no,.no,.no,.no,.no,.no,.no,.no,.no,.yes 0,.no,.no,.yes 0,.yes 0,.yes 0,.yes 0,.yes 0,.yes 0,.no,.no,.no]))])],L_core_New_27⟩
def N44:FnK tab:=⟨[.val (.named .TConf) (.no),.val (.named .TMach) (.no)],TCore×W .i64,fun a:TConf×TMach×Unit=>F_core_New a.1 a.2.1,fun r:TCore×W .i64=>(.tup [.val (.named .TCore) r.1 (.no),.val (.int .i64) r.2 (.no)],[.undef,.undef])⟩
def t44:Tt:=tbl [(94,N20),(95,N23),(96,N24),(97,N32),(98,N33),(99,N34),(100,N37),(101,N39),(102,N43)]
def q44:Qt:=mtbl [(27,K44_27)]
def g45:=gx ⟨[0,1,2],[],[true],[]⟩ Tryz.f133
def N45:FnK tab:=⟨[.val (.named .TArch) (.no)],Bool,fun a:TArch×Unit=>F_csr_Kernel a.1,fun r:Bool=>(.val (.bool) r (.no),[.undef])⟩
def g46:=gx ⟨[0],[],[true],[]⟩ Tryz.f199
def N46:FnK tab:=⟨[],Arr 3 (TSource),fun a:Unit=>F_trap_sources,fun r:Arr 3 (TSource)=>(.val (.arr 3 (.named .TSource)) r (.no),[])⟩
def g47:=gx ⟨[0,1,2,3,5,14,22,23,24,30],[],[true],[(13,[(3,.any),(22,.any),(23,.any)]),(14,[(2,.any)]),(15,[(3,.any),(22,.any),(23,.any)])]⟩ Tryz.f103
def K47_13:MarkK tab:=⟨[(3,.val (.int .u32) (.no)),(22,.val (.arr 3 (.named .TSource)) (.no)),(23,.val (.int .i64) (.no))],[(.ret,[(2,.val (.int .i64) (.no))]),((.exit 0),[(2,.undef)])],L_trap_Pending_13⟩
def N47:FnK tab:=⟨[.val (.named .TArch) (.no)],W .i64,fun a:TArch×Unit=>F_trap_Pending a.1,fun r:W .i64=>(.val (.int .i64) r (.no),[.undef])⟩
def t47:Tt:=tbl [(133,N45),(199,N46)]
def q47:Qt:=mtbl [(13,K47_13)]
def g48:=gx ⟨[0,1,2,6,10],[],[true],[]⟩ Tryz.f140
def N48:FnK tab:=⟨[.val (.int .u32) (.no),.val (.int .u32) (.no),.val (.int .u32) (.no)],W .u32,fun a:W .u32×W .u32×W .u32×Unit=>F_trap_moved a.1 a.2.1 a.2.2.1,fun r:W .u32=>(.val (.int .u32) r (.no),[.undef,.undef,.undef])⟩
def g49:=gx ⟨[0,1,2,3,4,8,9],[],[true],[]⟩ Tryz.f60
def N49:FnK tab:=⟨[.val (.named .TArch) (.no),.val (.int .i64) (.no),.val (.int .u32) (.no),.val (.int .u32) (.no)],TArch,fun a:TArch×W .i64×W .u32×W .u32×Unit=>F_trap_Take a.1 a.2.1 a.2.2.1 a.2.2.2.1,fun r:TArch=>(.val (.named .TArch) r (.no),[.undef,.undef,.undef,.undef])⟩
def t49:Tt:=tbl [(139,N21),(140,N48)]
def g50:=gx ⟨[0,1,2,3,4,5,8],[],[true],[]⟩ Tryz.f61
def N50:FnK tab:=⟨[.val (.named .TArch) (.no),.val (.named .TArch) (.no),.val (.int .i64) (.no),.val (.int .u32) (.no)],TEvent,fun a:TArch×TArch×W .i64×W .u32×Unit=>F_retire_trapped a.1 a.2.1 a.2.2.1 a.2.2.2.1,fun r:TEvent=>(.val (.named .TEvent) r (.no),[.undef,.undef,.undef,.undef])⟩
def g51:=gx ⟨[0,1,2,3,4,16],[],[true,true],[]⟩ Tryz.f260
def N51:FnK tab:=⟨[.val (.named .TCore) (.no)],TSlot×Bool,fun a:TCore×Unit=>F_flush_oldest a.1,fun r:TSlot×Bool=>(.tup [.val (.named .TSlot) r.1 (.no),.val (.bool) r.2 (.no)],[.undef])⟩
def g52:=gx ⟨[0,2,3,9],[0],[],[(3,[(0,.any),(2,.any),(3,.any)]),(4,[(0,.any)]),(5,[(0,.any),(2,.any),(3,.any)])]⟩ Tryz.f350
def K52_3:MarkK tab:=⟨[(0,.val (.slice 248 (.named .TRob)) (.yes 0)),(2,.val (.int .i64) (.no)),(3,.val (.int .i64) (.no))],[((.exit 0),[(0,.val (.slice 248 (.named .TRob)) (.yes 0))])],L_slices_Reverse_Rob_3⟩
def N52:FnK tab:=⟨[.val (.slice 248 (.named .TRob)) (.yes 0)],Sl 248 (TRob),fun a:Sl 248 (TRob)×Unit=>F_slices_Reverse_Rob a.1,fun r:Sl 248 (TRob)=>(.tup [],[.val (.slice 248 (.named .TRob)) r (.yes 0)])⟩
def q52:Qt:=mtbl [(3,K52_3)]
def g53:=gx ⟨[0,1,4,5,6,7,9,10,11,12,13,20],[],[true,true],[(7,[(1,.any),(6,.own),(7,.own),(10,.any),(11,.any),(12,.any)]),(8,[(6,.any),(7,.any)]),(9,[(1,.any),(6,.own),(7,.own),(10,.any),(11,.any),(12,.any)])]⟩ Tryz.f305
def K53_7:MarkK tab:=⟨[(1,.val (.int .u64) (.no)),(6,.val (.slice 248 (.named .TRob)) (.yes 0)),(7,.val (.slice 248 (.named .TRob)) (.yes 0)),(10,.val (.slice 248 (.named .TRob)) (.no)),(11,.val (.int .i64) (.no)),(12,.val (.int .i64) (.no))],[((.exit 0),[(6,.val (.slice 248 (.named .TRob)) (.yes 0)),(7,.val (.slice 248 (.named .TRob)) (.yes 0))])],L_rob_Cut_7⟩
def N53:FnK tab:=⟨[.val (.slice 248 (.named .TRob)) (.no),.val (.int .u64) (.no)],Sl 248 (TRob)×Sl 248 (TRob),fun a:Sl 248 (TRob)×W .u64×Unit=>F_rob_Cut a.1 a.2.1,fun r:Sl 248 (TRob)×Sl 248 (TRob)=>(.tup [.val (.slice 248 (.named .TRob)) r.1 (.no),.val (.slice 248 (.named .TRob)) r.2 (.no)],[.undef,.undef])⟩
def t53:Tt:=tbl [(350,N52)]
def q53:Qt:=mtbl [(7,K53_7)]
def g54:=gx ⟨[0,1,2],[],[true],[]⟩ Tryz.f232
def N54:FnK tab:=⟨[.val (.named .TUop) (.no)],Bool,fun a:TUop×Unit=>F_rename_writes a.1,fun r:Bool=>(.val (.bool) r (.no),[.undef])⟩
def g55:=gx ⟨[0,2],[],[true],[]⟩ Tryz.f287
def N55:FnK tab:=⟨[.val (.int .i64) (.no)],Bool,fun a:W .i64×Unit=>F_rat_is a.1,fun r:Bool=>(.val (.bool) r (.no),[.undef])⟩
def g56:=gx ⟨[0,1,2,3,6,8],[],[true],[]⟩ Tryz.f233
def N56:FnK tab:=⟨[.val (.arr 16 (.int .i64)) (.no),.val (.int .i64) (.no),.val (.int .i64) (.no)],Arr 16 (W .i64),fun a:Arr 16 (W .i64)×W .i64×W .i64×Unit=>F_rat_Set a.1 a.2.1 a.2.2.1,fun r:Arr 16 (W .i64)=>(.val (.arr 16 (.int .i64)) r (.no),[.undef,.undef,.undef])⟩
def t56:Tt:=tbl [(287,N55)]
def g57:=gx ⟨[0,1,2,3],[],[true],[]⟩ Tryz.f251
def N57:FnK tab:=⟨[.val (.named .TFree) (.no)],Bool,fun a:TFree×Unit=>F_freel_ring_sound a.1,fun r:Bool=>(.val (.bool) r (.no),[.undef])⟩
def g58:=gx ⟨[0,1,2,4,5],[],[true],[]⟩ Tryz.f252
def N58:FnK tab:=⟨[.val (.named .TFree) (.no),.val (.int .i64) (.no)],W .i64,fun a:TFree×W .i64×Unit=>F_freel_ring_at a.1 a.2.1,fun r:W .i64=>(.val (.int .i64) r (.no),[.undef,.undef])⟩
def g59:=gx ⟨[0,1,2,3,6],[],[true],[]⟩ Tryz.f288
def N59:FnK tab:=⟨[.val (.named .TFree) (.no),.val (.int .i64) (.no),.val (.int .i64) (.no)],TFree,fun a:TFree×W .i64×W .i64×Unit=>F_freel_laid a.1 a.2.1 a.2.2.1,fun r:TFree=>(.val (.named .TFree) r (.no),[.undef,.undef,.undef])⟩
def g60:=gx ⟨[0,1,2,4,5,16],[],[true],[]⟩ Tryz.f351
def N60:FnK tab:=⟨[.val (.named .TFree) (.no),.val (.int .i64) (.no)],TFree,fun a:TFree×W .i64×Unit=>F_freel_Back a.1 a.2.1,fun r:TFree=>(.val (.named .TFree) r (.no),[.undef,.undef])⟩
def t60:Tt:=tbl [(251,N57),(252,N58),(288,N59)]
def g61:=gx ⟨[0,1,2,3,4,12],[],[true],[]⟩ Tryz.f306
def N61:FnK tab:=⟨[.val (.named .TNames) (.no),.val (.named .TRen) (.no)],TNames,fun a:TNames×TRen×Unit=>F_rename_Undo a.1 a.2.1,fun r:TNames=>(.val (.named .TNames) r (.no),[.undef,.undef])⟩
def t61:Tt:=tbl [(232,N54),(233,N56),(351,N60)]
def N62:FnK tab:=cloneK 224 (.named .TIq)
def g63:=gx ⟨[0,1,2,3],[],[true],[]⟩ Tryz.f354
def N63:FnK tab:=⟨[.val (.named .TIq) (.no),.rptr (.int .u64)],Bool,fun a:TIq×W .u64×Unit=>F_iq_Cut_1 a.1 a.2.1,fun r:Bool=>(.val (.bool) r (.no),[.undef,.undef])⟩
def g64:=gx ⟨[0,1,4,5,7,8,9,16],[],[true],[(5,[(0,.any),(1,.any),(7,.any),(8,.any)]),(6,[(4,.any)]),(7,[(0,.any),(1,.any),(7,.any),(8,.any)])]⟩ Tryz.f379
def K64_5:MarkK tab:=⟨[(0,.val (.slice 224 (.named .TIq)) (.no)),(1,.fn 354 [] [.rptr (.int .u64)]),(7,.val (.int .i64) (.no)),(8,.val (.int .i64) (.no))],[(.ret,[(4,.val (.int .i64) (.no))]),((.exit 0),[(4,.undef)])],L_slices_IndexFunc_Iq_of_iq_Cut_1_5⟩
def N64:FnK tab:=⟨[.val (.slice 224 (.named .TIq)) (.no),.fn 354 [] [.rptr (.int .u64)]],W .i64,fun a:Sl 224 (TIq)×((Unit)×(W .u64×Unit))×Unit=>F_slices_IndexFunc_Iq_of_iq_Cut_1 a.1 a.2.1.2.1,fun r:W .i64=>(.val (.int .i64) r (.no),[.undef,.undef])⟩
def t64:Tt:=tbl [(354,N63)]
def q64:Qt:=mtbl [(5,K64_5)]
def g65:=gx ⟨[0,1,4,5,6,7,12,19,29],[],[true],[(13,[(0,.any),(1,.any),(5,.any),(6,.any)]),(14,[(0,.any),(5,.any)]),(15,[(0,.any),(1,.any),(5,.any),(6,.any)])]⟩ Tryz.f352
def K65_13:MarkK tab:=⟨[(0,.val (.slice 224 (.named .TIq)) (.yes 0)),(1,.fn 354 [] [.rptr (.int .u64)]),(5,.val (.int .i64) (.no)),(6,.val (.int .i64) (.no))],[((.exit 0),[(0,.val (.slice 224 (.named .TIq)) (.yes 0)),(5,.val (.int .i64) (.no))])],L_slices_DeleteFunc_Iq_of_iq_Cut_1_13⟩
def N65:FnK tab:=⟨[.val (.slice 224 (.named .TIq)) (.yes 0),.fn 354 [] [.rptr (.int .u64)]],Sl 224 (TIq),fun a:Sl 224 (TIq)×((Unit)×(W .u64×Unit))×Unit=>F_slices_DeleteFunc_Iq_of_iq_Cut_1 a.1 a.2.1.2.1,fun r:Sl 224 (TIq)=>(.val (.slice 224 (.named .TIq)) r (.no),[.undef,.undef])⟩
def t65:Tt:=tbl [(354,N63),(379,N64)]
def q65:Qt:=mtbl [(13,K65_13)]
def g66:=gx ⟨[0,1,3,4],[],[true],[]⟩ Tryz.f307
def N66:FnK tab:=⟨[.val (.slice 224 (.named .TIq)) (.no),.val (.int .u64) (.no)],Sl 224 (TIq),fun a:Sl 224 (TIq)×W .u64×Unit=>F_iq_Cut a.1 a.2.1,fun r:Sl 224 (TIq)=>(.val (.slice 224 (.named .TIq)) r (.no),[.undef,.undef])⟩
def t66:Tt:=tbl [(352,N65),(353,N62)]
def N67:FnK tab:=cloneK 48 (.named .TLq)
def g68:=gx ⟨[0,1,2,3],[],[true],[]⟩ Tryz.f356
def N68:FnK tab:=⟨[.val (.named .TLq) (.no),.rptr (.int .u64)],Bool,fun a:TLq×W .u64×Unit=>F_lq_Cut_1 a.1 a.2.1,fun r:Bool=>(.val (.bool) r (.no),[.undef,.undef])⟩
def g69:=gx ⟨[0,1,4,5,7,8,9,16],[],[true],[(5,[(0,.any),(1,.any),(7,.any),(8,.any)]),(6,[(4,.any)]),(7,[(0,.any),(1,.any),(7,.any),(8,.any)])]⟩ Tryz.f203
def K69_5:MarkK tab:=⟨[(0,.val (.slice 48 (.named .TLq)) (.no)),(1,.fn 356 [] [.rptr (.int .u64)]),(7,.val (.int .i64) (.no)),(8,.val (.int .i64) (.no))],[(.ret,[(4,.val (.int .i64) (.no))]),((.exit 0),[(4,.undef)])],L_slices_IndexFunc_Lq_of_lq_Cut_1_5⟩
def N69:FnK tab:=⟨[.val (.slice 48 (.named .TLq)) (.no),.fn 356 [] [.rptr (.int .u64)]],W .i64,fun a:Sl 48 (TLq)×((Unit)×(W .u64×Unit))×Unit=>F_slices_IndexFunc_Lq_of_lq_Cut_1 a.1 a.2.1.2.1,fun r:W .i64=>(.val (.int .i64) r (.no),[.undef,.undef])⟩
def t69:Tt:=tbl [(356,N68)]
def q69:Qt:=mtbl [(5,K69_5)]
def g70:=gx ⟨[0,1,4,5,6,7,12,19,29],[],[true],[(13,[(0,.any),(1,.any),(5,.any),(6,.any)]),(14,[(0,.any),(5,.any)]),(15,[(0,.any),(1,.any),(5,.any),(6,.any)])]⟩ Tryz.f355
def K70_13:MarkK tab:=⟨[(0,.val (.slice 48 (.named .TLq)) (.yes 0)),(1,.fn 356 [] [.rptr (.int .u64)]),(5,.val (.int .i64) (.no)),(6,.val (.int .i64) (.no))],[((.exit 0),[(0,.val (.slice 48 (.named .TLq)) (.yes 0)),(5,.val (.int .i64) (.no))])],L_slices_DeleteFunc_Lq_of_lq_Cut_1_13⟩
def N70:FnK tab:=⟨[.val (.slice 48 (.named .TLq)) (.yes 0),.fn 356 [] [.rptr (.int .u64)]],Sl 48 (TLq),fun a:Sl 48 (TLq)×((Unit)×(W .u64×Unit))×Unit=>F_slices_DeleteFunc_Lq_of_lq_Cut_1 a.1 a.2.1.2.1,fun r:Sl 48 (TLq)=>(.val (.slice 48 (.named .TLq)) r (.no),[.undef,.undef])⟩
def t70:Tt:=tbl [(203,N69),(356,N68)]
def q70:Qt:=mtbl [(13,K70_13)]
def g71:=gx ⟨[0,1,3,4],[],[true],[]⟩ Tryz.f308
def N71:FnK tab:=⟨[.val (.slice 48 (.named .TLq)) (.no),.val (.int .u64) (.no)],Sl 48 (TLq),fun a:Sl 48 (TLq)×W .u64×Unit=>F_lq_Cut a.1 a.2.1,fun r:Sl 48 (TLq)=>(.val (.slice 48 (.named .TLq)) r (.no),[.undef,.undef])⟩
def t71:Tt:=tbl [(314,N67),(355,N70)]
def N72:FnK tab:=cloneK 32 (.named .TSq)
def g73:=gx ⟨[0,1,2,3],[],[true],[]⟩ Tryz.f358
def N73:FnK tab:=⟨[.val (.named .TSq) (.no),.rptr (.int .u64)],Bool,fun a:TSq×W .u64×Unit=>F_sq_Cut_1 a.1 a.2.1,fun r:Bool=>(.val (.bool) r (.no),[.undef,.undef])⟩
def g74:=gx ⟨[0,1,4,5,7,8,9,16],[],[true],[(5,[(0,.any),(1,.any),(7,.any),(8,.any)]),(6,[(4,.any)]),(7,[(0,.any),(1,.any),(7,.any),(8,.any)])]⟩ Tryz.f380
def K74_5:MarkK tab:=⟨[(0,.val (.slice 32 (.named .TSq)) (.no)),(1,.fn 358 [] [.rptr (.int .u64)]),(7,.val (.int .i64) (.no)),(8,.val (.int .i64) (.no))],[(.ret,[(4,.val (.int .i64) (.no))]),((.exit 0),[(4,.undef)])],L_slices_IndexFunc_Sq_of_sq_Cut_1_5⟩
def N74:FnK tab:=⟨[.val (.slice 32 (.named .TSq)) (.no),.fn 358 [] [.rptr (.int .u64)]],W .i64,fun a:Sl 32 (TSq)×((Unit)×(W .u64×Unit))×Unit=>F_slices_IndexFunc_Sq_of_sq_Cut_1 a.1 a.2.1.2.1,fun r:W .i64=>(.val (.int .i64) r (.no),[.undef,.undef])⟩
def t74:Tt:=tbl [(358,N73)]
def q74:Qt:=mtbl [(5,K74_5)]
def g75:=gx ⟨[0,1,4,5,6,7,12,19,29],[],[true],[(13,[(0,.any),(1,.any),(5,.any),(6,.any)]),(14,[(0,.any),(5,.any)]),(15,[(0,.any),(1,.any),(5,.any),(6,.any)])]⟩ Tryz.f357
def K75_13:MarkK tab:=⟨[(0,.val (.slice 32 (.named .TSq)) (.yes 0)),(1,.fn 358 [] [.rptr (.int .u64)]),(5,.val (.int .i64) (.no)),(6,.val (.int .i64) (.no))],[((.exit 0),[(0,.val (.slice 32 (.named .TSq)) (.yes 0)),(5,.val (.int .i64) (.no))])],L_slices_DeleteFunc_Sq_of_sq_Cut_1_13⟩
def N75:FnK tab:=⟨[.val (.slice 32 (.named .TSq)) (.yes 0),.fn 358 [] [.rptr (.int .u64)]],Sl 32 (TSq),fun a:Sl 32 (TSq)×((Unit)×(W .u64×Unit))×Unit=>F_slices_DeleteFunc_Sq_of_sq_Cut_1 a.1 a.2.1.2.1,fun r:Sl 32 (TSq)=>(.val (.slice 32 (.named .TSq)) r (.no),[.undef,.undef])⟩
def t75:Tt:=tbl [(358,N73),(380,N74)]
def q75:Qt:=mtbl [(13,K75_13)]
def g76:=gx ⟨[0,1,3,4],[],[true],[]⟩ Tryz.f309
def N76:FnK tab:=⟨[.val (.slice 32 (.named .TSq)) (.no),.val (.int .u64) (.no)],Sl 32 (TSq),fun a:Sl 32 (TSq)×W .u64×Unit=>F_sq_Cut a.1 a.2.1,fun r:Sl 32 (TSq)=>(.val (.slice 32 (.named .TSq)) r (.no),[.undef,.undef])⟩
def t76:Tt:=tbl [(313,N72),(357,N75)]
def g77:=gx ⟨[0,1,4,5,7,8,9,10,11,18],[],[true],[(7,[(1,.any),(5,.own),(8,.any),(9,.any),(10,.any)]),(8,[(5,.any)]),(9,[(1,.any),(5,.own),(8,.any),(9,.any),(10,.any)])]⟩ Tryz.f310
def K77_7:MarkK tab:=⟨[(1,.val (.int .u64) (.no)),(5,.val (.slice 256 (.named .TFlight)) (.yes 0)),(8,.val (.slice 256 (.named .TFlight)) (.no)),(9,.val (.int .i64) (.no)),(10,.val (.int .i64) (.no))],[((.exit 0),[(5,.val (.slice 256 (.named .TFlight)) (.yes 0))])],L_unit_Cut_7⟩
def N77:FnK tab:=⟨[.val (.slice 256 (.named .TFlight)) (.no),.val (.int .u64) (.no)],Sl 256 (TFlight),fun a:Sl 256 (TFlight)×W .u64×Unit=>F_unit_Cut a.1 a.2.1,fun r:Sl 256 (TFlight)=>(.val (.slice 256 (.named .TFlight)) r (.no),[.undef,.undef])⟩
def q77:Qt:=mtbl [(7,K77_7)]
def g78:=gx ⟨[0,1,2,3,6,7,8,9,10,12,20,21,22,23],[],[true,true],[(9,[(1,.any),(2,.any),(3,.any),(6,.any),(8,.any),(10,.own),(20,.any),(21,.any),(22,.any)]),(10,[(1,.any),(2,.any),(3,.any),(6,.any),(8,.any),(10,.any)]),(11,[(1,.any),(2,.any),(3,.any),(6,.any),(8,.any),(10,.own),(20,.any),(21,.any),(22,.any)])]⟩ Tryz.f261
def K78_9:MarkK tab:=⟨[(1,.val (.int .u64) (.no)),(2,.val (.int .u32) (.no)),(3,.box (.named .TCore) (.no)),(6,.box (.named .TCore) (.st [.no,.no,.yes 0,.yes 0,.no,.no,.no,.yes 0,.no,.yes 0,.no,.no,.yes 0,.yes 0,.yes 0,.yes 0,.yes 0,.yes 0,.yes 0,.no,.no])),(8,.val (.slice 248 (.named .TRob)) (.no)),(10,.val (.slice 32 (.named .TNote)) (.yes 0)),(20,.val (.slice 248 (.named .TRob)) (.no)),(21,.val (.int .i64) (.no)),(22,.val (.int .i64) (.no))],[((.exit 0),[(1,.val (.int .u64) (.no)),(2,.val (.int .u32) (.no)),(3,.box (.named .TCore) (.no)),(6,.box (.named .TCore) (.st [.no,.no,.yes 0,.yes 0,.no,.no,.no,.yes 0,.no,.yes 0,.no,.no,.yes 0,.yes 0,.yes 0,.yes 0,.yes 0,.yes 0,.yes 0,.no,.no])),(8,.val (.slice 248 (.named .TRob)) (.no)),(10,.val (.slice 32 (.named .TNote)) (.yes 0))])],L_flush_After_9⟩
def N78:FnK tab:=⟨[.val (.named .TCore) (.no),.val (.int .u64) (.no),.val (.int .u32) (.no)],TCore×Sl 32 (TNote),fun a:TCore×W .u64×W .u32×Unit=>F_flush_After a.1 a.2.1 a.2.2.1,fun r:TCore×Sl 32 (TNote)=>(.tup [.val (.named .TCore) r.1 (.no),.val (.slice 32 (.named .TNote)) r.2 (.no)],[.undef,.undef,.undef])⟩
def t78:Tt:=tbl [(305,N53),(306,N61),(307,N66),(308,N71),(309,N76),(310,N77)]
def q78:Qt:=mtbl [(9,K78_9)]
def g79:=gx ⟨[0,1,4,5],[],[true],[]⟩ Tryz.f311
def N79:FnK tab:=⟨[.val (.slice 4 (.int .u32)) (.no),.val (.int .i64) (.no)],W .i64,fun a:Sl 4 (W .u32)×W .i64×Unit=>F_ras_place a.1 a.2.1,fun r:W .i64=>(.val (.int .i64) r (.no),[.undef,.undef])⟩
def g80:=gx ⟨[0,1,2,6],[],[true],[]⟩ Tryz.f312
def N80:FnK tab:=⟨[.val (.slice 4 (.int .u32)) (.no),.val (.int .i64) (.no),.val (.int .u32) (.no)],Sl 4 (W .u32),fun a:Sl 4 (W .u32)×W .i64×W .u32×Unit=>F_ras_with a.1 a.2.1 a.2.2.1,fun r:Sl 4 (W .u32)=>(.val (.slice 4 (.int .u32)) r (.no),[.undef,.undef,.undef])⟩
def t80:Tt:=tbl [(144,N40)]
def g81:=gx ⟨[0,1,2,6,7,8,11],[],[true,true],[]⟩ Tryz.f262
def N81:FnK tab:=⟨[.val (.slice 4 (.int .u32)) (.no),.val (.int .i64) (.no),.val (.int .u32) (.no)],Sl 4 (W .u32)×W .i64,fun a:Sl 4 (W .u32)×W .i64×W .u32×Unit=>F_ras_Back a.1 a.2.1 a.2.2.1,fun r:Sl 4 (W .u32)×W .i64=>(.tup [.val (.slice 4 (.int .u32)) r.1 (.no),.val (.int .i64) r.2 (.no)],[.undef,.undef,.undef])⟩
def t81:Tt:=tbl [(311,N79),(312,N80)]
def g82:=gx ⟨[0,1,2,4,5,6,7,8,20],[],[true,true],[]⟩ Tryz.f205
def N82:FnK tab:=⟨[.val (.named .TCore) (.no),.val (.int .u32) (.no)],TCore×Sl 32 (TNote),fun a:TCore×W .u32×Unit=>F_flush_All a.1 a.2.1,fun r:TCore×Sl 32 (TNote)=>(.tup [.val (.named .TCore) r.1 (.no),.val (.slice 32 (.named .TNote)) r.2 (.no)],[.undef,.undef])⟩
def t82:Tt:=tbl [(260,N51),(261,N78),(262,N81)]
def g83:=gx ⟨[0,2,3],[0],[],[]⟩ Tryz.f110
def N83:FnK tab:=⟨[.box (.named .TStage) (.st [.no,.no,.no,.no,.yes 0,.yes 0])],TStage,fun a:TStage×Unit=>F_retire_stage_flush a.1,fun r:TStage=>(.tup [],[.box 0 (.named .TStage) r (.st [.no,.no,.no,.no,.yes 0,.yes 0])])⟩
def t83:Tt:=tbl [(205,N82)]
def g84:=gx ⟨[0,1,2,3,7],[0],[],[]⟩ Tryz.f111
def N84:FnK tab:=⟨[.box (.named .TStage) (.st [.no,.no,.no,.no,.yes 0,.yes 0]),.val (.int .i64) (.no),.val (.int .u32) (.no),.val (.named .TEvent) (.no)],TStage,fun a:TStage×W .i64×W .u32×TEvent×Unit=>F_retire_stage_trap a.1 a.2.1 a.2.2.1 a.2.2.2.1,fun r:TStage=>(.tup [],[.box 0 (.named .TStage) r (.st [.no,.no,.no,.no,.yes 0,.yes 0]),.undef,.undef,.undef])⟩
def t84:Tt:=tbl [(60,N49),(110,N83)]
def g85:=gx ⟨[0,1,2,6],[0],[],[]⟩ Tryz.f104
def N85:FnK tab:=⟨[.box (.named .TStage) (.st [.no,.no,.no,.no,.yes 0,.yes 0]),.val (.int .i64) (.no),.val (.int .u32) (.no)],TStage,fun a:TStage×W .i64×W .u32×Unit=>F_retire_stage_bare a.1 a.2.1 a.2.2.1,fun r:TStage=>(.tup [],[.box 0 (.named .TStage) r (.st [.no,.no,.no,.no,.yes 0,.yes 0]),.undef,.undef])⟩
def t85:Tt:=tbl [(60,N49),(61,N50),(111,N84)]
def g86:=gx ⟨[0,1,2,4,5],[],[true],[]⟩ Tryz.f105
def N86:FnK tab:=⟨[.val (.named .TArch) (.no),.val (.int .u32) (.no)],Bool,fun a:TArch×W .u32×Unit=>F_trap_Stops a.1 a.2.1,fun r:Bool=>(.val (.bool) r (.no),[.undef,.undef])⟩
def t86:Tt:=tbl [(133,N45)]
def g87:=gx ⟨[0,1,2],[],[true],[]⟩ Tryz.f200
def N87:FnK tab:=⟨[.val (.named .TRob) (.no)],Bool,fun a:TRob×Unit=>F_rob_may a.1,fun r:Bool=>(.val (.bool) r (.no),[.undef])⟩
def g88:=gx ⟨[0,2,3,4,5,6,7,8,9,15,19],[],[true],[(7,[(3,.any),(6,.any),(7,.any),(8,.any)]),(8,[(3,.any)]),(9,[(3,.any),(6,.any),(7,.any),(8,.any)])]⟩ Tryz.f106
def K88_7:MarkK tab:=⟨[(3,.val (.int .i64) (.no)),(6,.val (.slice 248 (.named .TRob)) (.no)),(7,.val (.int .i64) (.no)),(8,.val (.int .i64) (.no))],[((.exit 0),[(3,.val (.int .i64) (.no))])],L_rob_Ready_7⟩
def N88:FnK tab:=⟨[.val (.slice 248 (.named .TRob)) (.no)],W .i64,fun a:Sl 248 (TRob)×Unit=>F_rob_Ready a.1,fun r:W .i64=>(.val (.int .i64) r (.no),[.undef])⟩
def t88:Tt:=tbl [(200,N87)]
def q88:Qt:=mtbl [(7,K88_7)]
def g89:=gx ⟨[0,1,2],[],[true],[]⟩ Tryz.f201
def N89:FnK tab:=⟨[.val (.named .TRob) (.no)],Bool,fun a:TRob×Unit=>F_retire_stage_front_1 a.1,fun r:Bool=>(.val (.bool) r (.no),[.undef])⟩
def g90:=gx ⟨[0,1,4,5,7,8,9,16],[],[true],[(5,[(0,.any),(1,.any),(7,.any),(8,.any)]),(6,[(4,.any)]),(7,[(0,.any),(1,.any),(7,.any),(8,.any)])]⟩ Tryz.f46
def K90_5:MarkK tab:=⟨[(0,.val (.slice 248 (.named .TRob)) (.no)),(1,.fn 201 [] []),(7,.val (.int .i64) (.no)),(8,.val (.int .i64) (.no))],[(.ret,[(4,.val (.int .i64) (.no))]),((.exit 0),[(4,.undef)])],L_slices_IndexFunc_Rob_of_retire_stage_front_1_5⟩
def N90:FnK tab:=⟨[.val (.slice 248 (.named .TRob)) (.no),.fn 201 [] []],W .i64,fun a:Sl 248 (TRob)×((Unit)×(Unit))×Unit=>F_slices_IndexFunc_Rob_of_retire_stage_front_1 a.1,fun r:W .i64=>(.val (.int .i64) r (.no),[.undef,.undef])⟩
def t90:Tt:=tbl [(201,N89)]
def q90:Qt:=mtbl [(5,K90_5)]
def g91:=gx ⟨[0,2,3],[0],[true],[]⟩ Tryz.f107
def N91:FnK tab:=⟨[.box (.named .TStage) (.st [.no,.no,.no,.no,.yes 0,.yes 0])],Sl 248 (TRob)×TStage,fun a:TStage×Unit=>F_retire_stage_front a.1,fun r:Sl 248 (TRob)×TStage=>(.val (.slice 248 (.named .TRob)) r.1 (.no),[.box 0 (.named .TStage) r.2 (.st [.no,.no,.no,.no,.yes 0,.yes 0])])⟩
def t91:Tt:=tbl [(46,N90)]
def g92:=gx ⟨[0,1,2],[],[true],[]⟩ Tryz.f108
def N92:FnK tab:=⟨[.val (.named .TRob) (.no)],Bool,fun a:TRob×Unit=>F_retire_stage_boundary_1 a.1,fun r:Bool=>(.val (.bool) r (.no),[.undef])⟩
def g93:=gx ⟨[0,1,4,5,7,8,9,16],[],[true],[(5,[(0,.any),(1,.any),(7,.any),(8,.any)]),(6,[(4,.any)]),(7,[(0,.any),(1,.any),(7,.any),(8,.any)])]⟩ Tryz.f46
def K93_5:MarkK tab:=⟨[(0,.val (.slice 248 (.named .TRob)) (.no)),(1,.fn 108 [] []),(7,.val (.int .i64) (.no)),(8,.val (.int .i64) (.no))],[(.ret,[(4,.val (.int .i64) (.no))]),((.exit 0),[(4,.undef)])],L_slices_IndexFunc_Rob_of_retire_stage_boundary_1_5⟩
def N93:FnK tab:=⟨[.val (.slice 248 (.named .TRob)) (.no),.fn 108 [] []],W .i64,fun a:Sl 248 (TRob)×((Unit)×(Unit))×Unit=>F_slices_IndexFunc_Rob_of_retire_stage_boundary_1 a.1,fun r:W .i64=>(.val (.int .i64) r (.no),[.undef,.undef])⟩
def t93:Tt:=tbl [(108,N92)]
def q93:Qt:=mtbl [(5,K93_5)]
def g94:=gx ⟨[0,1,2,3,4,9],[],[true],[]⟩ Tryz.f202
def N94:FnK tab:=⟨[.val (.named .TRob) (.no),.undef],Bool,fun a:TRob×Unit×Unit=>F_retire_stage_stale_1 a.1,fun r:Bool=>(.val (.bool) r (.no),[.undef,.undef])⟩
def g95:=gx ⟨[0,1,4,5,7,8,9,16],[],[true],[(5,[(0,.any),(1,.any),(7,.any),(8,.any)]),(6,[(4,.any)]),(7,[(0,.any),(1,.any),(7,.any),(8,.any)])]⟩ Tryz.f46
def K95_5:MarkK tab:=⟨[(0,.val (.slice 248 (.named .TRob)) (.no)),(1,.fn 202 [] [.undef]),(7,.val (.int .i64) (.no)),(8,.val (.int .i64) (.no))],[(.ret,[(4,.val (.int .i64) (.no))]),((.exit 0),[(4,.undef)])],L_slices_IndexFunc_Rob_of_retire_stage_stale_1_5⟩
def N95:FnK tab:=⟨[.val (.slice 248 (.named .TRob)) (.no),.fn 202 [] [.undef]],W .i64,fun a:Sl 248 (TRob)×((Unit)×(Unit×Unit))×Unit=>F_slices_IndexFunc_Rob_of_retire_stage_stale_1 a.1,fun r:W .i64=>(.val (.int .i64) r (.no),[.undef,.undef])⟩
def t95:Tt:=tbl [(202,N94)]
def q95:Qt:=mtbl [(5,K95_5)]
def g96:=gx ⟨[0,1,4],[],[true],[]⟩ Tryz.f182
def N96:FnK tab:=⟨[.val (.slice 248 (.named .TRob)) (.no),.fn 202 [] [.undef]],Bool,fun a:Sl 248 (TRob)×((Unit)×(Unit×Unit))×Unit=>F_slices_ContainsFunc_Rob_of_retire_stage_stale_1 a.1,fun r:Bool=>(.val (.bool) r (.no),[.undef,.undef])⟩
def t96:Tt:=tbl [(46,N95)]
def g97:=gx ⟨[0,1,2,4],[0],[true],[]⟩ Tryz.f109
def N97:FnK tab:=⟨[.box (.named .TStage) (.st [.no,.no,.no,.no,.yes 0,.yes 0]),.val (.slice 248 (.named .TRob)) (.no)],Bool×TStage,fun a:TStage×Sl 248 (TRob)×Unit=>F_retire_stage_stale a.1 a.2.1,fun r:Bool×TStage=>(.val (.bool) r.1 (.no),[.box 0 (.named .TStage) r.2 (.st [.no,.no,.no,.no,.yes 0,.yes 0]),.undef])⟩
def t97:Tt:=tbl [(182,N96)]
def g98:=gx ⟨[0,1,2],[],[true],[]⟩ Tryz.f47
def N98:FnK tab:=⟨[.val (.named .TRob) (.no)],Bool,fun a:TRob×Unit=>F_retire_Event_1 a.1,fun r:Bool=>(.val (.bool) r (.no),[.undef])⟩
def g99:=gx ⟨[0,1,4,5,7,8,9,16],[],[true],[(5,[(0,.any),(1,.any),(7,.any),(8,.any)]),(6,[(4,.any)]),(7,[(0,.any),(1,.any),(7,.any),(8,.any)])]⟩ Tryz.f46
def K99_5:MarkK tab:=⟨[(0,.val (.slice 248 (.named .TRob)) (.no)),(1,.fn 47 [] []),(7,.val (.int .i64) (.no)),(8,.val (.int .i64) (.no))],[(.ret,[(4,.val (.int .i64) (.no))]),((.exit 0),[(4,.undef)])],L_slices_IndexFunc_Rob_of_retire_Event_1_5⟩
def N99:FnK tab:=⟨[.val (.slice 248 (.named .TRob)) (.no),.fn 47 [] []],W .i64,fun a:Sl 248 (TRob)×((Unit)×(Unit))×Unit=>F_slices_IndexFunc_Rob_of_retire_Event_1 a.1,fun r:W .i64=>(.val (.int .i64) r (.no),[.undef,.undef])⟩
def t99:Tt:=tbl [(47,N98)]
def q99:Qt:=mtbl [(5,K99_5)]
def g100:=gx ⟨[0,2],[],[true],[]⟩ Tryz.f128
def N100:FnK tab:=⟨[.val (.int .i64) (.no)],Bool,fun a:W .i64×Unit=>F_retire_is a.1,fun r:Bool=>(.val (.bool) r (.no),[.undef])⟩
def g101:=gx ⟨[0,1,2,3,9],[],[true,true],[]⟩ Tryz.f48
def N101:FnK tab:=⟨[.val (.named .TRob) (.no)],W .i64×W .u32,fun a:TRob×Unit=>F_retire_written a.1,fun r:W .i64×W .u32=>(.tup [.val (.int .i64) r.1 (.no),.val (.int .u32) r.2 (.no)],[.undef])⟩
def t101:Tt:=tbl [(128,N100)]
def g102:=gx ⟨[0,1,2],[],[true],[]⟩ Tryz.f49
def N102:FnK tab:=⟨[.val (.named .TRob) (.no)],Bool,fun a:TRob×Unit=>F_retire_Event_2 a.1,fun r:Bool=>(.val (.bool) r (.no),[.undef])⟩
def g103:=gx ⟨[0,1,4,5,7,8,9,16],[],[true],[(5,[(0,.any),(1,.any),(7,.any),(8,.any)]),(6,[(4,.any)]),(7,[(0,.any),(1,.any),(7,.any),(8,.any)])]⟩ Tryz.f46
def K103_5:MarkK tab:=⟨[(0,.val (.slice 248 (.named .TRob)) (.no)),(1,.fn 49 [] []),(7,.val (.int .i64) (.no)),(8,.val (.int .i64) (.no))],[(.ret,[(4,.val (.int .i64) (.no))]),((.exit 0),[(4,.undef)])],L_slices_IndexFunc_Rob_of_retire_Event_2_5⟩
def N103:FnK tab:=⟨[.val (.slice 248 (.named .TRob)) (.no),.fn 49 [] []],W .i64,fun a:Sl 248 (TRob)×((Unit)×(Unit))×Unit=>F_slices_IndexFunc_Rob_of_retire_Event_2 a.1,fun r:W .i64=>(.val (.int .i64) r (.no),[.undef,.undef])⟩
def t103:Tt:=tbl [(49,N102)]
def q103:Qt:=mtbl [(5,K103_5)]
def g104:=gx ⟨[0,1,2,4,7],[],[true],[]⟩ Tryz.f50
def N104:FnK tab:=⟨[.val (.named .TArch) (.no),.val (.int .i64) (.no)],W .u32,fun a:TArch×W .i64×Unit=>F_retire_reg a.1 a.2.1,fun r:W .u32=>(.val (.int .u32) r (.no),[.undef,.undef])⟩
def t104:Tt:=tbl [(128,N100)]
def g105:=gx ⟨[0,2,3,4,8,12],[],[true],[]⟩ Tryz.f51
def N105:FnK tab:=⟨[.val (.int .i64) (.no)],W .i64,fun a:W .i64×Unit=>F_crack_Size a.1,fun r:W .i64=>(.val (.int .i64) r (.no),[.undef])⟩
def g106:=gx ⟨[0,1,2,6],[],[true],[]⟩ Tryz.f129
def N106:FnK tab:=⟨[.val (.int .i64) (.no),.val (.int .i64) (.no),.val (.int .i64) (.no)],Bool,fun a:W .i64×W .i64×W .i64×Unit=>F_exec_between a.1 a.2.1 a.2.2.1,fun r:Bool=>(.val (.bool) r (.no),[.undef,.undef,.undef])⟩
def g107:=gx ⟨[0,1,4],[],[true],[]⟩ Tryz.f130
def N107:FnK tab:=⟨[.val (.int .u32) (.no),.val (.int .i64) (.no)],W .u32,fun a:W .u32×W .i64×Unit=>F_bits_Zext a.1 a.2.1,fun r:W .u32=>(.val (.int .u32) r (.no),[.undef,.undef])⟩
def t107:Tt:=tbl [(217,N6),(218,N5)]
def g108:=gx ⟨[0,1,2,3,4,9],[],[true],[]⟩ Tryz.f52
def N108:FnK tab:=⟨[.val (.named .TUop) (.no),.val (.arr 3 (.int .u32)) (.no)],W .u32,fun a:TUop×Arr 3 (W .u32)×Unit=>F_exec_Data a.1 a.2.1,fun r:W .u32=>(.val (.int .u32) r (.no),[.undef,.undef])⟩
def t108:Tt:=tbl [(51,N105),(129,N106),(130,N107)]
def g109:=gx ⟨[0,1,3,4,5,6,7,8,9,10,14,31,60,81],[],[true],[]⟩ Tryz.f16
def N109:FnK tab:=⟨[.val (.slice 248 (.named .TRob)) (.no),.val (.named .TArch) (.no)],TEvent,fun a:Sl 248 (TRob)×TArch×Unit=>F_retire_Event a.1 a.2.1,fun r:TEvent=>(.val (.named .TEvent) r (.no),[.undef,.undef])⟩
def t109:Tt:=tbl [(46,N99),(46,N103),(48,N101),(50,N104),(51,N105),(52,N108)]
def g110:=gx ⟨[0,2],[],[true],[]⟩ Tryz.f58
def N110:FnK tab:=⟨[.val (.int .i64) (.no)],Bool,fun a:W .i64×Unit=>F_crack_Serial a.1,fun r:Bool=>(.val (.bool) r (.no),[.undef])⟩
def g111:=gx ⟨[0,2],[],[true],[]⟩ Tryz.f132
def N111:FnK tab:=⟨[.val (.int .i64) (.no)],Bool,fun a:W .i64×Unit=>F_inst_Priv a.1,fun r:Bool=>(.val (.bool) r (.no),[.undef])⟩
def g112:=gx ⟨[0,1,2,3,4,7],[],[true,true],[]⟩ Tryz.f134
def N112:FnK tab:=⟨[.val (.named .TArch) (.no)],TArch×W .i64,fun a:TArch×Unit=>F_trap_Return a.1,fun r:TArch×W .i64=>(.tup [.val (.named .TArch) r.1 (.no),.val (.int .i64) r.2 (.no)],[.undef])⟩
def t112:Tt:=tbl [(133,N45),(140,N48)]
def g113:=gx ⟨[0,1,2,3,6,13,19],[],[true],[]⟩ Tryz.f222
def N113:FnK tab:=⟨[.val (.named .TArch) (.no),.val (.int .i64) (.no),.val (.bool) (.no)],W .i64,fun a:TArch×W .i64×Bool×Unit=>F_csr_may a.1 a.2.1 a.2.2.1,fun r:W .i64=>(.val (.int .i64) r (.no),[.undef,.undef,.undef])⟩
def t113:Tt:=tbl [(133,N45)]
def g114:=gx ⟨[0,1,2,4,5,6,13],[],[true,true],[]⟩ Tryz.f135
def N114:FnK tab:=⟨[.val (.named .TArch) (.no),.val (.int .i64) (.no)],W .u32×W .i64,fun a:TArch×W .i64×Unit=>F_csr_Read a.1 a.2.1,fun r:W .u32×W .i64=>(.tup [.val (.int .u32) r.1 (.no),.val (.int .i64) r.2 (.no)],[.undef,.undef])⟩
def t114:Tt:=tbl [(222,N113)]
def g115:=gx ⟨[0,1,2,3,6,7,8,13],[],[true,true],[]⟩ Tryz.f136
def N115:FnK tab:=⟨[.val (.named .TArch) (.no),.val (.int .i64) (.no),.val (.int .u32) (.no)],TArch×W .i64,fun a:TArch×W .i64×W .u32×Unit=>F_csr_Write a.1 a.2.1 a.2.2.1,fun r:TArch×W .i64=>(.tup [.val (.named .TArch) r.1 (.no),.val (.int .i64) r.2 (.no)],[.undef,.undef,.undef])⟩
def t115:Tt:=tbl [(139,N21),(222,N113)]
def g116:=gx ⟨[0,1,2],[],[true],[]⟩ Tryz.f275
def N116:FnK tab:=⟨[.val (.named .TArch) (.no)],Bool,fun a:TArch×Unit=>F_walk_Paged a.1,fun r:Bool=>(.val (.bool) r (.no),[.undef])⟩
def t116:Tt:=tbl [(133,N45)]
def g117:=gx ⟨[0,2,3,4,6,8],[],[true],[]⟩ Tryz.f276
def N117:FnK tab:=⟨[.val (.int .i64) (.no)],W .i64,fun a:W .i64×Unit=>F_walk_Fault a.1,fun r:W .i64=>(.val (.int .i64) r (.no),[.undef])⟩
def g118:=gx ⟨[0,1,2,6,7,8],[],[true],[]⟩ Tryz.f208
def N118:FnK tab:=⟨[.val (.int .u32) (.no),.val (.int .i64) (.no),.val (.int .i64) (.no)],W .u32,fun a:W .u32×W .i64×W .i64×Unit=>F_bits_Field a.1 a.2.1 a.2.2.1,fun r:W .u32=>(.val (.int .u32) r (.no),[.undef,.undef,.undef])⟩
def t118:Tt:=tbl [(185,N7)]
def g119:=gx ⟨[0,1,4,5,6,11],[],[true],[]⟩ Tryz.f324
def N119:FnK tab:=⟨[.val (.int .u32) (.no),.val (.int .i64) (.no)],W .i64,fun a:W .u32×W .i64×Unit=>F_pte_Index a.1 a.2.1,fun r:W .i64=>(.val (.int .i64) r (.no),[.undef,.undef])⟩
def t119:Tt:=tbl [(208,N118)]
def g120:=gx ⟨[0,1,2,6,27],[],[true],[]⟩ Tryz.f224
def N120:FnK tab:=⟨[.val (.slice 1 (.int .u8)) (.no),.val (.int .u32) (.no),.val (.int .i64) (.no)],W .i64,fun a:Sl 1 (W .u8)×W .u32×W .i64×Unit=>F_mem_Check a.1 a.2.1 a.2.2.1,fun r:W .i64=>(.val (.int .i64) r (.no),[.undef,.undef,.undef])⟩
def g121:=gx ⟨[0,2,3,4,5,10,11,12,13],[],[true],[(7,[(3,.any),(10,.any),(11,.any),(12,.any)]),(8,[(3,.any)]),(9,[(3,.any),(10,.any),(11,.any),(12,.any)])]⟩ Tryz.f330
def K121_7:MarkK tab:=⟨[(3,.val (.int .u32) (.no)),(10,.val (.slice 1 (.int .u8)) (.no)),(11,.val (.int .i64) (.no)),(12,.val (.int .i64) (.no))],[((.exit 0),[(3,.val (.int .u32) (.no))])],L_bits_Of_7⟩
def N121:FnK tab:=⟨[.val (.slice 1 (.int .u8)) (.no)],W .u32,fun a:Sl 1 (W .u8)×Unit=>F_bits_Of a.1,fun r:W .u32=>(.val (.int .u32) r (.no),[.undef])⟩
def q121:Qt:=mtbl [(7,K121_7)]
def g122:=gx ⟨[0,1,2,6,7,8,14],[],[true,true],[]⟩ Tryz.f360
def N122:FnK tab:=⟨[.val (.slice 1 (.int .u8)) (.no),.val (.int .u32) (.no),.val (.int .i64) (.no)],W .u32×W .i64,fun a:Sl 1 (W .u8)×W .u32×W .i64×Unit=>F_mem_Read a.1 a.2.1 a.2.2.1,fun r:W .u32×W .i64=>(.tup [.val (.int .u32) r.1 (.no),.val (.int .i64) r.2 (.no)],[.undef,.undef,.undef])⟩
def t122:Tt:=tbl [(224,N120),(330,N121)]
def g123:=gx ⟨[0,2],[],[true],[]⟩ Tryz.f361
def N123:FnK tab:=⟨[.val (.int .u32) (.no)],TPte,fun a:W .u32×Unit=>F_pte_Of a.1,fun r:TPte=>(.val (.named .TPte) r (.no),[.undef])⟩
def t123:Tt:=tbl [(208,N118)]
def g124:=gx ⟨[0,1,4,5,6,7,18],[0],[true,true],[]⟩ Tryz.f323
def N124:FnK tab:=⟨[.box (.named .TWalker) (.st [.no,.yes 0]),.val (.int .u32) (.no)],TPte×Bool×TWalker,fun a:TWalker×W .u32×Unit=>F_walk_walker_entry a.1 a.2.1,fun r:TPte×Bool×TWalker=>(.tup [.val (.named .TPte) r.1 (.no),.val (.bool) r.2.1 (.no)],[.box 0 (.named .TWalker) r.2.2 (.st [.no,.yes 0]),.undef])⟩
def t124:Tt:=tbl [(360,N122),(361,N123)]
def g125:=gx ⟨[0,1,2],[],[true],[]⟩ Tryz.f325
def N125:FnK tab:=⟨[.val (.named .TPte) (.no)],Bool,fun a:TPte×Unit=>F_pte_Leaf a.1,fun r:Bool=>(.val (.bool) r (.no),[.undef])⟩
def g126:=gx ⟨[0,1,2,6,7,8,9,10,11,12,15,17,41,73],[],[true,true,true],[]⟩ Tryz.f277
def N126:FnK tab:=⟨[.val (.slice 1 (.int .u8)) (.no),.val (.int .u32) (.no),.val (.int .u32) (.no)],TPte×Sl 4 (W .u32)×Bool,fun a:Sl 1 (W .u8)×W .u32×W .u32×Unit=>F_walk_Walk a.1 a.2.1 a.2.2.1,fun r:TPte×Sl 4 (W .u32)×Bool=>(.tup [.val (.named .TPte) r.1 (.no),.val (.slice 4 (.int .u32)) r.2.1 (.no),.val (.bool) r.2.2 (.no)],[.undef,.undef,.undef])⟩
def t126:Tt:=tbl [(323,N124),(324,N119),(325,N125)]
def g127:=gx ⟨[0,1,2,3,6,7,9,12,13,17,21],[],[true],[]⟩ Tryz.f278
def N127:FnK tab:=⟨[.val (.named .TPte) (.no),.val (.int .i64) (.no),.val (.bool) (.no)],Bool,fun a:TPte×W .i64×Bool×Unit=>F_pte_Allows a.1 a.2.1 a.2.2.1,fun r:Bool=>(.val (.bool) r (.no),[.undef,.undef,.undef])⟩
def g128:=gx ⟨[0,1,2],[],[true],[]⟩ Tryz.f326
def N128:FnK tab:=⟨[.val (.named .TPte) (.no)],W .u32,fun a:TPte×Unit=>F_pte_page a.1,fun r:W .u32=>(.val (.int .u32) r (.no),[.undef])⟩
def g129:=gx ⟨[0,1,2,4],[],[true],[]⟩ Tryz.f279
def N129:FnK tab:=⟨[.val (.named .TPte) (.no),.val (.int .u32) (.no)],W .u32,fun a:TPte×W .u32×Unit=>F_pte_Addr a.1 a.2.1,fun r:W .u32=>(.val (.int .u32) r (.no),[.undef,.undef])⟩
def t129:Tt:=tbl [(326,N128)]
def g130:=gx ⟨[0,1,2,3,4,8,9,10,11,13,16,21,40],[],[true,true],[]⟩ Tryz.f223
def N130:FnK tab:=⟨[.val (.named .TArch) (.no),.val (.slice 1 (.int .u8)) (.no),.val (.int .u32) (.no),.val (.int .i64) (.no)],W .u32×W .i64,fun a:TArch×Sl 1 (W .u8)×W .u32×W .i64×Unit=>F_walk_Trans a.1 a.2.1 a.2.2.1 a.2.2.2.1,fun r:W .u32×W .i64=>(.tup [.val (.int .u32) r.1 (.no),.val (.int .i64) r.2 (.no)],[.undef,.undef,.undef,.undef])⟩
def t130:Tt:=tbl [(275,N116),(276,N117),(277,N126),(278,N127),(279,N129)]
def g131:=gx ⟨[0,2,3,4,5,6,19,35],[0],[true,true],[]⟩ Tryz.f138
def N131:FnK tab:=⟨[.box (.named .TSerial) (.no)],W .u32×W .i64×TSerial,fun a:TSerial×Unit=>F_retire_serial_place a.1,fun r:W .u32×W .i64×TSerial=>(.tup [.val (.int .u32) r.1 (.no),.val (.int .i64) r.2.1 (.no)],[.box 0 (.named .TSerial) r.2.2 (.no)])⟩
def t131:Tt:=tbl [(50,N104),(223,N130),(224,N120)]
def g132:=gx ⟨[0,2,3,4,5,10,22,29,41,58,82],[0],[true,true],[]⟩ Tryz.f59
def N132:FnK tab:=⟨[.box (.named .TSerial) (.no)],W .i64×W .u32×TSerial,fun a:TSerial×Unit=>F_retire_serial_fault a.1,fun r:W .i64×W .u32×TSerial=>(.tup [.val (.int .i64) r.1 (.no),.val (.int .u32) r.2.1 (.no)],[.box 0 (.named .TSerial) r.2.2 (.no)])⟩
def t132:Tt:=tbl [(50,N104),(132,N111),(133,N45),(134,N112),(135,N114),(136,N115),(137,N1),(138,N131)]
def g133:=gx ⟨[0,1,2,3,4,8,29],[],[true],[]⟩ Tryz.f280
def N133:FnK tab:=⟨[.val (.named .TCoh) (.no),.val (.int .i64) (.no),.val (.int .u32) (.no),.val (.int .i64) (.no)],Bool,fun a:TCoh×W .i64×W .u32×W .i64×Unit=>F_coh_reached a.1 a.2.1 a.2.2.1 a.2.2.2.1,fun r:Bool=>(.val (.bool) r (.no),[.undef,.undef,.undef,.undef])⟩
def t133:Tt:=tbl [(224,N120)]
def g134:=gx ⟨[0,2],[],[true],[]⟩ Tryz.f281
def N134:FnK tab:=⟨[.val (.int .u32) (.no)],W .u32,fun a:W .u32×Unit=>F_mem_LineOf a.1,fun r:W .u32=>(.val (.int .u32) r (.no),[.undef])⟩
def g135:=gx ⟨[0,1,2,4,8],[],[true],[]⟩ Tryz.f374
def N135:FnK tab:=⟨[.val (.named .TCache) (.no),.val (.int .u32) (.no)],W .i64,fun a:TCache×W .u32×Unit=>F_cache_setOf a.1 a.2.1,fun r:W .i64=>(.val (.int .i64) r (.no),[.undef,.undef])⟩
def g136:=gx ⟨[0,1,2,4,8],[],[true],[]⟩ Tryz.f372
def N136:FnK tab:=⟨[.val (.named .TCache) (.no),.val (.int .u32) (.no)],Sl 40 (TWay),fun a:TCache×W .u32×Unit=>F_cache_ways a.1 a.2.1,fun r:Sl 40 (TWay)=>(.val (.slice 40 (.named .TWay)) r (.no),[.undef,.undef])⟩
def t136:Tt:=tbl [(374,N135)]
def g137:=gx ⟨[0,1,2,3],[],[true],[]⟩ Tryz.f373
def N137:FnK tab:=⟨[.val (.named .TWay) (.no),.rptr (.int .u32)],Bool,fun a:TWay×W .u32×Unit=>F_cache_Find_1 a.1 a.2.1,fun r:Bool=>(.val (.bool) r (.no),[.undef,.undef])⟩
def g138:=gx ⟨[0,1,4,5,7,8,9,16],[],[true],[(5,[(0,.any),(1,.any),(7,.any),(8,.any)]),(6,[(4,.any)]),(7,[(0,.any),(1,.any),(7,.any),(8,.any)])]⟩ Tryz.f371
def K138_5:MarkK tab:=⟨[(0,.val (.slice 40 (.named .TWay)) (.no)),(1,.fn 373 [] [.rptr (.int .u32)]),(7,.val (.int .i64) (.no)),(8,.val (.int .i64) (.no))],[(.ret,[(4,.val (.int .i64) (.no))]),((.exit 0),[(4,.undef)])],L_slices_IndexFunc_Way_of_cache_Find_1_5⟩
def N138:FnK tab:=⟨[.val (.slice 40 (.named .TWay)) (.no),.fn 373 [] [.rptr (.int .u32)]],W .i64,fun a:Sl 40 (TWay)×((Unit)×(W .u32×Unit))×Unit=>F_slices_IndexFunc_Way_of_cache_Find_1 a.1 a.2.1.2.1,fun r:W .i64=>(.val (.int .i64) r (.no),[.undef,.undef])⟩
def t138:Tt:=tbl [(373,N137)]
def q138:Qt:=mtbl [(5,K138_5)]
def g139:=gx ⟨[0,1,2,3,4,5,6,7,14],[],[true,true,true],[]⟩ Tryz.f331
def N139:FnK tab:=⟨[.val (.named .TCache) (.no),.val (.int .u32) (.no)],W .i64×W .i64×Bool,fun a:TCache×W .u32×Unit=>F_cache_Find a.1 a.2.1,fun r:W .i64×W .i64×Bool=>(.tup [.val (.int .i64) r.1 (.no),.val (.int .i64) r.2.1 (.no),.val (.bool) r.2.2 (.no)],[.undef,.undef])⟩
def t139:Tt:=tbl [(371,N138),(372,N136),(374,N135)]
def g140:=gx ⟨[0,1,2,4,5,6,7,17,33],[],[true],[]⟩ Tryz.f363
def N140:FnK tab:=⟨[.val (.named .TLines) (.no),.val (.int .i64) (.no)],TWay,fun a:TLines×W .i64×Unit=>F_bus_lines_way a.1 a.2.1,fun r:TWay=>(.val (.named .TWay) r (.no),[.undef,.undef])⟩
def t140:Tt:=tbl [(331,N139)]
def g141:=gx ⟨[0,2],[],[true],[]⟩ Tryz.f383
def N141:FnK tab:=⟨[.val (.int .i64) (.no)],Bool,fun a:W .i64×Unit=>F_mesi_known a.1,fun r:Bool=>(.val (.bool) r (.no),[.undef])⟩
def g142:=gx ⟨[0,2,5],[],[true],[]⟩ Tryz.f381
def N142:FnK tab:=⟨[.val (.int .i64) (.no)],W .i64,fun a:W .i64×Unit=>F_mesi_of a.1,fun r:W .i64=>(.val (.int .i64) r (.no),[.undef])⟩
def t142:Tt:=tbl [(383,N141)]
def g143:=gx ⟨[0,1,4,7,14,21],[],[true],[]⟩ Tryz.f362
def N143:FnK tab:=⟨[.val (.int .i64) (.no),.val (.int .i64) (.no)],W .i64,fun a:W .i64×W .i64×Unit=>F_mesi_Ask a.1 a.2.1,fun r:W .i64=>(.val (.int .i64) r (.no),[.undef,.undef])⟩
def t143:Tt:=tbl [(381,N142)]
def g144:=gx ⟨[0,1,2,3,4,8,17],[],[true],[]⟩ Tryz.f327
def N144:FnK tab:=⟨[.val (.named .TCoh) (.no),.val (.int .i64) (.no),.val (.int .u32) (.no),.val (.int .i64) (.no)],TReq,fun a:TCoh×W .i64×W .u32×W .i64×Unit=>F_bus_Want a.1 a.2.1 a.2.2.1 a.2.2.2.1,fun r:TReq=>(.val (.named .TReq) r (.no),[.undef,.undef,.undef,.undef])⟩
def t144:Tt:=tbl [(362,N143),(363,N140)]
def g145:=gx ⟨[0,1,2,4],[],[true],[]⟩ Tryz.f364
def N145:FnK tab:=⟨[.val (.named .TCoh) (.no),.val (.int .u32) (.no)],Bool,fun a:TCoh×W .u32×Unit=>F_bus_lies a.1 a.2.1,fun r:Bool=>(.val (.bool) r (.no),[.undef,.undef])⟩
def g146:=gx ⟨[0,1,4,5,6,11,12,17],[],[true,true],[]⟩ Tryz.f365
def N146:FnK tab:=⟨[.val (.int .i64) (.no),.val (.int .i64) (.no)],W .i64×Bool,fun a:W .i64×W .i64×Unit=>F_mesi_Snoop a.1 a.2.1,fun r:W .i64×Bool=>(.tup [.val (.int .i64) r.1 (.no),.val (.bool) r.2 (.no)],[.undef,.undef])⟩
def t146:Tt:=tbl [(381,N142)]
def g147:=gx ⟨[0,2,3,5,6,16],[],[true],[]⟩ Tryz.f366
def N147:FnK tab:=⟨[.val (.named .TCoh) (.no),.val (.int .i64) (.no),.val (.named .TWay) (.no)],TCoh,fun a:TCoh×W .i64×TWay×Unit=>F_bus_Back a.1 a.2.1 a.2.2.1,fun r:TCoh=>(.val (.named .TCoh) r (.no),[.undef,.undef,.undef])⟩
def t147:Tt:=tbl [(364,N145)]
def N148:FnK tab:=cloneK 24 (.slice 40 (.named .TWay))
def N149:FnK tab:=cloneK 40 (.named .TWay)
def g150:=gx ⟨[0,1,2,3,6,7,8,9,10,11,28,45],[],[true],[]⟩ Tryz.f367
def N150:FnK tab:=⟨[.val (.named .TCache) (.no),.val (.int .u32) (.no),.val (.int .i64) (.no)],TCache,fun a:TCache×W .u32×W .i64×Unit=>F_cache_Set a.1 a.2.1 a.2.2.1,fun r:TCache=>(.val (.named .TCache) r (.no),[.undef,.undef,.undef])⟩
def t150:Tt:=tbl [(331,N139)]
def g151:=gx ⟨[0,1,2,3,4,8,9,10,18],[],[true,true],[]⟩ Tryz.f282
def N151:FnK tab:=⟨[.val (.named .TCoh) (.no),.val (.int .i64) (.no),.val (.int .u32) (.no),.val (.int .i64) (.no)],TCoh×Bool,fun a:TCoh×W .i64×W .u32×W .i64×Unit=>F_coh_got a.1 a.2.1 a.2.2.1 a.2.2.2.1,fun r:TCoh×Bool=>(.tup [.val (.named .TCoh) r.1 (.no),.val (.bool) r.2 (.no)],[.undef,.undef,.undef,.undef])⟩
def t151:Tt:=tbl [(327,N144)]
def g152:=gx ⟨[0,1,2,3,6,7,8,9,10,11,12,13,32],[],[true,true,true,true],[]⟩ Tryz.f329
def N152:FnK tab:=⟨[.val (.named .TCache) (.no),.val (.int .u32) (.no),.val (.int .i64) (.no)],W .i64×W .i64×W .i64×Bool,fun a:TCache×W .u32×W .i64×Unit=>F_cache_place a.1 a.2.1 a.2.2.1,fun r:W .i64×W .i64×W .i64×Bool=>(.tup [.val (.int .i64) r.1 (.no),.val (.int .i64) r.2.1 (.no),.val (.int .i64) r.2.2.1 (.no),.val (.bool) r.2.2.2 (.no)],[.undef,.undef,.undef])⟩
def t152:Tt:=tbl [(281,N134),(331,N139)]
def g153:=gx ⟨[0,1,2,3,6,7,8,9,10,11,22],[],[true,true],[]⟩ Tryz.f283
def N153:FnK tab:=⟨[.val (.named .TCache) (.no),.val (.int .u32) (.no),.val (.int .i64) (.no)],W .u32×Bool,fun a:TCache×W .u32×W .i64×Unit=>F_cache_Read a.1 a.2.1 a.2.2.1,fun r:W .u32×Bool=>(.tup [.val (.int .u32) r.1 (.no),.val (.bool) r.2 (.no)],[.undef,.undef,.undef])⟩
def t153:Tt:=tbl [(329,N152),(330,N121)]
def g154:=gx ⟨[0,1,2,3,6,7,8,9,10,33,52,53,54,68],[],[true],[(15,[(1,.any),(2,.any),(6,.any),(7,.any),(8,.any),(52,.any),(53,.any)]),(16,[(1,.any),(2,.any),(6,.any),(7,.any)]),(17,[(1,.any),(2,.any),(6,.any),(7,.any),(8,.any),(52,.any),(53,.any)])]⟩ Tryz.f332
def N154:FnK tab:=⟨[.val (.named .TCache) (.no),.val (.int .i64) (.no),.val (.int .i64) (.no)],TCache,fun a:TCache×W .i64×W .i64×Unit=>F_cache_Touch a.1 a.2.1 a.2.2.1,fun r:TCache=>(.val (.named .TCache) r (.no),[.undef,.undef,.undef])⟩
def N155:FnK tab:=cloneK 24 (.named .TCache)
def g156:=gx ⟨[0,1,2,3,5,6],[],[true],[]⟩ Tryz.f286
def N156:FnK tab:=⟨[.val (.named .TCoh) (.no),.val (.int .i64) (.no),.val (.named .TCache) (.no)],TCoh,fun a:TCoh×W .i64×TCache×Unit=>F_coh_with a.1 a.2.1 a.2.2.1,fun r:TCoh=>(.val (.named .TCoh) r (.no),[.undef,.undef,.undef])⟩
def t156:Tt:=tbl [(335,N155)]
def g157:=gx ⟨[0,1,2,3,6,7,8,9,10,24],[],[true],[]⟩ Tryz.f284
def N157:FnK tab:=⟨[.val (.named .TCoh) (.no),.val (.int .i64) (.no),.val (.int .u32) (.no)],TCoh,fun a:TCoh×W .i64×W .u32×Unit=>F_coh_touched a.1 a.2.1 a.2.2.1,fun r:TCoh=>(.val (.named .TCoh) r (.no),[.undef,.undef,.undef])⟩
def t157:Tt:=tbl [(286,N156),(331,N139),(332,N154)]
def g158:=gx ⟨[0,1,2,3,4,8,9,10,11,12,13,20],[],[true,true,true],[]⟩ Tryz.f225
def N158:FnK tab:=⟨[.val (.named .TCoh) (.no),.val (.int .i64) (.no),.val (.int .u32) (.no),.val (.int .i64) (.no)],W .u32×TCoh×Bool,fun a:TCoh×W .i64×W .u32×W .i64×Unit=>F_coh_Read a.1 a.2.1 a.2.2.1 a.2.2.2.1,fun r:W .u32×TCoh×Bool=>(.tup [.val (.int .u32) r.1 (.no),.val (.named .TCoh) r.2.1 (.no),.val (.bool) r.2.2 (.no)],[.undef,.undef,.undef,.undef])⟩
def t158:Tt:=tbl [(280,N133),(281,N134),(282,N151),(283,N153),(284,N157)]
def g159:=gx ⟨[0,1,2,3,4,8,9,10,11,12,13,14,15,50],[],[true,true],[]⟩ Tryz.f285
def N159:FnK tab:=⟨[.val (.named .TCache) (.no),.val (.int .u32) (.no),.val (.int .i64) (.no),.val (.int .u32) (.no)],TCache×Bool,fun a:TCache×W .u32×W .i64×W .u32×Unit=>F_cache_Write a.1 a.2.1 a.2.2.1 a.2.2.2.1,fun r:TCache×Bool=>(.tup [.val (.named .TCache) r.1 (.no),.val (.bool) r.2 (.no)],[.undef,.undef,.undef,.undef])⟩
def t159:Tt:=tbl [(329,N152)]
def g160:=gx ⟨[0,1,2,3,4,5,10,11,12,13,14,15,21,44],[],[true,true],[]⟩ Tryz.f226
def N160:FnK tab:=⟨[.val (.named .TCoh) (.no),.val (.int .i64) (.no),.val (.int .u32) (.no),.val (.int .i64) (.no),.val (.int .u32) (.no)],TCoh×Bool,fun a:TCoh×W .i64×W .u32×W .i64×W .u32×Unit=>F_coh_Write a.1 a.2.1 a.2.2.1 a.2.2.2.1 a.2.2.2.2.1,fun r:TCoh×Bool=>(.tup [.val (.named .TCoh) r.1 (.no),.val (.bool) r.2 (.no)],[.undef,.undef,.undef,.undef,.undef])⟩
def t160:Tt:=tbl [(280,N133),(281,N134),(282,N151),(284,N157),(285,N159),(286,N156)]
def g161:=gx ⟨[0,2,4,5,7,8,46,47,52,66],[0],[],[]⟩ Tryz.f141
def N161:FnK tab:=⟨[.box (.named .TSerial) (.no)],TSerial,fun a:TSerial×Unit=>F_retire_serial_atomic a.1,fun r:TSerial=>(.tup [],[.box 0 (.named .TSerial) r (.no)])⟩
def t161:Tt:=tbl [(50,N104),(138,N131),(225,N158),(226,N160)]
def g162:=gx ⟨[0,2],[],[true],[]⟩ Tryz.f227
def N162:FnK tab:=⟨[.val (.slice 24 (.named .TTlb)) (.no)],Sl 24 (TTlb),fun a:Sl 24 (TTlb)×Unit=>F_tlb_Flush a.1,fun r:Sl 24 (TTlb)=>(.val (.slice 24 (.named .TTlb)) r (.no),[.undef])⟩
def g163:=gx ⟨[0],[0],[],[]⟩ Tryz.f142
def N163:FnK tab:=⟨[.box (.named .TSerial) (.no)],TSerial,fun a:TSerial×Unit=>F_retire_serial_forget a.1,fun r:TSerial=>(.tup [],[.box 0 (.named .TSerial) r (.no)])⟩
def t163:Tt:=tbl [(227,N162)]
def N164:FnK tab:=cloneK 1 (.int .u8)
def g165:=gx ⟨[0,1,4],[],[true],[]⟩ Tryz.f231
def N165:FnK tab:=⟨[.val (.slice 1 (.int .u8)) (.no),.val (.int .u32) (.no)],Bool,fun a:Sl 1 (W .u8)×W .u32×Unit=>F_coh_lies a.1 a.2.1,fun r:Bool=>(.val (.bool) r (.no),[.undef,.undef])⟩
def g166:=gx ⟨[0,1,2,3,12],[1],[true],[]⟩ Tryz.f230
def N166:FnK tab:=⟨[.val (.named .TWay) (.no),.box (.slice 1 (.int .u8)) (.yes 0)],Bool×Sl 1 (W .u8),fun a:TWay×Sl 1 (W .u8)×Unit=>F_coh_View_1 a.1 a.2.1,fun r:Bool×Sl 1 (W .u8)=>(.val (.bool) r.1 (.no),[.undef,.box 0 (.slice 1 (.int .u8)) r.2 (.yes 0)])⟩
def t166:Tt:=tbl [(231,N165)]
def g167:=gx ⟨[0,1,2,4,6,8,10,12,13,14,15,19,20,21,22,25,26,27,28,34],[1],[true],[(5,[(1,.any),(12,.any),(13,.any),(14,.any)]),(6,[(1,.any),(4,.any)]),(7,[(1,.any),(12,.any),(13,.any),(14,.any)]),(16,[(1,.any),(12,.any),(13,.any),(14,.any),(19,.any),(20,.any),(21,.any)]),(17,[(1,.any),(4,.any),(12,.any),(13,.any),(14,.any)]),(18,[(1,.any),(12,.any),(13,.any),(14,.any),(19,.any),(20,.any),(21,.any)]),(27,[(1,.any),(12,.any),(13,.any),(14,.any),(19,.any),(20,.any),(21,.any),(25,.any),(26,.any),(27,.any)]),(28,[(1,.any),(4,.any),(12,.any),(13,.any),(14,.any),(19,.any),(20,.any),(21,.any)]),(29,[(1,.any),(12,.any),(13,.any),(14,.any),(19,.any),(20,.any),(21,.any),(25,.any),(26,.any),(27,.any)])]⟩ Tryz.f229
def K167_27:MarkK tab:=⟨[(1,.fnb 230 (.slice 1 (.int .u8)) (.yes 0)),(12,.val (.slice 24 (.named .TCache)) (.no)),(13,.val (.int .i64) (.no)),(14,.val (.int .i64) (.no)),(19,.val (.slice 24 (.slice 40 (.named .TWay))) (.no)),(20,.val (.int .i64) (.no)),(21,.val (.int .i64) (.no)),(25,.val (.slice 40 (.named .TWay)) (.no)),(26,.val (.int .i64) (.no)),(27,.val (.int .i64) (.no))],[(.ret,[(1,.fnb 230 (.slice 1 (.int .u8)) (.yes 0)),(4,.val (.bool) (.no)),(12,.val (.slice 24 (.named .TCache)) (.no)),(13,.val (.int .i64) (.no)),(14,.val (.int .i64) (.no)),(19,.val (.slice 24 (.slice 40 (.named .TWay))) (.no)),(20,.val (.int .i64) (.no)),(21,.val (.int .i64) (.no))]),((.exit 4),[(1,.fnb 230 (.slice 1 (.int .u8)) (.yes 0)),(4,.undef),(12,.val (.slice 24 (.named .TCache)) (.no)),(13,.val (.int .i64) (.no)),(14,.val (.int .i64) (.no)),(19,.val (.slice 24 (.slice 40 (.named .TWay))) (.no)),(20,.val (.int .i64) (.no)),(21,.val (.int .i64) (.no))])],L_coh_each_27⟩
def K167_16:MarkK tab:=⟨[(1,.fnb 230 (.slice 1 (.int .u8)) (.yes 0)),(12,.val (.slice 24 (.named .TCache)) (.no)),(13,.val (.int .i64) (.no)),(14,.val (.int .i64) (.no)),(19,.val (.slice 24 (.slice 40 (.named .TWay))) (.no)),(20,.val (.int .i64) (.no)),(21,.val (.int .i64) (.no))],[(.ret,[(1,.fnb 230 (.slice 1 (.int .u8)) (.yes 0)),(4,.val (.bool) (.no)),(12,.val (.slice 24 (.named .TCache)) (.no)),(13,.val (.int .i64) (.no)),(14,.val (.int .i64) (.no))]),((.exit 2),[(1,.fnb 230 (.slice 1 (.int .u8)) (.yes 0)),(4,.undef),(12,.val (.slice 24 (.named .TCache)) (.no)),(13,.val (.int .i64) (.no)),(14,.val (.int .i64) (.no))])],L_coh_each_16⟩
def K167_5:MarkK tab:=⟨[(1,.fnb 230 (.slice 1 (.int .u8)) (.yes 0)),(12,.val (.slice 24 (.named .TCache)) (.no)),(13,.val (.int .i64) (.no)),(14,.val (.int .i64) (.no))],[(.ret,[(1,.fnb 230 (.slice 1 (.int .u8)) (.yes 0)),(4,.val (.bool) (.no))]),((.exit 0),[(1,.fnb 230 (.slice 1 (.int .u8)) (.yes 0)),(4,.undef)])],L_coh_each_5⟩
def N167:FnK tab:=⟨[.val (.named .TCoh) (.no),.fnb 230 (.slice 1 (.int .u8)) (.yes 0)],Bool×Sl 1 (W .u8),fun a:TCoh×Sl 1 (W .u8)×Unit=>F_coh_each a.1 a.2.1,fun r:Bool×Sl 1 (W .u8)=>(.val (.bool) r.1 (.no),[.undef,.fnb 230 0 (.slice 1 (.int .u8)) r.2 (.yes 0)])⟩
def t167:Tt:=tbl [(230,N166)]
def q167:Qt:=mtbl [(27,K167_27),(16,K167_16),(5,K167_5)]
def g168:=gx ⟨[0,1,2,3],[],[true],[]⟩ Tryz.f143
def N168:FnK tab:=⟨[.val (.named .TCoh) (.no)],Sl 1 (W .u8),fun a:TCoh×Unit=>F_coh_View a.1,fun r:Sl 1 (W .u8)=>(.val (.slice 1 (.int .u8)) r (.no),[.undef])⟩
def t168:Tt:=tbl [(228,N164),(229,N167)]
def g169:=gx ⟨[0,2,3,29,30,36,48,69,88,101,121,128],[0],[],[(0,[(0,.fz)])]⟩ Tryz.f62
def N169:FnK tab:=⟨[.box (.named .TSerial) (.no)],TSerial,fun a:TSerial×Unit=>F_retire_serial_do a.1,fun r:TSerial=>(.tup [],[.box 0 (.named .TSerial) r (.no)])⟩
def t169:Tt:=tbl [(50,N104),(134,N112),(135,N114),(136,N115),(141,N161),(142,N163),(143,N168),(144,N40)]
def g170:=gx ⟨[0,1,2,3,21],[],[true],[]⟩ Tryz.f145
def N170:FnK tab:=⟨[.val (.named .TArch) (.no)],TArch,fun a:TArch×Unit=>F_csr_Count a.1,fun r:TArch=>(.val (.named .TArch) r (.no),[.undef])⟩
def g171:=gx ⟨[0,1,2],[],[true],[]⟩ Tryz.f146
def N171:FnK tab:=⟨[.val (.named .TArch) (.no)],Bool,fun a:TArch×Unit=>F_trap_Single a.1,fun r:Bool=>(.val (.bool) r (.no),[.undef])⟩
def t171:Tt:=tbl [(133,N45)]
def g172:=gx ⟨[0,1,2,4,5,16],[],[true],[]⟩ Tryz.f234
def N172:FnK tab:=⟨[.val (.named .TFree) (.no),.val (.int .i64) (.no)],TFree,fun a:TFree×W .i64×Unit=>F_freel_Give a.1 a.2.1,fun r:TFree=>(.val (.named .TFree) r (.no),[.undef,.undef])⟩
def t172:Tt:=tbl [(251,N57),(252,N58),(288,N59)]
def g173:=gx ⟨[0,1,2,3,4,12,24],[],[true],[]⟩ Tryz.f147
def N173:FnK tab:=⟨[.val (.named .TNames) (.no),.val (.named .TRen) (.no)],TNames,fun a:TNames×TRen×Unit=>F_rename_Retire a.1 a.2.1,fun r:TNames=>(.val (.named .TNames) r (.no),[.undef,.undef])⟩
def t173:Tt:=tbl [(232,N54),(233,N56),(234,N172)]
def N174:FnK tab:=cloneK 248 (.named .TRob)
def g175:=gx ⟨[0,2,3,4,7],[],[true,true,true],[]⟩ Tryz.f148
def N175:FnK tab:=⟨[.val (.slice 248 (.named .TRob)) (.no)],Sl 248 (TRob)×TRob×Bool,fun a:Sl 248 (TRob)×Unit=>F_rob_Pop a.1,fun r:Sl 248 (TRob)×TRob×Bool=>(.tup [.val (.slice 248 (.named .TRob)) r.1 (.no),.val (.named .TRob) r.2.1 (.no),.val (.bool) r.2.2 (.no)],[.undef])⟩
def t175:Tt:=tbl [(235,N174)]
def g176:=gx ⟨[0,1,3,4,5,6,18,91,144],[0],[],[]⟩ Tryz.f63
def N176:FnK tab:=⟨[.box (.named .TSerial) (.no),.val (.named .TRob) (.no)],TSerial,fun a:TSerial×TRob×Unit=>F_retire_serial_ends a.1 a.2.1,fun r:TSerial=>(.tup [],[.box 0 (.named .TSerial) r (.no),.undef])⟩
def t176:Tt:=tbl [(60,N49),(102,N43),(128,N100),(145,N170),(146,N171),(147,N173),(148,N175)]
def g177:=gx ⟨[0,1,2,3,4,5,7,8,9,10,11,12,13,14,15,16,30,45,52],[],[true,true,true,true],[]⟩ Tryz.f18
def N177:FnK tab:=⟨[.val (.named .TCore) (.no),.val (.named .TCoh) (.no),.val (.int .i64) (.no),.val (.named .TRob) (.no)],TCore×TCoh×TEvent×Bool,fun a:TCore×TCoh×W .i64×TRob×Unit=>F_retire_Serial a.1 a.2.1 a.2.2.1 a.2.2.2.1,fun r:TCore×TCoh×TEvent×Bool=>(.tup [.val (.named .TCore) r.1 (.no),.val (.named .TCoh) r.2.1 (.no),.val (.named .TEvent) r.2.2.1 (.no),.val (.bool) r.2.2.2 (.no)],[.undef,.undef,.undef,.undef])⟩
def t177:Tt:=tbl [(58,N110),(59,N132),(60,N49),(61,N50),(62,N169),(63,N176)]
def g178:=gx ⟨[0,1,3],[0],[],[]⟩ Tryz.f206
def N178:FnK tab:=⟨[.box (.named .TStage) (.st [.no,.no,.no,.no,.yes 0,.yes 0]),.val (.named .TRob) (.no)],TStage,fun a:TStage×TRob×Unit=>F_retire_stage_note a.1 a.2.1,fun r:TStage=>(.tup [],[.box 0 (.named .TStage) r (.st [.no,.no,.no,.no,.yes 0,.yes 0]),.undef])⟩
def g179:=gx ⟨[0,1,3,4,5,6,7,12,33,43],[0],[],[]⟩ Tryz.f112
def N179:FnK tab:=⟨[.box (.named .TStage) (.st [.no,.no,.no,.no,.yes 0,.yes 0]),.val (.named .TRob) (.no)],TStage,fun a:TStage×TRob×Unit=>F_retire_stage_alone a.1 a.2.1,fun r:TStage=>(.tup [],[.box 0 (.named .TStage) r (.st [.no,.no,.no,.no,.yes 0,.yes 0]),.undef])⟩
def t179:Tt:=tbl [(18,N177),(110,N83),(206,N178)]
def g180:=gx ⟨[0,1,4,5,6,17],[],[true,true,true],[]⟩ Tryz.f263
def N180:FnK tab:=⟨[.val (.slice 32 (.named .TSq)) (.no),.val (.int .u64) (.no)],Sl 32 (TSq)×TSq×Bool,fun a:Sl 32 (TSq)×W .u64×Unit=>F_sq_Pop a.1 a.2.1,fun r:Sl 32 (TSq)×TSq×Bool=>(.tup [.val (.slice 32 (.named .TSq)) r.1 (.no),.val (.named .TSq) r.2.1 (.no),.val (.bool) r.2.2 (.no)],[.undef,.undef])⟩
def t180:Tt:=tbl [(313,N72)]
def g181:=gx ⟨[0,1,2,4,6,7,13],[],[true,true],[]⟩ Tryz.f264
def N181:FnK tab:=⟨[.val (.slice 16 (.named .TSb)) (.no),.val (.named .TSq) (.no),.val (.int .i64) (.no)],Sl 16 (TSb)×Bool,fun a:Sl 16 (TSb)×TSq×W .i64×Unit=>F_sb_Put a.1 a.2.1 a.2.2.1,fun r:Sl 16 (TSb)×Bool=>(.tup [.val (.slice 16 (.named .TSb)) r.1 (.no),.val (.bool) r.2 (.no)],[.undef,.undef,.undef])⟩
def g182:=gx ⟨[0,1,4,5,6,17],[],[true,true,true],[]⟩ Tryz.f265
def N182:FnK tab:=⟨[.val (.slice 48 (.named .TLq)) (.no),.val (.int .u64) (.no)],Sl 48 (TLq)×TLq×Bool,fun a:Sl 48 (TLq)×W .u64×Unit=>F_lq_Pop a.1 a.2.1,fun r:Sl 48 (TLq)×TLq×Bool=>(.tup [.val (.slice 48 (.named .TLq)) r.1 (.no),.val (.named .TLq) r.2.1 (.no),.val (.bool) r.2.2 (.no)],[.undef,.undef])⟩
def t182:Tt:=tbl [(314,N67)]
def g183:=gx ⟨[0,1,2,3,4,5,6,7,8,9,10,11,12,20,21,34,47,53,65],[],[true,true],[]⟩ Tryz.f207
def N183:FnK tab:=⟨[.val (.named .TCore) (.no),.val (.named .TRob) (.no)],TCore×Bool,fun a:TCore×TRob×Unit=>F_retire_leaves a.1 a.2.1,fun r:TCore×Bool=>(.tup [.val (.named .TCore) r.1 (.no),.val (.bool) r.2 (.no)],[.undef,.undef])⟩
def t183:Tt:=tbl [(147,N173),(263,N180),(264,N181),(265,N182)]
def g184:=gx ⟨[0,1,4,5,6,8,9,10,12,14,19,20,21,22,32,57,58,59,63,91,92,93,94,102],[0],[true],[(7,[(0,.any),(1,.any),(5,.any),(19,.any),(20,.any),(21,.any)]),(8,[(0,.any),(1,.any),(4,.any),(5,.any)]),(9,[(0,.any),(1,.any),(5,.any),(19,.any),(20,.any),(21,.any)]),(32,[(0,.any),(1,.any),(5,.any),(9,.any),(10,.any),(57,.any),(58,.any)]),(33,[(0,.any),(1,.any),(5,.any),(9,.any),(10,.any)]),(34,[(0,.any),(1,.any),(5,.any),(9,.any),(10,.any),(57,.any),(58,.any)]),(57,[(0,.any),(5,.any),(9,.any),(10,.any),(91,.any),(92,.any),(93,.any)]),(58,[(0,.any),(5,.any),(9,.any),(10,.any)]),(59,[(0,.any),(5,.any),(9,.any),(10,.any),(91,.any),(92,.any),(93,.any)])]⟩ Tryz.f113
def K184_7:MarkK tab:=⟨[(0,.box (.named .TStage) (.st [.no,.no,.no,.no,.yes 0,.yes 0])),(1,.val (.slice 248 (.named .TRob)) (.no)),(5,.box (.named .TCore) (.no)),(19,.val (.slice 248 (.named .TRob)) (.no)),(20,.val (.int .i64) (.no)),(21,.val (.int .i64) (.no))],[(.ret,[(0,.box (.named .TStage) (.st [.no,.no,.no,.no,.yes 0,.yes 0])),(1,.val (.slice 248 (.named .TRob)) (.no)),(4,.val (.bool) (.no)),(5,.box (.named .TCore) (.no))]),((.exit 0),[(0,.box (.named .TStage) (.st [.no,.no,.no,.no,.yes 0,.yes 0])),(1,.val (.slice 248 (.named .TRob)) (.no)),(4,.undef),(5,.box (.named .TCore) (.no))])],L_retire_stage_whole_7⟩
def K184_32:MarkK tab:=⟨[(0,.box (.named .TStage) (.st [.no,.no,.no,.no,.yes 0,.yes 0])),(1,.val (.slice 248 (.named .TRob)) (.no)),(5,.box (.named .TCore) (.no)),(9,.box (.named .TEvent) (.no)),(10,.val (.bool) (.no)),(57,.val (.arr 2 (.named .TS305)) (.no)),(58,.val (.int .i64) (.no))],[((.exit 2),[(0,.box (.named .TStage) (.st [.no,.no,.no,.no,.yes 0,.yes 0])),(1,.val (.slice 248 (.named .TRob)) (.no)),(5,.box (.named .TCore) (.no)),(9,.box (.named .TEvent) (.no)),(10,.val (.bool) (.no))])],L_retire_stage_whole_32⟩
def K184_57:MarkK tab:=⟨[(0,.box (.named .TStage) (.st [.no,.no,.no,.no,.yes 0,.yes 0])),(5,.box (.named .TCore) (.no)),(9,.box (.named .TEvent) (.no)),(10,.val (.bool) (.no)),(91,.val (.slice 248 (.named .TRob)) (.no)),(92,.val (.int .i64) (.no)),(93,.val (.int .i64) (.no))],[((.exit 4),[(0,.box (.named .TStage) (.st [.no,.no,.no,.no,.yes 0,.yes 0])),(5,.box (.named .TCore) (.no)),(9,.box (.named .TEvent) (.no)),(10,.val (.bool) (.no))])],L_retire_stage_whole_57⟩
def N184:FnK tab:=⟨[.box (.named .TStage) (.st [.no,.no,.no,.no,.yes 0,.yes 0]),.val (.slice 248 (.named .TRob)) (.no)],Bool×TStage,fun a:TStage×Sl 248 (TRob)×Unit=>F_retire_stage_whole a.1 a.2.1,fun r:Bool×TStage=>(.val (.bool) r.1 (.no),[.box 0 (.named .TStage) r.2 (.st [.no,.no,.no,.no,.yes 0,.yes 0]),.undef])⟩
def t184:Tt:=tbl [(16,N109),(60,N49),(111,N84),(128,N100),(145,N170),(146,N171),(206,N178),(207,N183)]
def q184:Qt:=mtbl [(7,K184_7),(32,K184_32),(57,K184_57)]
def g185:=gx ⟨[0,2,3,4,5,6,14,17,23,32,47,53,71],[0],[true],[]⟩ Tryz.f28
def N185:FnK tab:=⟨[.box (.named .TStage) (.st [.no,.no,.no,.no,.yes 0,.yes 0])],Bool×TStage,fun a:TStage×Unit=>F_retire_stage_boundary a.1,fun r:Bool×TStage=>(.val (.bool) r.1 (.no),[.box 0 (.named .TStage) r.2 (.st [.no,.no,.no,.no,.yes 0,.yes 0])])⟩
def t185:Tt:=tbl [(16,N109),(46,N93),(103,N47),(104,N85),(105,N86),(106,N88),(107,N91),(109,N97),(110,N83),(111,N84),(112,N179),(113,N184)]
def g186:=gx ⟨[0,1,4,5],[],[true],[]⟩ Tryz.f266
def N186:FnK tab:=⟨[.val (.int .u32) (.no),.val (.int .i64) (.no)],W .u32,fun a:W .u32×W .i64×Unit=>F_bits_Sext a.1 a.2.1,fun r:W .u32=>(.val (.int .u32) r (.no),[.undef,.undef])⟩
def t186:Tt:=tbl [(218,N5)]
def g187:=gx ⟨[0,1,4,6],[],[true],[]⟩ Tryz.f209
def N187:FnK tab:=⟨[.val (.int .i64) (.no),.val (.int .u32) (.no)],W .i64,fun a:W .i64×W .u32×Unit=>F_inst_number a.1 a.2.1,fun r:W .i64=>(.val (.int .i64) r (.no),[.undef,.undef])⟩
def t187:Tt:=tbl [(92,N9),(130,N107),(266,N186)]
def g188:=gx ⟨[0,2,3,4,5,6,13,17,24,31,38,55],[],[true,true],[]⟩ Tryz.f114
def N188:FnK tab:=⟨[.val (.int .u32) (.no)],TInst×W .i64,fun a:W .u32×Unit=>F_inst_Dec a.1,fun r:TInst×W .i64=>(.tup [.val (.named .TInst) r.1 (.no),.val (.int .i64) r.2 (.no)],[.undef])⟩
def t188:Tt:=tbl [(24,N10),(91,N2),(208,N118),(209,N187)]
def g189:=gx ⟨[0,1,4,6,7,8,14,15,16,17,18,51],[],[true],[(11,[(0,.any),(15,.any),(16,.any),(17,.any)]),(12,[(4,.any)]),(13,[(0,.any),(15,.any),(16,.any),(17,.any)])]⟩ Tryz.f29
def K189_11:MarkK tab:=⟨[(0,.val (.int .i64) (.no)),(15,.val (.slice 72 (.named .TEvent)) (.no)),(16,.val (.int .i64) (.no)),(17,.val (.int .i64) (.no))],[(.ret,[(4,.val (.int .u32) (.no))]),((.exit 0),[(4,.undef)])],L_retire_lines_11⟩
def N189:FnK tab:=⟨[.val (.int .i64) (.no),.val (.slice 72 (.named .TEvent)) (.no)],W .u32,fun a:W .i64×Sl 72 (TEvent)×Unit=>F_retire_lines a.1 a.2.1,fun r:W .u32=>(.val (.int .u32) r (.no),[.undef,.undef])⟩
def t189:Tt:=tbl [(114,N188)]
def q189:Qt:=mtbl [(11,K189_11)]
def g190:=gx ⟨[0,1,2,3,4,5,7,8,9,10,11,12,13,17,24,38],[],[true,true,true,true,true],[(11,[(2,.any),(4,.any),(8,.any),(9,.any),(13,.any),(24,.any)]),(12,[(2,.any),(8,.any),(9,.any),(13,.any),(24,.fz)]),(13,[(2,.any),(4,.any),(8,.any),(9,.any),(13,.any),(24,.any)])]⟩ Tryz.f10
def K190_11:MarkK tab:=⟨[(2,.val (.int .i64) (.no)),(4,.box (.named .TCore) (.no)),(8,.box (.named .TCore) (.st [.no,.no,.yes 0,.yes 0,.no,.no,.no,.yes 0,.no,.yes 0,.no,.no,.yes 0,.yes 0,.yes 0,.yes 0,.yes 0,.yes 0,.yes 0,.no,.no])),(9,.box (.named .TCoh) (.st [.yes 0,.yes 0])),(13,.ptr 24 []),(24,.box (.named .TStage) (.st [.no,.no,.no,.no,.yes 0,.yes 0]))],[((.exit 0),[(2,.val (.int .i64) (.no)),(8,.box (.named .TCore) (.st [.no,.no,.yes 0,.yes 0,.no,.no,.no,.yes 0,.no,.yes 0,.no,.no,.yes 0,.yes 0,.yes 0,.yes 0,.yes 0,.yes 0,.yes 0,.no,.no])),(9,.box (.named .TCoh) (.st [.yes 0,.yes 0])),(13,.ptr 24 []),(24,.box (.named .TStage) (.no))])],L_retire_Stage_11⟩
def N190:FnK tab:=⟨[.val (.named .TCore) (.no),.val (.named .TCoh) (.no),.val (.int .i64) (.no),.val (.named .TTick) (.no)],TCore×TCoh×Sl 72 (TEvent)×W .u32×Sl 32 (TNote),fun a:TCore×TCoh×W .i64×TTick×Unit=>F_retire_Stage a.1 a.2.1 a.2.2.1 a.2.2.2.1,fun r:TCore×TCoh×Sl 72 (TEvent)×W .u32×Sl 32 (TNote)=>(.tup [.val (.named .TCore) r.1 (.no),.val (.named .TCoh) r.2.1 (.no),.val (.slice 72 (.named .TEvent)) r.2.2.1 (.no),.val (.int .u32) r.2.2.2.1 (.no),.val (.slice 32 (.named .TNote)) r.2.2.2.2 (.no)],[.undef,.undef,.undef,.undef])⟩
def t190:Tt:=tbl [(28,N185),(29,N189)]
def q190:Qt:=mtbl [(11,K190_11)]
def g191:=gx ⟨[0,1,3,4,5,6,7,8,9,10,11,14,15,16,40],[],[true],[]⟩ Tryz.f9
def N191:FnK tab:=⟨[],Bool,fun a:Unit=>F_law48_awake,fun r:Bool=>(.val (.bool) r (.no),[])⟩
def t191:Tt:=tbl [(10,N190),(24,N10),(25,N14),(26,N44),(27,N15)]
def g192:=gx ⟨[0,2,3,7,15],[],[true],[(5,[(0,.any),(3,.any)]),(6,[(2,.any)]),(7,[(0,.any),(3,.any)])]⟩ Tryz.f53
def K192_5:MarkK tab:=⟨[(0,.val (.slice 248 (.named .TRob)) (.no)),(3,.val (.int .i64) (.no))],[(.ret,[(2,.val (.int .i64) (.no))]),((.exit 0),[(2,.undef)])],L_ref48_caused_5⟩
def N192:FnK tab:=⟨[.val (.slice 248 (.named .TRob)) (.no)],W .i64,fun a:Sl 248 (TRob)×Unit=>F_ref48_caused a.1,fun r:W .i64=>(.val (.int .i64) r (.no),[.undef])⟩
def q192:Qt:=mtbl [(5,K192_5)]
def g193:=gx ⟨[0,1,2,3,15],[],[true,true],[]⟩ Tryz.f54
def N193:FnK tab:=⟨[.val (.named .TRob) (.no)],W .i64×W .u32,fun a:TRob×Unit=>F_ref48_dst a.1,fun r:W .i64×W .u32=>(.tup [.val (.int .i64) r.1 (.no),.val (.int .u32) r.2 (.no)],[.undef])⟩
def g194:=gx ⟨[0,1,2,4,10],[],[true],[]⟩ Tryz.f55
def N194:FnK tab:=⟨[.val (.named .TArch) (.no),.val (.int .i64) (.no)],W .u32,fun a:TArch×W .i64×Unit=>F_ref48_reg a.1 a.2.1,fun r:W .u32=>(.val (.int .u32) r (.no),[.undef,.undef])⟩
def g195:=gx ⟨[0,2,3,4,8,12],[],[true],[]⟩ Tryz.f56
def N195:FnK tab:=⟨[.val (.int .i64) (.no)],W .i64,fun a:W .i64×Unit=>F_ref24_Size a.1,fun r:W .i64=>(.val (.int .i64) r (.no),[.undef])⟩
def g196:=gx ⟨[0,1,2,6,9,13],[],[true],[]⟩ Tryz.f219
def N196:FnK tab:=⟨[.val (.int .i64) (.no),.val (.int .i64) (.no),.val (.int .i64) (.no)],W .i64,fun a:W .i64×W .i64×W .i64×Unit=>F_ref01_brought a.1 a.2.1 a.2.2.1,fun r:W .i64=>(.val (.int .i64) r (.no),[.undef,.undef,.undef])⟩
def g197:=gx ⟨[0,2,3,4,7],[],[true],[(7,[(0,.any),(3,.any),(4,.any)]),(8,[(3,.any)]),(9,[(0,.any),(3,.any),(4,.any)])]⟩ Tryz.f221
def K197_7:MarkK tab:=⟨[(0,.val (.int .i64) (.no)),(3,.val (.int .u32) (.no)),(4,.val (.int .i64) (.no))],[((.exit 0),[(3,.val (.int .u32) (.no))])],L_ref01_power_7⟩
def N197:FnK tab:=⟨[.val (.int .i64) (.no)],W .u32,fun a:W .i64×Unit=>F_ref01_power a.1,fun r:W .u32=>(.val (.int .u32) r (.no),[.undef])⟩
def q197:Qt:=mtbl [(7,K197_7)]
def g198:=gx ⟨[0,1,4],[],[true],[]⟩ Tryz.f220
def N198:FnK tab:=⟨[.val (.int .u32) (.no),.val (.int .i64) (.no)],W .u32,fun a:W .u32×W .i64×Unit=>F_ref01_bit a.1 a.2.1,fun r:W .u32=>(.val (.int .u32) r (.no),[.undef,.undef])⟩
def t198:Tt:=tbl [(221,N197)]
def g199:=gx ⟨[0,1,4,5,6,11],[],[true],[(9,[(0,.any),(1,.any),(5,.any),(6,.any)]),(10,[(5,.any)]),(11,[(0,.any),(1,.any),(5,.any),(6,.any)])]⟩ Tryz.f131
def K199_9:MarkK tab:=⟨[(0,.val (.int .u32) (.no)),(1,.val (.int .i64) (.no)),(5,.val (.int .u32) (.no)),(6,.val (.int .i64) (.no))],[((.exit 0),[(5,.val (.int .u32) (.no))])],L_ref01_Zext_9⟩
def N199:FnK tab:=⟨[.val (.int .u32) (.no),.val (.int .i64) (.no)],W .u32,fun a:W .u32×W .i64×Unit=>F_ref01_Zext a.1 a.2.1,fun r:W .u32=>(.val (.int .u32) r (.no),[.undef,.undef])⟩
def t199:Tt:=tbl [(219,N196),(220,N198),(221,N197)]
def q199:Qt:=mtbl [(9,K199_9)]
def g200:=gx ⟨[0,1,2,3,4,5,14],[],[true],[]⟩ Tryz.f57
def N200:FnK tab:=⟨[.val (.named .TUop) (.no),.val (.arr 3 (.int .u32)) (.no)],W .u32,fun a:TUop×Arr 3 (W .u32)×Unit=>F_ref32_Data a.1 a.2.1,fun r:W .u32=>(.val (.int .u32) r (.no),[.undef,.undef])⟩
def t200:Tt:=tbl [(56,N195),(131,N199)]
def g201:=gx ⟨[0,1,3,4,5,6,7,8,9,10,11,12,13,17,38,69,92,103],[],[true],[(47,[(0,.any),(3,.any),(4,.any),(5,.any),(11,.any)]),(48,[(4,.any),(5,.any)]),(49,[(0,.any),(3,.any),(4,.any),(5,.any),(11,.any)])]⟩ Tryz.f17
def K201_47:MarkK tab:=⟨[(0,.val (.slice 248 (.named .TRob)) (.no)),(3,.box (.named .TArch) (.no)),(4,.box (.named .TEvent) (.no)),(5,.box (.named .TEvent) (.no)),(11,.val (.int .i64) (.no))],[(.ret,[(4,.box (.named .TEvent) (.no)),(5,.box (.named .TEvent) (.no))]),((.exit 0),[(4,.box (.named .TEvent) (.no)),(5,.box (.named .TEvent) (.no))])],L_ref48_Event_47⟩
def N201:FnK tab:=⟨[.val (.slice 248 (.named .TRob)) (.no),.val (.named .TArch) (.no)],TEvent,fun a:Sl 248 (TRob)×TArch×Unit=>F_ref48_Event a.1 a.2.1,fun r:TEvent=>(.val (.named .TEvent) r (.no),[.undef,.undef])⟩
def t201:Tt:=tbl [(53,N192),(54,N193),(55,N194),(56,N195),(57,N200)]
def q201:Qt:=mtbl [(47,K201_47)]
def g202:=gx ⟨[0,1,3,4,7],[],[true],[]⟩ Tryz.f4
def N202:FnK tab:=⟨[.val (.slice 248 (.named .TRob)) (.no),.val (.named .TArch) (.no)],Bool,fun a:Sl 248 (TRob)×TArch×Unit=>F_law48_RetireTells a.1 a.2.1,fun r:Bool=>(.val (.bool) r (.no),[.undef,.undef])⟩
def t202:Tt:=tbl [(9,N191),(16,N109),(17,N201)]
end
end Go.Proofs.YtchpjkadpdajkaaGreatDoor
