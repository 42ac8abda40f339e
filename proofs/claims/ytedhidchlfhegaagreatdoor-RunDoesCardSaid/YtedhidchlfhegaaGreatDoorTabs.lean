/- YtedhidchlfhegaaGreatDoorTabs: the tables of functions and marks. No statement of the seat is proved here. -/
import Derived.Test.YtedhidchlfhegaaGreatDoorTrees
import Derived.Test.YtedhidchlfhegaaGreatDoorChecked
import Derived.Test.YtedhidchlfhegaaGreatDoorA2G
set_option linter.unusedSimpArgs false
set_option linter.unusedVariables false
set_option maxRecDepth 100000
namespace Go.Proofs.YtedhidchlfhegaaGreatDoor
open Go Go.A2
noncomputable section
abbrev Tt:=Nat→List (FnK tab)
abbrev Qt:=Nat→Option (MarkK tab)
def t0:Tt:=tbl []
def q0:Qt:=fun _=>none
def gx (x:FnX) (f:Func):AFn tab:=gOf Tryz.prog cx x f
abbrev OkN:=FnOk (X:=tab) Tryz.prog
abbrev Mo (t:Tt) (q:Qt) (g:AFn tab):=MarkOk (fnsC t) (markL q) g.keep fuel
def g1:=gx ⟨[0,2],[],[true],[]⟩ Tryz.f36
def N1:FnK tab:=⟨[.val (.slice 1 (.int .u8)) (.no)],Bool,fun a:Sl 1 (W .u8)×Unit=>F_ref10_Right a.1,fun r:Bool=>(.val (.bool) r (.no),[.undef])⟩
def g2:=gx ⟨[0,2,3,4,6,8,11,18],[],[true],[]⟩ Tryz.f37
def N2:FnK tab:=⟨[.val (.int .i64) (.no)],W .u32,fun a:W .i64×Unit=>F_ref11_Masked a.1,fun r:W .u32=>(.val (.int .u32) r (.no),[.undef])⟩
def g3:=gx ⟨[0,1,2,3,23,25,41],[],[true],[(11,[(1,.any),(3,.any)]),(12,[(2,.any)]),(13,[(1,.any),(3,.any)])]⟩ Tryz.f20
def K3_11:MarkK tab:=⟨[(1,.box (.named .TMach) (.no)),(3,.val (.int .i64) (.no))],[(.ret,[(2,.val (.bool) (.no))]),((.exit 0),[(2,.undef)])],L_ref15_Right_11⟩
def N3:FnK tab:=⟨[.val (.named .TMach) (.no)],Bool,fun a:TMach×Unit=>F_ref15_Right a.1,fun r:Bool=>(.val (.bool) r (.no),[.undef])⟩
def t3:Tt:=tbl [(36,N1),(37,N2)]
def q3:Qt:=mtbl [(11,K3_11)]
def g4:=gx ⟨[0,1,2],[],[true],[]⟩ Tryz.f7
def N4:FnK tab:=⟨[.val (.named .TMach) (.no)],Bool,fun a:TMach×Unit=>F_law15_Light a.1,fun r:Bool=>(.val (.bool) r (.no),[.undef])⟩
def t4:Tt:=tbl [(20,N3)]
def g5:=gx ⟨[0,1,2,4],[],[true],[]⟩ Tryz.f21
def N5:FnK tab:=⟨[.val (.named .TArch) (.no),.val (.int .u32) (.no)],TArch,fun a:TArch×W .u32×Unit=>F_csr_Raise a.1 a.2.1,fun r:TArch=>(.val (.named .TArch) r (.no),[.undef,.undef])⟩
def g6:=gx ⟨[0,1,2],[],[true],[]⟩ Tryz.f44
def N6:FnK tab:=⟨[.val (.named .TArch) (.no)],Bool,fun a:TArch×Unit=>F_csr_Kernel a.1,fun r:Bool=>(.val (.bool) r (.no),[.undef])⟩
def g7:=gx ⟨[0],[],[true],[]⟩ Tryz.f61
def N7:FnK tab:=⟨[],Arr 3 (TSource),fun a:Unit=>F_trap_sources,fun r:Arr 3 (TSource)=>(.val (.arr 3 (.named .TSource)) r (.no),[])⟩
def g8:=gx ⟨[0,1,2,3,5,14,22,23,24,30],[],[true],[(13,[(3,.any),(22,.any),(23,.any)]),(14,[(2,.any)]),(15,[(3,.any),(22,.any),(23,.any)])]⟩ Tryz.f38
def K8_13:MarkK tab:=⟨[(3,.val (.int .u32) (.no)),(22,.val (.arr 3 (.named .TSource)) (.no)),(23,.val (.int .i64) (.no))],[(.ret,[(2,.val (.int .i64) (.no))]),((.exit 0),[(2,.undef)])],L_trap_Pending_13⟩
def N8:FnK tab:=⟨[.val (.named .TArch) (.no)],W .i64,fun a:TArch×Unit=>F_trap_Pending a.1,fun r:W .i64=>(.val (.int .i64) r (.no),[.undef])⟩
def t8:Tt:=tbl [(44,N6),(61,N7)]
def q8:Qt:=mtbl [(13,K8_13)]
def g9:=gx ⟨[0,2,3,10],[],[true],[]⟩ Tryz.f74
def N9:FnK tab:=⟨[.val (.int .i64) (.no)],W .u32,fun a:W .i64×Unit=>F_csr_Masked a.1,fun r:W .u32=>(.val (.int .u32) r (.no),[.undef])⟩
def g10:=gx ⟨[0,1,2,6,10],[],[true],[]⟩ Tryz.f75
def N10:FnK tab:=⟨[.val (.int .u32) (.no),.val (.int .u32) (.no),.val (.int .u32) (.no)],W .u32,fun a:W .u32×W .u32×W .u32×Unit=>F_trap_moved a.1 a.2.1 a.2.2.1,fun r:W .u32=>(.val (.int .u32) r (.no),[.undef,.undef,.undef])⟩
def g11:=gx ⟨[0,1,2,3,4,8,9],[],[true],[]⟩ Tryz.f48
def N11:FnK tab:=⟨[.val (.named .TArch) (.no),.val (.int .i64) (.no),.val (.int .u32) (.no),.val (.int .u32) (.no)],TArch,fun a:TArch×W .i64×W .u32×W .u32×Unit=>F_trap_Take a.1 a.2.1 a.2.2.1 a.2.2.2.1,fun r:TArch=>(.val (.named .TArch) r (.no),[.undef,.undef,.undef,.undef])⟩
def t11:Tt:=tbl [(74,N9),(75,N10)]
def g12:=gx ⟨[0,1,2,3,4,8,9,10,11],[],[true,true,true],[]⟩ Tryz.f39
def N12:FnK tab:=⟨[.val (.named .TMach) (.no),.val (.int .u32) (.no),.val (.int .i64) (.no),.val (.int .u32) (.no)],TMach×TEvent×Bool,fun a:TMach×W .u32×W .i64×W .u32×Unit=>F_step_traps a.1 a.2.1 a.2.2.1 a.2.2.2.1,fun r:TMach×TEvent×Bool=>(.tup [.val (.named .TMach) r.1 (.no),.val (.named .TEvent) r.2.1 (.no),.val (.bool) r.2.2 (.no)],[.undef,.undef,.undef,.undef])⟩
def t12:Tt:=tbl [(48,N11)]
def g13:=gx ⟨[0,1,2,4,5],[],[true],[]⟩ Tryz.f40
def N13:FnK tab:=⟨[.val (.named .TArch) (.no),.val (.int .u32) (.no)],Bool,fun a:TArch×W .u32×Unit=>F_trap_Stops a.1 a.2.1,fun r:Bool=>(.val (.bool) r (.no),[.undef,.undef])⟩
def t13:Tt:=tbl [(44,N6)]
def g14:=gx ⟨[0,1,4],[],[true],[]⟩ Tryz.f88
def N14:FnK tab:=⟨[.val (.int .u32) (.no),.val (.int .i64) (.no)],Bool,fun a:W .u32×W .i64×Unit=>F_bits_Aligned a.1 a.2.1,fun r:Bool=>(.val (.bool) r (.no),[.undef,.undef])⟩
def g15:=gx ⟨[0,1,2],[],[true],[]⟩ Tryz.f129
def N15:FnK tab:=⟨[.val (.named .TArch) (.no)],Bool,fun a:TArch×Unit=>F_walk_Paged a.1,fun r:Bool=>(.val (.bool) r (.no),[.undef])⟩
def t15:Tt:=tbl [(44,N6)]
def g16:=gx ⟨[0,2,3,4,6,8],[],[true],[]⟩ Tryz.f130
def N16:FnK tab:=⟨[.val (.int .i64) (.no)],W .i64,fun a:W .i64×Unit=>F_walk_Fault a.1,fun r:W .i64=>(.val (.int .i64) r (.no),[.undef])⟩
def g17:=gx ⟨[0,1,2,6],[],[true],[]⟩ Tryz.f134
def N17:FnK tab:=⟨[.val (.int .i64) (.no),.val (.int .i64) (.no),.val (.int .i64) (.no)],W .i64,fun a:W .i64×W .i64×W .i64×Unit=>F_bits_clamp a.1 a.2.1 a.2.2.1,fun r:W .i64=>(.val (.int .i64) r (.no),[.undef,.undef,.undef])⟩
def g18:=gx ⟨[0,2],[],[true],[]⟩ Tryz.f135
def N18:FnK tab:=⟨[.val (.int .i64) (.no)],W .u32,fun a:W .i64×Unit=>F_bits_ones a.1,fun r:W .u32=>(.val (.int .u32) r (.no),[.undef])⟩
def g19:=gx ⟨[0,1,4,5,12],[],[true,true],[]⟩ Tryz.f92
def N19:FnK tab:=⟨[.val (.int .i64) (.no),.val (.int .i64) (.no)],W .u32×W .i64,fun a:W .i64×W .i64×Unit=>F_bits_mask a.1 a.2.1,fun r:W .u32×W .i64=>(.tup [.val (.int .u32) r.1 (.no),.val (.int .i64) r.2 (.no)],[.undef,.undef])⟩
def t19:Tt:=tbl [(134,N17),(135,N18)]
def g20:=gx ⟨[0,1,2,6,7,8],[],[true],[]⟩ Tryz.f64
def N20:FnK tab:=⟨[.val (.int .u32) (.no),.val (.int .i64) (.no),.val (.int .i64) (.no)],W .u32,fun a:W .u32×W .i64×W .i64×Unit=>F_bits_Field a.1 a.2.1 a.2.2.1,fun r:W .u32=>(.val (.int .u32) r (.no),[.undef,.undef,.undef])⟩
def t20:Tt:=tbl [(92,N19)]
def g21:=gx ⟨[0,1,4,5,6,11],[],[true],[]⟩ Tryz.f166
def N21:FnK tab:=⟨[.val (.int .u32) (.no),.val (.int .i64) (.no)],W .i64,fun a:W .u32×W .i64×Unit=>F_pte_Index a.1 a.2.1,fun r:W .i64=>(.val (.int .i64) r (.no),[.undef,.undef])⟩
def t21:Tt:=tbl [(64,N20)]
def g22:=gx ⟨[0,1,2,6,27],[],[true],[]⟩ Tryz.f90
def N22:FnK tab:=⟨[.val (.slice 1 (.int .u8)) (.no),.val (.int .u32) (.no),.val (.int .i64) (.no)],W .i64,fun a:Sl 1 (W .u8)×W .u32×W .i64×Unit=>F_mem_Check a.1 a.2.1 a.2.2.1,fun r:W .i64=>(.val (.int .i64) r (.no),[.undef,.undef,.undef])⟩
def g23:=gx ⟨[0,2,3,4,5,10,11,12,13],[],[true],[(7,[(3,.any),(10,.any),(11,.any),(12,.any)]),(8,[(3,.any)]),(9,[(3,.any),(10,.any),(11,.any),(12,.any)])]⟩ Tryz.f91
def K23_7:MarkK tab:=⟨[(3,.val (.int .u32) (.no)),(10,.val (.slice 1 (.int .u8)) (.no)),(11,.val (.int .i64) (.no)),(12,.val (.int .i64) (.no))],[((.exit 0),[(3,.val (.int .u32) (.no))])],L_bits_Of_7⟩
def N23:FnK tab:=⟨[.val (.slice 1 (.int .u8)) (.no)],W .u32,fun a:Sl 1 (W .u8)×Unit=>F_bits_Of a.1,fun r:W .u32=>(.val (.int .u32) r (.no),[.undef])⟩
def q23:Qt:=mtbl [(7,K23_7)]
def g24:=gx ⟨[0,1,2,6,7,8,14],[],[true,true],[]⟩ Tryz.f63
def N24:FnK tab:=⟨[.val (.slice 1 (.int .u8)) (.no),.val (.int .u32) (.no),.val (.int .i64) (.no)],W .u32×W .i64,fun a:Sl 1 (W .u8)×W .u32×W .i64×Unit=>F_mem_Read a.1 a.2.1 a.2.2.1,fun r:W .u32×W .i64=>(.tup [.val (.int .u32) r.1 (.no),.val (.int .i64) r.2 (.no)],[.undef,.undef,.undef])⟩
def t24:Tt:=tbl [(90,N22),(91,N23)]
def g25:=gx ⟨[0,2],[],[true],[]⟩ Tryz.f185
def N25:FnK tab:=⟨[.val (.int .u32) (.no)],TPte,fun a:W .u32×Unit=>F_pte_Of a.1,fun r:TPte=>(.val (.named .TPte) r (.no),[.undef])⟩
def t25:Tt:=tbl [(64,N20)]
def g26:=gx ⟨[0,1,4,5,6,7,18],[0],[true,true],[]⟩ Tryz.f165
def N26:FnK tab:=⟨[.box (.named .TWalker) (.st [.no,.yes 0]),.val (.int .u32) (.no)],TPte×Bool×TWalker,fun a:TWalker×W .u32×Unit=>F_walk_walker_entry a.1 a.2.1,fun r:TPte×Bool×TWalker=>(.tup [.val (.named .TPte) r.1 (.no),.val (.bool) r.2.1 (.no)],[.box 0 (.named .TWalker) r.2.2 (.st [.no,.yes 0]),.undef])⟩
def t26:Tt:=tbl [(63,N24),(185,N25)]
def g27:=gx ⟨[0,1,2],[],[true],[]⟩ Tryz.f167
def N27:FnK tab:=⟨[.val (.named .TPte) (.no)],Bool,fun a:TPte×Unit=>F_pte_Leaf a.1,fun r:Bool=>(.val (.bool) r (.no),[.undef])⟩
def g28:=gx ⟨[0,1,2,6,7,8,9,10,11,12,15,17,41,73],[],[true,true,true],[]⟩ Tryz.f131
def N28:FnK tab:=⟨[.val (.slice 1 (.int .u8)) (.no),.val (.int .u32) (.no),.val (.int .u32) (.no)],TPte×Sl 4 (W .u32)×Bool,fun a:Sl 1 (W .u8)×W .u32×W .u32×Unit=>F_walk_Walk a.1 a.2.1 a.2.2.1,fun r:TPte×Sl 4 (W .u32)×Bool=>(.tup [.val (.named .TPte) r.1 (.no),.val (.slice 4 (.int .u32)) r.2.1 (.no),.val (.bool) r.2.2 (.no)],[.undef,.undef,.undef])⟩
def t28:Tt:=tbl [(165,N26),(166,N21),(167,N27)]
def g29:=gx ⟨[0,1,2,3,6,7,9,12,13,17,21],[],[true],[]⟩ Tryz.f132
def N29:FnK tab:=⟨[.val (.named .TPte) (.no),.val (.int .i64) (.no),.val (.bool) (.no)],Bool,fun a:TPte×W .i64×Bool×Unit=>F_pte_Allows a.1 a.2.1 a.2.2.1,fun r:Bool=>(.val (.bool) r (.no),[.undef,.undef,.undef])⟩
def g30:=gx ⟨[0,1,2],[],[true],[]⟩ Tryz.f168
def N30:FnK tab:=⟨[.val (.named .TPte) (.no)],W .u32,fun a:TPte×Unit=>F_pte_page a.1,fun r:W .u32=>(.val (.int .u32) r (.no),[.undef])⟩
def g31:=gx ⟨[0,1,2,4],[],[true],[]⟩ Tryz.f133
def N31:FnK tab:=⟨[.val (.named .TPte) (.no),.val (.int .u32) (.no)],W .u32,fun a:TPte×W .u32×Unit=>F_pte_Addr a.1 a.2.1,fun r:W .u32=>(.val (.int .u32) r (.no),[.undef,.undef])⟩
def t31:Tt:=tbl [(168,N30)]
def g32:=gx ⟨[0,1,2,3,4,8,9,10,11,13,16,21,40],[],[true,true],[]⟩ Tryz.f89
def N32:FnK tab:=⟨[.val (.named .TArch) (.no),.val (.slice 1 (.int .u8)) (.no),.val (.int .u32) (.no),.val (.int .i64) (.no)],W .u32×W .i64,fun a:TArch×Sl 1 (W .u8)×W .u32×W .i64×Unit=>F_walk_Trans a.1 a.2.1 a.2.2.1 a.2.2.2.1,fun r:W .u32×W .i64=>(.tup [.val (.int .u32) r.1 (.no),.val (.int .i64) r.2 (.no)],[.undef,.undef,.undef,.undef])⟩
def t32:Tt:=tbl [(129,N15),(130,N16),(131,N28),(132,N29),(133,N31)]
def g33:=gx ⟨[0,1,2,3,4,5,10,11,12,13,17,29,35],[],[true,true],[]⟩ Tryz.f62
def N33:FnK tab:=⟨[.val (.named .TMach) (.no),.val (.slice 1 (.int .u8)) (.no),.val (.int .u32) (.no),.val (.int .i64) (.no),.val (.int .i64) (.no)],W .u32×W .i64,fun a:TMach×Sl 1 (W .u8)×W .u32×W .i64×W .i64×Unit=>F_step_reach a.1 a.2.1 a.2.2.1 a.2.2.2.1 a.2.2.2.2.1,fun r:W .u32×W .i64=>(.tup [.val (.int .u32) r.1 (.no),.val (.int .i64) r.2 (.no)],[.undef,.undef,.undef,.undef,.undef])⟩
def t33:Tt:=tbl [(88,N14),(89,N32),(90,N22)]
def g34:=gx ⟨[0,1,2,3,4,5,17],[],[true,true],[]⟩ Tryz.f41
def N34:FnK tab:=⟨[.val (.named .TMach) (.no)],W .u32×W .i64,fun a:TMach×Unit=>F_step_Fetch a.1,fun r:W .u32×W .i64=>(.tup [.val (.int .u32) r.1 (.no),.val (.int .i64) r.2 (.no)],[.undef])⟩
def t34:Tt:=tbl [(62,N33),(63,N24)]
def g35:=gx ⟨[0,2,3,10,17,20,27,34,37,40,43,46,49],[],[true],[]⟩ Tryz.f93
def N35:FnK tab:=⟨[.val (.int .i64) (.no)],W .i64,fun a:W .i64×Unit=>F_inst_Form a.1,fun r:W .i64=>(.val (.int .i64) r (.no),[.undef])⟩
def g36:=gx ⟨[0,1,4],[],[true],[]⟩ Tryz.f65
def N36:FnK tab:=⟨[.val (.int .i64) (.no),.val (.int .i64) (.no)],Bool,fun a:W .i64×W .i64×Unit=>F_inst_has a.1 a.2.1,fun r:Bool=>(.val (.bool) r (.no),[.undef,.undef])⟩
def t36:Tt:=tbl [(93,N35)]
def g37:=gx ⟨[0,1,4],[],[true],[]⟩ Tryz.f94
def N37:FnK tab:=⟨[.val (.int .u32) (.no),.val (.int .i64) (.no)],W .u32,fun a:W .u32×W .i64×Unit=>F_bits_Zext a.1 a.2.1,fun r:W .u32=>(.val (.int .u32) r (.no),[.undef,.undef])⟩
def t37:Tt:=tbl [(134,N17),(135,N18)]
def g38:=gx ⟨[0,2,5],[],[true],[]⟩ Tryz.f96
def N38:FnK tab:=⟨[.val (.int .i64) (.no)],W .i64,fun a:W .i64×Unit=>F_inst_width a.1,fun r:W .i64=>(.val (.int .i64) r (.no),[.undef])⟩
def t38:Tt:=tbl [(93,N35)]
def g39:=gx ⟨[0,1,4,5],[],[true],[]⟩ Tryz.f95
def N39:FnK tab:=⟨[.val (.int .u32) (.no),.val (.int .i64) (.no)],W .u32,fun a:W .u32×W .i64×Unit=>F_bits_Sext a.1 a.2.1,fun r:W .u32=>(.val (.int .u32) r (.no),[.undef,.undef])⟩
def t39:Tt:=tbl [(134,N17)]
def g40:=gx ⟨[0,1,4,6],[],[true],[]⟩ Tryz.f66
def N40:FnK tab:=⟨[.val (.int .i64) (.no),.val (.int .u32) (.no)],W .i64,fun a:W .i64×W .u32×Unit=>F_inst_number a.1 a.2.1,fun r:W .i64=>(.val (.int .i64) r (.no),[.undef,.undef])⟩
def t40:Tt:=tbl [(94,N37),(95,N39),(96,N38)]
def g41:=gx ⟨[0,1,4,5,6,16,24],[],[true],[]⟩ Tryz.f136
def N41:FnK tab:=⟨[.val (.int .i64) (.no),.val (.int .i64) (.no)],Bool,fun a:W .i64×W .i64×Unit=>F_inst_within a.1 a.2.1,fun r:Bool=>(.val (.bool) r (.no),[.undef,.undef])⟩
def g42:=gx ⟨[0,1,2,4,8,18,19,20,44,46,56],[],[true],[(11,[(1,.any),(18,.any),(19,.any)]),(12,[(1,.any),(2,.any)]),(13,[(1,.any),(18,.any),(19,.any)])]⟩ Tryz.f97
def K42_11:MarkK tab:=⟨[(1,.box (.named .TInst) (.no)),(18,.val (.arr 3 (.named .TS141)) (.no)),(19,.val (.int .i64) (.no))],[(.ret,[(1,.box (.named .TInst) (.no)),(2,.val (.int .i64) (.no))]),((.exit 0),[(1,.box (.named .TInst) (.no)),(2,.undef)])],L_inst_Right_11⟩
def N42:FnK tab:=⟨[.val (.named .TInst) (.no)],W .i64,fun a:TInst×Unit=>F_inst_Right a.1,fun r:W .i64=>(.val (.int .i64) r (.no),[.undef])⟩
def t42:Tt:=tbl [(65,N36),(93,N35),(136,N41)]
def q42:Qt:=mtbl [(11,K42_11)]
def g43:=gx ⟨[0,1,2,3,8,9,10],[],[true],[]⟩ Tryz.f98
def N43:FnK tab:=⟨[.val (.int .u32) (.no),.val (.int .i64) (.no),.val (.int .i64) (.no),.val (.int .u32) (.no)],W .u32,fun a:W .u32×W .i64×W .i64×W .u32×Unit=>F_bits_Put a.1 a.2.1 a.2.2.1 a.2.2.2.1,fun r:W .u32=>(.val (.int .u32) r (.no),[.undef,.undef,.undef,.undef])⟩
def t43:Tt:=tbl [(92,N19)]
def g44:=gx ⟨[0,1,2,3,4,5,9,32],[],[true,true],[]⟩ Tryz.f67
def N44:FnK tab:=⟨[.val (.named .TInst) (.no)],W .u32×W .i64,fun a:TInst×Unit=>F_inst_Enc a.1,fun r:W .u32×W .i64=>(.tup [.val (.int .u32) r.1 (.no),.val (.int .i64) r.2 (.no)],[.undef])⟩
def t44:Tt:=tbl [(65,N36),(96,N38),(97,N42),(98,N43)]
def g45:=gx ⟨[0,2,3,4,5,6,13,17,24,31,38,55],[],[true,true],[]⟩ Tryz.f42
def N45:FnK tab:=⟨[.val (.int .u32) (.no)],TInst×W .i64,fun a:W .u32×Unit=>F_inst_Dec a.1,fun r:TInst×W .i64=>(.tup [.val (.named .TInst) r.1 (.no),.val (.int .i64) r.2 (.no)],[.undef])⟩
def t45:Tt:=tbl [(64,N20),(65,N36),(66,N40),(67,N44)]
def g46:=gx ⟨[0,2],[],[true],[]⟩ Tryz.f43
def N46:FnK tab:=⟨[.val (.int .i64) (.no)],Bool,fun a:W .i64×Unit=>F_inst_Priv a.1,fun r:Bool=>(.val (.bool) r (.no),[.undef])⟩
def g47:=gx ⟨[0,2,3],[],[true],[]⟩ Tryz.f137
def N47:FnK tab:=⟨[.val (.bool) (.no)],W .u32,fun a:Bool×Unit=>F_alu_one a.1,fun r:W .u32=>(.val (.int .u32) r (.no),[.undef])⟩
def g48:=gx ⟨[0,2,3,5],[],[true],[(5,[(0,.any),(3,.any)]),(6,[(3,.any)]),(7,[(0,.any),(3,.any)])]⟩ Tryz.f169
def K48_5:MarkK tab:=⟨[(0,.val (.int .u32) (.no)),(3,.val (.int .i64) (.no))],[((.exit 0),[(3,.val (.int .i64) (.no))])],L_alu_Clz_5⟩
def N48:FnK tab:=⟨[.val (.int .u32) (.no)],W .i64,fun a:W .u32×Unit=>F_alu_Clz a.1,fun r:W .i64=>(.val (.int .i64) r (.no),[.undef])⟩
def q48:Qt:=mtbl [(5,K48_5)]
def g49:=gx ⟨[0,2,3,5],[],[true],[(5,[(0,.any),(3,.any)]),(6,[(3,.any)]),(7,[(0,.any),(3,.any)])]⟩ Tryz.f170
def K49_5:MarkK tab:=⟨[(0,.val (.int .u32) (.no)),(3,.val (.int .i64) (.no))],[((.exit 0),[(3,.val (.int .i64) (.no))])],L_alu_Pop_5⟩
def N49:FnK tab:=⟨[.val (.int .u32) (.no)],W .i64,fun a:W .u32×Unit=>F_alu_Pop a.1,fun r:W .i64=>(.val (.int .i64) r (.no),[.undef])⟩
def q49:Qt:=mtbl [(5,K49_5)]
def g50:=gx ⟨[0,2],[],[true],[]⟩ Tryz.f171
def N50:FnK tab:=⟨[.val (.int .u32) (.no)],W .u32,fun a:W .u32×Unit=>F_alu_Rev a.1,fun r:W .u32=>(.val (.int .u32) r (.no),[.undef])⟩
def g51:=gx ⟨[0,1,4,5,6,7,12,17],[],[true,true],[]⟩ Tryz.f138
def N51:FnK tab:=⟨[.val (.int .i64) (.no),.val (.int .u32) (.no)],W .u32×Bool,fun a:W .i64×W .u32×Unit=>F_alu_single a.1 a.2.1,fun r:W .u32×Bool=>(.tup [.val (.int .u32) r.1 (.no),.val (.bool) r.2 (.no)],[.undef,.undef])⟩
def t51:Tt:=tbl [(169,N48),(170,N49),(171,N50)]
def g52:=gx ⟨[0,2],[],[true],[]⟩ Tryz.f172
def N52:FnK tab:=⟨[.val (.int .u32) (.no)],W .u32,fun a:W .u32×Unit=>F_alu_low a.1,fun r:W .u32=>(.val (.int .u32) r (.no),[.undef])⟩
def g53:=gx ⟨[0,1,4,5],[],[true],[]⟩ Tryz.f186
def N53:FnK tab:=⟨[.val (.int .u32) (.no),.val (.int .i64) (.no)],W .u32,fun a:W .u32×W .i64×Unit=>F_bits_RotateLeft32 a.1 a.2.1,fun r:W .u32=>(.val (.int .u32) r (.no),[.undef,.undef])⟩
def g54:=gx ⟨[0,1,4],[],[true],[]⟩ Tryz.f173
def N54:FnK tab:=⟨[.val (.int .u32) (.no),.val (.int .i64) (.no)],W .u32,fun a:W .u32×W .i64×Unit=>F_bits_Rot a.1 a.2.1,fun r:W .u32=>(.val (.int .u32) r (.no),[.undef,.undef])⟩
def t54:Tt:=tbl [(186,N53)]
def g55:=gx ⟨[0,1,2,6,7,8,9,15,21,27,34,41,50],[],[true,true],[]⟩ Tryz.f139
def N55:FnK tab:=⟨[.val (.int .i64) (.no),.val (.int .u32) (.no),.val (.int .u32) (.no)],W .u32×Bool,fun a:W .i64×W .u32×W .u32×Unit=>F_alu_logic a.1 a.2.1 a.2.2.1,fun r:W .u32×Bool=>(.tup [.val (.int .u32) r.1 (.no),.val (.bool) r.2 (.no)],[.undef,.undef,.undef])⟩
def t55:Tt:=tbl [(172,N52),(173,N54)]
def g56:=gx ⟨[0,1,2,6,7,8,9,15,20,29,35,43,51,55],[],[true,true],[]⟩ Tryz.f99
def N56:FnK tab:=⟨[.val (.int .i64) (.no),.val (.int .u32) (.no),.val (.int .u32) (.no)],W .u32×Bool,fun a:W .i64×W .u32×W .u32×Unit=>F_alu_Do a.1 a.2.1 a.2.2.1,fun r:W .u32×Bool=>(.tup [.val (.int .u32) r.1 (.no),.val (.bool) r.2 (.no)],[.undef,.undef,.undef])⟩
def t56:Tt:=tbl [(137,N47),(138,N51),(139,N55)]
def g57:=gx ⟨[0,1,4],[],[true],[]⟩ Tryz.f141
def N57:FnK tab:=⟨[.val (.int .u32) (.no),.val (.int .u32) (.no)],TMul,fun a:W .u32×W .u32×Unit=>F_mul_New a.1 a.2.1,fun r:TMul=>(.val (.named .TMul) r (.no),[.undef,.undef])⟩
def g58:=gx ⟨[0,1,2,3,4,7,15],[],[true],[]⟩ Tryz.f174
def N58:FnK tab:=⟨[.val (.named .TMul) (.no)],TMul,fun a:TMul×Unit=>F_mul_Step a.1,fun r:TMul=>(.val (.named .TMul) r (.no),[.undef])⟩
def g59:=gx ⟨[0,1,2,3,10,11,12],[],[true,true],[(7,[(1,.any),(10,.any),(11,.any)]),(8,[(1,.any)]),(9,[(1,.any),(10,.any),(11,.any)])]⟩ Tryz.f140
def K59_7:MarkK tab:=⟨[(1,.box (.named .TMul) (.no)),(10,.val (.int .i64) (.no)),(11,.val (.int .i64) (.no))],[((.exit 0),[(1,.box (.named .TMul) (.no))])],L_mul_Run_7⟩
def N59:FnK tab:=⟨[.val (.named .TMul) (.no)],W .u32×W .u32,fun a:TMul×Unit=>F_mul_Run a.1,fun r:W .u32×W .u32=>(.tup [.val (.int .u32) r.1 (.no),.val (.int .u32) r.2 (.no)],[.undef])⟩
def t59:Tt:=tbl [(174,N58)]
def q59:Qt:=mtbl [(7,K59_7)]
def g60:=gx ⟨[0,1,4,7],[],[true],[]⟩ Tryz.f142
def N60:FnK tab:=⟨[.val (.int .u32) (.no),.val (.int .u32) (.no)],W .u32,fun a:W .u32×W .u32×Unit=>F_mul_less a.1 a.2.1,fun r:W .u32=>(.val (.int .u32) r (.no),[.undef,.undef])⟩
def g61:=gx ⟨[0,1,2,6,7,8,9,17,18,21,24],[],[true,true],[]⟩ Tryz.f100
def N61:FnK tab:=⟨[.val (.int .i64) (.no),.val (.int .u32) (.no),.val (.int .u32) (.no)],W .u32×Bool,fun a:W .i64×W .u32×W .u32×Unit=>F_mul_Do a.1 a.2.1 a.2.2.1,fun r:W .u32×Bool=>(.tup [.val (.int .u32) r.1 (.no),.val (.bool) r.2 (.no)],[.undef,.undef,.undef])⟩
def t61:Tt:=tbl [(140,N59),(141,N57),(142,N60)]
def g62:=gx ⟨[0,1,4],[],[true],[]⟩ Tryz.f144
def N62:FnK tab:=⟨[.val (.int .u32) (.no),.val (.int .u32) (.no)],TDiv,fun a:W .u32×W .u32×Unit=>F_div_New a.1 a.2.1,fun r:TDiv=>(.val (.named .TDiv) r (.no),[.undef,.undef])⟩
def g63:=gx ⟨[0,2],[],[true],[]⟩ Tryz.f175
def N63:FnK tab:=⟨[.val (.int .i64) (.no)],W .i64,fun a:W .i64×Unit=>F_div_left a.1,fun r:W .i64=>(.val (.int .i64) r (.no),[.undef])⟩
def g64:=gx ⟨[0,1,2,3,10,37],[],[true],[]⟩ Tryz.f176
def N64:FnK tab:=⟨[.val (.named .TDiv) (.no)],TDiv,fun a:TDiv×Unit=>F_div_Step a.1,fun r:TDiv=>(.val (.named .TDiv) r (.no),[.undef])⟩
def t64:Tt:=tbl [(175,N63)]
def g65:=gx ⟨[0,1,2,3,6,7,8],[],[true,true],[(5,[(1,.any),(6,.any),(7,.any)]),(6,[(1,.any)]),(7,[(1,.any),(6,.any),(7,.any)])]⟩ Tryz.f143
def K65_5:MarkK tab:=⟨[(1,.box (.named .TDiv) (.no)),(6,.val (.int .i64) (.no)),(7,.val (.int .i64) (.no))],[((.exit 0),[(1,.box (.named .TDiv) (.no))])],L_div_Run_5⟩
def N65:FnK tab:=⟨[.val (.named .TDiv) (.no)],W .u32×W .u32,fun a:TDiv×Unit=>F_div_Run a.1,fun r:W .u32×W .u32=>(.tup [.val (.int .u32) r.1 (.no),.val (.int .u32) r.2 (.no)],[.undef])⟩
def t65:Tt:=tbl [(175,N63),(176,N64)]
def q65:Qt:=mtbl [(5,K65_5)]
def g66:=gx ⟨[0,2,5],[],[true],[]⟩ Tryz.f145
def N66:FnK tab:=⟨[.val (.int .u32) (.no)],W .u32,fun a:W .u32×Unit=>F_div_away a.1,fun r:W .u32=>(.val (.int .u32) r (.no),[.undef])⟩
def g67:=gx ⟨[0,1,2,6,7,8,11,12,13,14,15,25,35,48,58,63,67],[],[true,true],[]⟩ Tryz.f101
def N67:FnK tab:=⟨[.val (.int .i64) (.no),.val (.int .u32) (.no),.val (.int .u32) (.no)],W .u32×Bool,fun a:W .i64×W .u32×W .u32×Unit=>F_div_Do a.1 a.2.1 a.2.2.1,fun r:W .u32×Bool=>(.tup [.val (.int .u32) r.1 (.no),.val (.bool) r.2 (.no)],[.undef,.undef,.undef])⟩
def t67:Tt:=tbl [(143,N65),(144,N62),(145,N66)]
def g68:=gx ⟨[0,1,2,6,8],[],[true],[]⟩ Tryz.f102
def N68:FnK tab:=⟨[.val (.int .u32) (.no),.val (.int .u32) (.no),.val (.int .u32) (.no)],W .u32,fun a:W .u32×W .u32×W .u32×Unit=>F_alu_Cmov a.1 a.2.1 a.2.2.1,fun r:W .u32=>(.val (.int .u32) r (.no),[.undef,.undef,.undef])⟩
def g69:=gx ⟨[0,1,2,7],[0],[],[]⟩ Tryz.f103
def N69:FnK tab:=⟨[.box (.named .TWork) (.no),.val (.int .i64) (.no),.val (.int .u32) (.no)],TWork,fun a:TWork×W .i64×W .u32×Unit=>F_step_work_put a.1 a.2.1 a.2.2.1,fun r:TWork=>(.tup [],[.box 0 (.named .TWork) r (.no),.undef,.undef])⟩
def g70:=gx ⟨[0,1,2,3,5,8,9,17,30,40,55],[0],[],[(3,[(0,.any),(2,.any),(3,.any),(5,.any),(17,.any)]),(4,[(0,.any),(2,.any),(3,.any),(5,.any)]),(5,[(0,.any),(2,.any),(3,.any),(5,.any)]),(6,[(0,.any)]),(11,[(0,.any),(2,.any),(3,.any),(5,.any),(8,.any),(9,.any)]),(12,[(0,.any)]),(15,[(0,.any),(2,.any),(3,.any),(5,.any),(8,.any),(9,.any)]),(16,[(0,.any)]),(17,[(0,.any),(2,.any),(3,.any),(5,.any),(8,.any),(55,.any)]),(18,[(0,.any),(5,.any),(8,.any)]),(19,[(0,.any),(5,.any),(8,.any)]),(20,[(0,.any)])]⟩ Tryz.f68
def K70_3:MarkK tab:=⟨[(0,.box (.named .TWork) (.no)),(2,.val (.int .u32) (.no)),(3,.val (.int .u32) (.no)),(5,.box (.named .TInst) (.no)),(17,.val (.bool) (.no))],[(.normal,[(0,.box (.named .TWork) (.no)),(2,.val (.int .u32) (.no)),(3,.val (.int .u32) (.no)),(5,.box (.named .TInst) (.no))])],L_step_work_reckon_3⟩
def K70_17:MarkK tab:=⟨[(0,.box (.named .TWork) (.no)),(2,.val (.int .u32) (.no)),(3,.val (.int .u32) (.no)),(5,.box (.named .TInst) (.no)),(8,.val (.int .u32) (.no)),(55,.val (.bool) (.no))],[(.normal,[(0,.box (.named .TWork) (.no)),(5,.box (.named .TInst) (.no)),(8,.val (.int .u32) (.no))])],L_step_work_reckon_17⟩
def K70_19:MarkK tab:=⟨[(0,.box (.named .TWork) (.no)),(5,.box (.named .TInst) (.no)),(8,.val (.int .u32) (.no))],[(.normal,[(0,.box (.named .TWork) (.no))])],L_step_work_reckon_19⟩
def K70_15:MarkK tab:=⟨[(0,.box (.named .TWork) (.no)),(2,.val (.int .u32) (.no)),(3,.val (.int .u32) (.no)),(5,.box (.named .TInst) (.no)),(8,.val (.int .u32) (.no)),(9,.val (.bool) (.no))],[(.normal,[(0,.box (.named .TWork) (.no))])],L_step_work_reckon_15⟩
def K70_11:MarkK tab:=⟨[(0,.box (.named .TWork) (.no)),(2,.val (.int .u32) (.no)),(3,.val (.int .u32) (.no)),(5,.box (.named .TInst) (.no)),(8,.val (.int .u32) (.no)),(9,.val (.bool) (.no))],[(.normal,[(0,.box (.named .TWork) (.no))])],L_step_work_reckon_11⟩
def K70_5:MarkK tab:=⟨[(0,.box (.named .TWork) (.no)),(2,.val (.int .u32) (.no)),(3,.val (.int .u32) (.no)),(5,.box (.named .TInst) (.no))],[(.normal,[(0,.box (.named .TWork) (.no))])],L_step_work_reckon_5⟩
def N70:FnK tab:=⟨[.box (.named .TWork) (.no),.val (.named .TInst) (.no),.val (.int .u32) (.no),.val (.int .u32) (.no)],TWork,fun a:TWork×TInst×W .u32×W .u32×Unit=>F_step_work_reckon a.1 a.2.1 a.2.2.1 a.2.2.2.1,fun r:TWork=>(.tup [],[.box 0 (.named .TWork) r (.no),.undef,.undef,.undef])⟩
def t70:Tt:=tbl [(99,N56),(100,N61),(101,N67),(102,N68),(103,N69)]
def q70:Qt:=mtbl [(3,K70_3),(17,K70_17),(19,K70_19),(15,K70_15),(11,K70_11),(5,K70_5)]
def g71:=gx ⟨[0,2,3,4,8],[],[true],[]⟩ Tryz.f104
def N71:FnK tab:=⟨[.val (.int .i64) (.no)],W .i64,fun a:W .i64×Unit=>F_step_sizeOf a.1,fun r:W .i64=>(.val (.int .i64) r (.no),[.undef])⟩
def g72:=gx ⟨[0,1,2],[0],[],[]⟩ Tryz.f105
def N72:FnK tab:=⟨[.box (.named .TWork) (.no),.val (.int .i64) (.no),.val (.int .u32) (.no)],TWork,fun a:TWork×W .i64×W .u32×Unit=>F_step_work_fails a.1 a.2.1 a.2.2.1,fun r:TWork=>(.tup [],[.box 0 (.named .TWork) r (.no),.undef,.undef])⟩
def g73:=gx ⟨[0,1,2,4,6,7,8,9,10,22,40,57,58,65,76],[0],[],[]⟩ Tryz.f69
def N73:FnK tab:=⟨[.box (.named .TWork) (.no),.val (.named .TInst) (.no),.val (.int .u32) (.no)],TWork,fun a:TWork×TInst×W .u32×Unit=>F_step_work_loads a.1 a.2.1 a.2.2.1,fun r:TWork=>(.tup [],[.box 0 (.named .TWork) r (.no),.undef,.undef])⟩
def t73:Tt:=tbl [(62,N33),(63,N24),(95,N39),(103,N69),(104,N71),(105,N72)]
def N74:FnK tab:=cloneK 1 (.int .u8)
def g75:=gx ⟨[0,1,4,5,6,11,12,13],[],[true],[(7,[(0,.any),(5,.any),(11,.any),(12,.any)]),(8,[(5,.any)]),(9,[(0,.any),(5,.any),(11,.any),(12,.any)])]⟩ Tryz.f178
def K75_7:MarkK tab:=⟨[(0,.val (.int .u32) (.no)),(5,.val (.slice 1 (.int .u8)) (.yes 0)),(11,.val (.int .i64) (.no)),(12,.val (.int .i64) (.no))],[((.exit 0),[(5,.val (.slice 1 (.int .u8)) (.yes 0))])],L_bits_Bytes_7⟩
def N75:FnK tab:=⟨[.val (.int .u32) (.no),.val (.int .i64) (.no)],Sl 1 (W .u8),fun a:W .u32×W .i64×Unit=>F_bits_Bytes a.1 a.2.1,fun r:Sl 1 (W .u8)=>(.val (.slice 1 (.int .u8)) r (.no),[.undef,.undef])⟩
def t75:Tt:=tbl [(134,N17)]
def q75:Qt:=mtbl [(7,K75_7)]
def g76:=gx ⟨[0,1,2,3,8,9,10,11,17],[],[true,true],[]⟩ Tryz.f146
def N76:FnK tab:=⟨[.val (.slice 1 (.int .u8)) (.no),.val (.int .u32) (.no),.val (.int .i64) (.no),.val (.int .u32) (.no)],Sl 1 (W .u8)×W .i64,fun a:Sl 1 (W .u8)×W .u32×W .i64×W .u32×Unit=>F_mem_Write a.1 a.2.1 a.2.2.1 a.2.2.2.1,fun r:Sl 1 (W .u8)×W .i64=>(.tup [.val (.slice 1 (.int .u8)) r.1 (.no),.val (.int .i64) r.2 (.no)],[.undef,.undef,.undef,.undef])⟩
def t76:Tt:=tbl [(90,N22),(177,N74),(178,N75)]
def g77:=gx ⟨[0,1,2,3,8,9,23],[0],[],[]⟩ Tryz.f106
def N77:FnK tab:=⟨[.box (.named .TWork) (.no),.val (.int .u32) (.no),.val (.int .i64) (.no),.val (.int .u32) (.no)],TWork,fun a:TWork×W .u32×W .i64×W .u32×Unit=>F_step_work_stores a.1 a.2.1 a.2.2.1 a.2.2.2.1,fun r:TWork=>(.tup [],[.box 0 (.named .TWork) r (.no),.undef,.undef,.undef])⟩
def t77:Tt:=tbl [(94,N37),(146,N76)]
def g78:=gx ⟨[0,1,2,3,5,8,9,10,11,36],[0],[],[]⟩ Tryz.f70
def N78:FnK tab:=⟨[.box (.named .TWork) (.no),.val (.named .TInst) (.no),.val (.int .u32) (.no),.val (.int .u32) (.no)],TWork,fun a:TWork×TInst×W .u32×W .u32×Unit=>F_step_work_keeps a.1 a.2.1 a.2.2.1 a.2.2.2.1,fun r:TWork=>(.tup [],[.box 0 (.named .TWork) r (.no),.undef,.undef,.undef])⟩
def t78:Tt:=tbl [(62,N33),(104,N71),(105,N72),(106,N77)]
def g79:=gx ⟨[0,1,2,6,7,8,13,18,25,32,37],[],[true],[]⟩ Tryz.f107
def N79:FnK tab:=⟨[.val (.int .i64) (.no),.val (.int .u32) (.no),.val (.int .u32) (.no)],Bool,fun a:W .i64×W .u32×W .u32×Unit=>F_alu_Taken a.1 a.2.1 a.2.2.1,fun r:Bool=>(.val (.bool) r (.no),[.undef,.undef,.undef])⟩
def g80:=gx ⟨[0,1,2,3,5,8,9,27,32,37,48],[0],[],[]⟩ Tryz.f71
def N80:FnK tab:=⟨[.box (.named .TWork) (.no),.val (.named .TInst) (.no),.val (.int .u32) (.no),.val (.int .u32) (.no)],TWork,fun a:TWork×TInst×W .u32×W .u32×Unit=>F_step_work_goes a.1 a.2.1 a.2.2.1 a.2.2.2.1,fun r:TWork=>(.tup [],[.box 0 (.named .TWork) r (.no),.undef,.undef,.undef])⟩
def t80:Tt:=tbl [(103,N69),(107,N79)]
def g81:=gx ⟨[0,1,2,3,5,8,9,10,27,42,52],[0],[],[]⟩ Tryz.f72
def N81:FnK tab:=⟨[.box (.named .TWork) (.no),.val (.named .TInst) (.no),.val (.int .u32) (.no),.val (.int .u32) (.no)],TWork,fun a:TWork×TInst×W .u32×W .u32×Unit=>F_step_work_atOnce a.1 a.2.1 a.2.2.1 a.2.2.2.1,fun r:TWork=>(.tup [],[.box 0 (.named .TWork) r (.no),.undef,.undef,.undef])⟩
def t81:Tt:=tbl [(62,N33),(63,N24),(103,N69),(105,N72),(106,N77)]
def g82:=gx ⟨[0,1,2,3,4,7],[],[true,true],[]⟩ Tryz.f108
def N82:FnK tab:=⟨[.val (.named .TArch) (.no)],TArch×W .i64,fun a:TArch×Unit=>F_trap_Return a.1,fun r:TArch×W .i64=>(.tup [.val (.named .TArch) r.1 (.no),.val (.int .i64) r.2 (.no)],[.undef])⟩
def t82:Tt:=tbl [(44,N6),(75,N10)]
def g83:=gx ⟨[0,1,2,3,6,13,19],[],[true],[]⟩ Tryz.f147
def N83:FnK tab:=⟨[.val (.named .TArch) (.no),.val (.int .i64) (.no),.val (.bool) (.no)],W .i64,fun a:TArch×W .i64×Bool×Unit=>F_csr_may a.1 a.2.1 a.2.2.1,fun r:W .i64=>(.val (.int .i64) r (.no),[.undef,.undef,.undef])⟩
def t83:Tt:=tbl [(44,N6)]
def g84:=gx ⟨[0,1,2,4,5,6,13],[],[true,true],[]⟩ Tryz.f109
def N84:FnK tab:=⟨[.val (.named .TArch) (.no),.val (.int .i64) (.no)],W .u32×W .i64,fun a:TArch×W .i64×Unit=>F_csr_Read a.1 a.2.1,fun r:W .u32×W .i64=>(.tup [.val (.int .u32) r.1 (.no),.val (.int .i64) r.2 (.no)],[.undef,.undef])⟩
def t84:Tt:=tbl [(147,N83)]
def g85:=gx ⟨[0,1,2,3,6,7,8,13],[],[true,true],[]⟩ Tryz.f110
def N85:FnK tab:=⟨[.val (.named .TArch) (.no),.val (.int .i64) (.no),.val (.int .u32) (.no)],TArch×W .i64,fun a:TArch×W .i64×W .u32×Unit=>F_csr_Write a.1 a.2.1 a.2.2.1,fun r:TArch×W .i64=>(.tup [.val (.named .TArch) r.1 (.no),.val (.int .i64) r.2 (.no)],[.undef,.undef,.undef])⟩
def t85:Tt:=tbl [(74,N9),(147,N83)]
def g86:=gx ⟨[0,1,2,4,6,7,8,9,10,11,13,14,18,30,49,63,77,92,106,118,150,157],[0],[],[(0,[(0,.fz)])]⟩ Tryz.f73
def N86:FnK tab:=⟨[.box (.named .TWork) (.no),.val (.named .TInst) (.no),.val (.int .u32) (.no)],TWork,fun a:TWork×TInst×W .u32×Unit=>F_step_work_system a.1 a.2.1 a.2.2.1,fun r:TWork=>(.tup [],[.box 0 (.named .TWork) r (.no),.undef,.undef])⟩
def t86:Tt:=tbl [(103,N69),(105,N72),(108,N82),(109,N84),(110,N85)]
def g87:=gx ⟨[0,1,2,3,5,6,7,8,9,10,36,44,51,59,67],[],[true],[]⟩ Tryz.f45
def N87:FnK tab:=⟨[.val (.named .TMach) (.no),.val (.int .u32) (.no),.val (.named .TInst) (.no)],TWork,fun a:TMach×W .u32×TInst×Unit=>F_step_does a.1 a.2.1 a.2.2.1,fun r:TWork=>(.val (.named .TWork) r (.no),[.undef,.undef,.undef])⟩
def t87:Tt:=tbl [(68,N70),(69,N73),(70,N78),(71,N80),(72,N81),(73,N86)]
def g88:=gx ⟨[0,1,2,3,21],[],[true],[]⟩ Tryz.f46
def N88:FnK tab:=⟨[.val (.named .TArch) (.no)],TArch,fun a:TArch×Unit=>F_csr_Count a.1,fun r:TArch=>(.val (.named .TArch) r (.no),[.undef])⟩
def g89:=gx ⟨[0,1,2],[],[true],[]⟩ Tryz.f47
def N89:FnK tab:=⟨[.val (.named .TArch) (.no)],Bool,fun a:TArch×Unit=>F_trap_Single a.1,fun r:Bool=>(.val (.bool) r (.no),[.undef])⟩
def t89:Tt:=tbl [(44,N6)]
def g90:=gx ⟨[0,1,2,3,4,5,6,7,8,9,10,13,20,32,47,63,79,93,124],[],[true,true,true],[]⟩ Tryz.f22
def N90:FnK tab:=⟨[.val (.named .TMach) (.no)],TMach×TEvent×Bool,fun a:TMach×Unit=>F_step_Step a.1,fun r:TMach×TEvent×Bool=>(.tup [.val (.named .TMach) r.1 (.no),.val (.named .TEvent) r.2.1 (.no),.val (.bool) r.2.2 (.no)],[.undef])⟩
def t90:Tt:=tbl [(38,N8),(39,N12),(40,N13),(41,N34),(42,N45),(43,N46),(44,N6),(45,N87),(46,N88),(47,N89),(48,N11)]
def g91:=gx ⟨[0,1,2,3,6,7,8,9,11,12,13,14,17,18,19,21,22,23,24,30,45],[],[true,true],[(7,[(1,.any),(3,.any),(6,.any),(8,.own),(17,.any),(18,.any)]),(8,[(3,.any),(6,.any),(8,.any)]),(9,[(1,.any),(3,.any),(6,.any),(8,.own),(17,.any),(18,.any)]),(18,[(1,.any),(3,.any),(6,.any),(8,.any),(9,.any),(17,.any),(18,.any),(21,.any),(22,.any),(23,.any)]),(19,[(1,.any),(3,.any),(6,.any),(8,.any),(17,.any),(18,.any)]),(20,[(1,.any),(3,.any),(6,.any),(8,.any),(9,.any),(17,.any),(18,.any),(21,.any),(22,.any),(23,.any)])]⟩ Tryz.f10
def K91_18:MarkK tab:=⟨[(1,.val (.slice 16 (.named .TIrq)) (.no)),(3,.box (.named .TMach) (.no)),(6,.box (.named .TMach) (.st [.no,.yes 0,.yes 0,.yes 0])),(8,.val (.slice 72 (.named .TEvent)) (.yes 0)),(9,.val (.int .i64) (.no)),(17,.val (.int .i64) (.no)),(18,.val (.int .i64) (.no)),(21,.val (.slice 16 (.named .TIrq)) (.no)),(22,.val (.int .i64) (.no)),(23,.val (.int .i64) (.no))],[((.exit 2),[(1,.val (.slice 16 (.named .TIrq)) (.no)),(3,.box (.named .TMach) (.no)),(6,.box (.named .TMach) (.st [.no,.yes 0,.yes 0,.yes 0])),(8,.val (.slice 72 (.named .TEvent)) (.yes 0)),(17,.val (.int .i64) (.no)),(18,.val (.int .i64) (.no))])],L_run_Run_18⟩
def K91_7:MarkK tab:=⟨[(1,.val (.slice 16 (.named .TIrq)) (.no)),(3,.box (.named .TMach) (.no)),(6,.box (.named .TMach) (.st [.no,.yes 0,.yes 0,.yes 0])),(8,.val (.slice 72 (.named .TEvent)) (.yes 0)),(17,.val (.int .i64) (.no)),(18,.val (.int .i64) (.no))],[((.exit 0),[(3,.box (.named .TMach) (.no)),(6,.box (.named .TMach) (.st [.no,.yes 0,.yes 0,.yes 0])),(8,.val (.slice 72 (.named .TEvent)) (.yes 0))])],L_run_Run_7⟩
def N91:FnK tab:=⟨[.val (.named .TMach) (.no),.val (.slice 16 (.named .TIrq)) (.no),.val (.int .i64) (.no)],TMach×Sl 72 (TEvent),fun a:TMach×Sl 16 (TIrq)×W .i64×Unit=>F_run_Run a.1 a.2.1 a.2.2.1,fun r:TMach×Sl 72 (TEvent)=>(.tup [.val (.named .TMach) r.1 (.no),.val (.slice 72 (.named .TEvent)) r.2 (.no)],[.undef,.undef,.undef])⟩
def t91:Tt:=tbl [(21,N5),(22,N90)]
def q91:Qt:=mtbl [(18,K91_18),(7,K91_7)]
def g92:=gx ⟨[0,2,3,4,5,6],[],[true],[(7,[(0,.any),(3,.any),(5,.any)]),(8,[(3,.any)]),(9,[(0,.any),(3,.any),(5,.any)])]⟩ Tryz.f27
def K92_7:MarkK tab:=⟨[(0,.val (.int .u32) (.no)),(3,.box (.arr 8 (.int .u8)) (.no)),(5,.val (.int .i64) (.no))],[((.exit 0),[(3,.box (.arr 8 (.int .u8)) (.no))])],L_num_Hex_7⟩
def N92:FnK tab:=⟨[.val (.int .u32) (.no)],Str,fun a:W .u32×Unit=>F_num_Hex a.1,fun r:Str=>(.val (.str) r (.no),[.undef])⟩
def q92:Qt:=mtbl [(7,K92_7)]
def g93:=gx ⟨[0,2,3,4,5,9,13,28],[],[true],[(13,[(0,.any),(3,.any),(4,.any),(5,.any)]),(14,[(0,.any),(3,.any),(4,.any),(5,.any)]),(15,[(0,.any),(3,.any),(4,.any),(5,.any)])]⟩ Tryz.f29
def K93_13:MarkK tab:=⟨[(0,.val (.int .i64) (.no)),(3,.box (.arr 20 (.int .u8)) (.no)),(4,.val (.int .u64) (.no)),(5,.val (.int .i64) (.no))],[((.exit 0),[(0,.val (.int .i64) (.no)),(3,.box (.arr 20 (.int .u8)) (.no)),(4,.val (.int .u64) (.no)),(5,.val (.int .i64) (.no))])],L_num_Dec_13⟩
def N93:FnK tab:=⟨[.val (.int .i64) (.no)],Str,fun a:W .i64×Unit=>F_num_Dec a.1,fun r:Str=>(.val (.str) r (.no),[.undef])⟩
def q93:Qt:=mtbl [(13,K93_13)]
def g94:=gx ⟨[0,1,4,6],[],[true],[]⟩ Tryz.f28
def N94:FnK tab:=⟨[.val (.int .i64) (.no),.val (.int .u32) (.no)],Str,fun a:W .i64×W .u32×Unit=>F_run_register a.1 a.2.1,fun r:Str=>(.val (.str) r (.no),[.undef,.undef])⟩
def t94:Tt:=tbl [(27,N92),(29,N93)]
def g95:=gx ⟨[0,2,3,5,15,18,21],[],[true],[]⟩ Tryz.f30
def N95:FnK tab:=⟨[.val (.int .i64) (.no)],Str,fun a:W .i64×Unit=>F_text_Cause a.1,fun r:Str=>(.val (.str) r (.no),[.undef])⟩
def g96:=gx ⟨[0,1,2,3,4,27,46,55,60],[],[true],[]⟩ Tryz.f14
def N96:FnK tab:=⟨[.val (.named .TEvent) (.no)],Str,fun a:TEvent×Unit=>F_run_Line a.1,fun r:Str=>(.val (.str) r (.no),[.undef])⟩
def t96:Tt:=tbl [(27,N92),(28,N94),(29,N93),(30,N95)]
def g97:=gx ⟨[0,1,2,3,4],[],[true],[]⟩ Tryz.f16
def N97:FnK tab:=⟨[.val (.named .TEvent) (.no),.val (.named .TEvent) (.no)],Bool,fun a:TEvent×TEvent×Unit=>F_run_Same a.1 a.2.1,fun r:Bool=>(.val (.bool) r (.no),[.undef,.undef])⟩
def g98:=gx ⟨[0,1,4,5,10,11,12,35],[],[true],[(5,[(0,.any),(1,.any),(10,.any),(11,.any)]),(6,[(4,.any)]),(7,[(0,.any),(1,.any),(10,.any),(11,.any)])]⟩ Tryz.f17
def K98_5:MarkK tab:=⟨[(0,.val (.slice 72 (.named .TEvent)) (.no)),(1,.val (.slice 72 (.named .TEvent)) (.no)),(10,.val (.int .i64) (.no)),(11,.val (.int .i64) (.no))],[(.ret,[(4,.val (.int .i64) (.no))]),((.exit 0),[(4,.undef)])],L_run_First_5⟩
def N98:FnK tab:=⟨[.val (.slice 72 (.named .TEvent)) (.no),.val (.slice 72 (.named .TEvent)) (.no)],W .i64,fun a:Sl 72 (TEvent)×Sl 72 (TEvent)×Unit=>F_run_First a.1 a.2.1,fun r:W .i64=>(.val (.int .i64) r (.no),[.undef,.undef])⟩
def t98:Tt:=tbl [(16,N97)]
def q98:Qt:=mtbl [(5,K98_5)]
def g99:=gx ⟨[0,1,2,10],[2],[],[]⟩ Tryz.f35
def N99:FnK tab:=⟨[.val (.int .i64) (.no),.val (.int .u32) (.no),.box (.named .TArch) (.no)],TArch,fun a:W .i64×W .u32×TArch×Unit=>F_run_Replay_1 a.1 a.2.1 a.2.2.1,fun r:TArch=>(.tup [],[.undef,.undef,.box 0 (.named .TArch) r (.no)])⟩
def g100:=gx ⟨[0,1,2,4,5,7,9,10,11,12],[],[true],[(7,[(2,.any),(4,.any),(5,.any),(9,.any),(10,.any),(11,.any)]),(8,[(2,.any),(4,.any)]),(9,[(2,.any),(4,.any),(5,.any),(9,.any),(10,.any),(11,.any)])]⟩ Tryz.f19
def K100_7:MarkK tab:=⟨[(2,.box (.named .TArch) (.no)),(4,.box (.named .TArch) (.no)),(5,.fn 35 [] [.ptr 2 []]),(9,.val (.slice 72 (.named .TEvent)) (.no)),(10,.val (.int .i64) (.no)),(11,.val (.int .i64) (.no))],[((.exit 0),[(2,.box (.named .TArch) (.no)),(4,.box (.named .TArch) (.no))])],L_run_Replay_7⟩
def N100:FnK tab:=⟨[.val (.named .TArch) (.no),.val (.slice 72 (.named .TEvent)) (.no)],TArch,fun a:TArch×Sl 72 (TEvent)×Unit=>F_run_Replay a.1 a.2.1,fun r:TArch=>(.val (.named .TArch) r (.no),[.undef,.undef])⟩
def t100:Tt:=tbl [(35,N99)]
def q100:Qt:=mtbl [(7,K100_7)]
def g101:=gx ⟨[0,1,2,3],[],[true],[]⟩ Tryz.f9
def N101:FnK tab:=⟨[],Bool,fun a:Unit=>F_law16_awake,fun r:Bool=>(.val (.bool) r (.no),[])⟩
def t101:Tt:=tbl [(10,N91),(14,N96),(17,N98),(19,N100)]
def g102:=gx ⟨[0,2],[],[true],[]⟩ Tryz.f8
def N102:FnK tab:=⟨[.val (.slice 16 (.named .TIrq)) (.no)],Bool,fun a:Sl 16 (TIrq)×Unit=>F_law16_few a.1,fun r:Bool=>(.val (.bool) r (.no),[.undef])⟩
def g103:=gx ⟨[0,1,2,4],[],[true],[]⟩ Tryz.f23
def N103:FnK tab:=⟨[.val (.named .TArch) (.no),.val (.int .u32) (.no)],TArch,fun a:TArch×W .u32×Unit=>F_ref11_Raise a.1 a.2.1,fun r:TArch=>(.val (.named .TArch) r (.no),[.undef,.undef])⟩
def g104:=gx ⟨[0,1,2],[],[true],[]⟩ Tryz.f55
def N104:FnK tab:=⟨[.val (.named .TArch) (.no)],Bool,fun a:TArch×Unit=>F_ref11_Kernel a.1,fun r:Bool=>(.val (.bool) r (.no),[.undef])⟩
def g105:=gx ⟨[0,1,2,4],[],[true],[]⟩ Tryz.f76
def N105:FnK tab:=⟨[.val (.named .TArch) (.no),.val (.int .u32) (.no)],Bool,fun a:TArch×W .u32×Unit=>F_ref14_Has a.1 a.2.1,fun r:Bool=>(.val (.bool) r (.no),[.undef,.undef])⟩
def g106:=gx ⟨[0,1,2,3,10,20,23,26],[],[true],[]⟩ Tryz.f49
def N106:FnK tab:=⟨[.val (.named .TArch) (.no)],W .i64,fun a:TArch×Unit=>F_ref14_Pending a.1,fun r:W .i64=>(.val (.int .i64) r (.no),[.undef])⟩
def t106:Tt:=tbl [(55,N104),(76,N105)]
def g107:=gx ⟨[0,1,2,6,7],[],[true],[]⟩ Tryz.f87
def N107:FnK tab:=⟨[.val (.int .u32) (.no),.val (.int .u32) (.no),.val (.bool) (.no)],W .u32,fun a:W .u32×W .u32×Bool×Unit=>F_ref14_put a.1 a.2.1 a.2.2.1,fun r:W .u32=>(.val (.int .u32) r (.no),[.undef,.undef,.undef])⟩
def g108:=gx ⟨[0,1,2,3,4,8,9,10],[],[true],[]⟩ Tryz.f59
def N108:FnK tab:=⟨[.val (.named .TArch) (.no),.val (.int .i64) (.no),.val (.int .u32) (.no),.val (.int .u32) (.no)],TArch,fun a:TArch×W .i64×W .u32×W .u32×Unit=>F_ref14_Take a.1 a.2.1 a.2.2.1 a.2.2.2.1,fun r:TArch=>(.val (.named .TArch) r (.no),[.undef,.undef,.undef,.undef])⟩
def t108:Tt:=tbl [(37,N2),(87,N107)]
def g109:=gx ⟨[0,1,2,3,4,8,9,10,11],[],[true,true,true],[]⟩ Tryz.f50
def N109:FnK tab:=⟨[.val (.named .TMach) (.no),.val (.int .u32) (.no),.val (.int .i64) (.no),.val (.int .u32) (.no)],TMach×TEvent×Bool,fun a:TMach×W .u32×W .i64×W .u32×Unit=>F_ref15_trapped a.1 a.2.1 a.2.2.1 a.2.2.2.1,fun r:TMach×TEvent×Bool=>(.tup [.val (.named .TMach) r.1 (.no),.val (.named .TEvent) r.2.1 (.no),.val (.bool) r.2.2 (.no)],[.undef,.undef,.undef,.undef])⟩
def t109:Tt:=tbl [(59,N108)]
def g110:=gx ⟨[0,1,2,4],[],[true],[]⟩ Tryz.f51
def N110:FnK tab:=⟨[.val (.named .TArch) (.no),.val (.int .u32) (.no)],Bool,fun a:TArch×W .u32×Unit=>F_ref14_Stops a.1 a.2.1,fun r:Bool=>(.val (.bool) r (.no),[.undef,.undef])⟩
def t110:Tt:=tbl [(55,N104)]
def g111:=gx ⟨[0,1,4],[],[true],[]⟩ Tryz.f111
def N111:FnK tab:=⟨[.val (.int .u32) (.no),.val (.int .i64) (.no)],Bool,fun a:W .u32×W .i64×Unit=>F_ref01_Aligned a.1 a.2.1,fun r:Bool=>(.val (.bool) r (.no),[.undef,.undef])⟩
def g112:=gx ⟨[0,1,2],[],[true],[]⟩ Tryz.f148
def N112:FnK tab:=⟨[.val (.named .TArch) (.no)],Bool,fun a:TArch×Unit=>F_ref13_Paged a.1,fun r:Bool=>(.val (.bool) r (.no),[.undef])⟩
def t112:Tt:=tbl [(55,N104)]
def g113:=gx ⟨[0,2,3,4,6,8],[],[true],[]⟩ Tryz.f149
def N113:FnK tab:=⟨[.val (.int .i64) (.no)],W .i64,fun a:W .i64×Unit=>F_ref13_Fault a.1,fun r:W .i64=>(.val (.int .i64) r (.no),[.undef])⟩
def g114:=gx ⟨[0,1,4,6,12],[],[true],[]⟩ Tryz.f179
def N114:FnK tab:=⟨[.val (.int .u32) (.no),.val (.int .i64) (.no)],W .i64,fun a:W .u32×W .i64×Unit=>F_ref12_Index a.1 a.2.1,fun r:W .i64=>(.val (.int .i64) r (.no),[.undef,.undef])⟩
def g115:=gx ⟨[0,1,2,6,25],[],[true],[]⟩ Tryz.f113
def N115:FnK tab:=⟨[.val (.slice 1 (.int .u8)) (.no),.val (.int .u32) (.no),.val (.int .i64) (.no)],W .i64,fun a:Sl 1 (W .u8)×W .u32×W .i64×Unit=>F_ref10_Check a.1 a.2.1 a.2.2.1,fun r:W .i64=>(.val (.int .i64) r (.no),[.undef,.undef,.undef])⟩
def g116:=gx ⟨[0,1,2,6,7,8,9,10,16,21],[],[true,true],[(15,[(0,.any),(1,.any),(9,.any),(10,.any)]),(16,[(9,.any)]),(17,[(0,.any),(1,.any),(9,.any),(10,.any)])]⟩ Tryz.f78
def K116_15:MarkK tab:=⟨[(0,.val (.slice 1 (.int .u8)) (.no)),(1,.val (.int .u32) (.no)),(9,.val (.int .u32) (.no)),(10,.val (.int .i64) (.no))],[((.exit 0),[(9,.val (.int .u32) (.no))])],L_ref10_Read_15⟩
def N116:FnK tab:=⟨[.val (.slice 1 (.int .u8)) (.no),.val (.int .u32) (.no),.val (.int .i64) (.no)],W .u32×W .i64,fun a:Sl 1 (W .u8)×W .u32×W .i64×Unit=>F_ref10_Read a.1 a.2.1 a.2.2.1,fun r:W .u32×W .i64=>(.tup [.val (.int .u32) r.1 (.no),.val (.int .i64) r.2 (.no)],[.undef,.undef,.undef])⟩
def t116:Tt:=tbl [(113,N115)]
def q116:Qt:=mtbl [(15,K116_15)]
def g117:=gx ⟨[0,2],[],[true],[]⟩ Tryz.f180
def N117:FnK tab:=⟨[.val (.int .u32) (.no)],TPte,fun a:W .u32×Unit=>F_ref12_Of a.1,fun r:TPte=>(.val (.named .TPte) r (.no),[.undef])⟩
def g118:=gx ⟨[0,1,4,5,8],[],[true],[(5,[(0,.any),(1,.any),(5,.any)]),(6,[(0,.any)]),(7,[(0,.any),(1,.any),(5,.any)])]⟩ Tryz.f182
def K118_5:MarkK tab:=⟨[(0,.val (.int .u32) (.no)),(1,.val (.int .i64) (.no)),(5,.val (.int .i64) (.no))],[((.exit 0),[(0,.val (.int .u32) (.no))])],L_ref12_bit_5⟩
def N118:FnK tab:=⟨[.val (.int .u32) (.no),.val (.int .i64) (.no)],Bool,fun a:W .u32×W .i64×Unit=>F_ref12_bit a.1 a.2.1,fun r:Bool=>(.val (.bool) r (.no),[.undef,.undef])⟩
def q118:Qt:=mtbl [(5,K118_5)]
def g119:=gx ⟨[0,1,2],[],[true],[]⟩ Tryz.f181
def N119:FnK tab:=⟨[.val (.named .TPte) (.no)],Bool,fun a:TPte×Unit=>F_ref12_Leaf a.1,fun r:Bool=>(.val (.bool) r (.no),[.undef])⟩
def t119:Tt:=tbl [(182,N118)]
def g120:=gx ⟨[0,1,2,6,7,8,9,10,11,12,13,15,30,43,62,79],[],[true,true,true],[]⟩ Tryz.f150
def N120:FnK tab:=⟨[.val (.slice 1 (.int .u8)) (.no),.val (.int .u32) (.no),.val (.int .u32) (.no)],TPte×Sl 4 (W .u32)×Bool,fun a:Sl 1 (W .u8)×W .u32×W .u32×Unit=>F_ref13_Walk a.1 a.2.1 a.2.2.1,fun r:TPte×Sl 4 (W .u32)×Bool=>(.tup [.val (.named .TPte) r.1 (.no),.val (.slice 4 (.int .u32)) r.2.1 (.no),.val (.bool) r.2.2 (.no)],[.undef,.undef,.undef])⟩
def t120:Tt:=tbl [(78,N116),(179,N114),(180,N117),(181,N119)]
def g121:=gx ⟨[0,1,2,3,6,26,27,28,33,38],[],[true],[]⟩ Tryz.f151
def N121:FnK tab:=⟨[.val (.named .TPte) (.no),.val (.int .i64) (.no),.val (.bool) (.no)],Bool,fun a:TPte×W .i64×Bool×Unit=>F_ref12_Allows a.1 a.2.1 a.2.2.1,fun r:Bool=>(.val (.bool) r (.no),[.undef,.undef,.undef])⟩
def t121:Tt:=tbl [(182,N118)]
def g122:=gx ⟨[0,2,3,7],[],[true],[]⟩ Tryz.f183
def N122:FnK tab:=⟨[.val (.int .i64) (.no)],W .u32,fun a:W .i64×Unit=>F_ref12_page a.1,fun r:W .u32=>(.val (.int .u32) r (.no),[.undef])⟩
def g123:=gx ⟨[0,1,2,4],[],[true],[]⟩ Tryz.f152
def N123:FnK tab:=⟨[.val (.named .TPte) (.no),.val (.int .u32) (.no)],W .u32,fun a:TPte×W .u32×Unit=>F_ref12_Addr a.1 a.2.1,fun r:W .u32=>(.val (.int .u32) r (.no),[.undef,.undef])⟩
def t123:Tt:=tbl [(183,N122)]
def g124:=gx ⟨[0,1,2,3,4,8,9,10,12,15,22,42],[],[true,true],[]⟩ Tryz.f112
def N124:FnK tab:=⟨[.val (.named .TArch) (.no),.val (.slice 1 (.int .u8)) (.no),.val (.int .u32) (.no),.val (.int .i64) (.no)],W .u32×W .i64,fun a:TArch×Sl 1 (W .u8)×W .u32×W .i64×Unit=>F_ref13_Trans a.1 a.2.1 a.2.2.1 a.2.2.2.1,fun r:W .u32×W .i64=>(.tup [.val (.int .u32) r.1 (.no),.val (.int .i64) r.2 (.no)],[.undef,.undef,.undef,.undef])⟩
def t124:Tt:=tbl [(148,N112),(149,N113),(150,N120),(151,N121),(152,N123)]
def g125:=gx ⟨[0,1,2,3,4,5,10,11,12,13,17,29,36],[],[true,true],[]⟩ Tryz.f77
def N125:FnK tab:=⟨[.val (.named .TMach) (.no),.val (.slice 1 (.int .u8)) (.no),.val (.int .u32) (.no),.val (.int .i64) (.no),.val (.int .i64) (.no)],W .u32×W .i64,fun a:TMach×Sl 1 (W .u8)×W .u32×W .i64×W .i64×Unit=>F_ref15_Access a.1 a.2.1 a.2.2.1 a.2.2.2.1 a.2.2.2.2.1,fun r:W .u32×W .i64=>(.tup [.val (.int .u32) r.1 (.no),.val (.int .i64) r.2 (.no)],[.undef,.undef,.undef,.undef,.undef])⟩
def t125:Tt:=tbl [(111,N111),(112,N124),(113,N115)]
def g126:=gx ⟨[0,1,2,3,4,5,6,19],[],[true,true],[]⟩ Tryz.f52
def N126:FnK tab:=⟨[.val (.named .TMach) (.no)],W .u32×W .i64,fun a:TMach×Unit=>F_ref15_Fetch a.1,fun r:W .u32×W .i64=>(.tup [.val (.int .u32) r.1 (.no),.val (.int .i64) r.2 (.no)],[.undef])⟩
def t126:Tt:=tbl [(77,N125),(78,N116)]
def g127:=gx ⟨[0,2,3,12,19,34,39,46,53,60,63,66,71],[],[true],[(3,[(0,.any),(3,.any)]),(4,[(0,.any),(3,.any)]),(5,[(0,.any),(3,.any)]),(6,[(2,.any)]),(9,[(0,.any),(12,.any)]),(10,[(2,.any)]),(13,[(0,.any),(19,.any)]),(14,[(0,.any),(19,.any)]),(15,[(0,.any),(19,.any)]),(16,[(0,.any),(19,.any)]),(17,[(0,.any),(19,.any)]),(18,[(2,.any)]),(23,[(0,.any),(34,.any)]),(24,[(2,.any)]),(27,[(0,.any),(39,.any)]),(28,[(2,.any)]),(31,[(0,.any),(46,.any)]),(32,[(2,.any)]),(35,[(0,.any),(53,.any)]),(36,[(2,.any)]),(49,[(0,.any),(66,.any)]),(50,[(2,.any)]),(63,[(71,.any)]),(64,[(2,.any)]),(67,[]),(68,[(2,.any)])]⟩ Tryz.f79
def K127_3:MarkK tab:=⟨[(0,.val (.int .i64) (.no)),(3,.val (.bool) (.no))],[(.normal,[(0,.val (.int .i64) (.no)),(3,.val (.bool) (.no))])],L_ref06_Form_3⟩
def K127_15:MarkK tab:=⟨[(0,.val (.int .i64) (.no)),(19,.val (.bool) (.no))],[(.normal,[(0,.val (.int .i64) (.no)),(19,.val (.bool) (.no))])],L_ref06_Form_15⟩
def K127_13:MarkK tab:=⟨[(0,.val (.int .i64) (.no)),(19,.val (.bool) (.no))],[(.normal,[(0,.val (.int .i64) (.no)),(19,.val (.bool) (.no))])],L_ref06_Form_13⟩
def K127_63:MarkK tab:=⟨[(71,.val (.bool) (.no))],[(.ret,[(2,.val (.int .i64) (.no))]),(.normal,[(2,.undef)])],L_ref06_Form_63⟩
def K127_49:MarkK tab:=⟨[(0,.val (.int .i64) (.no)),(66,.val (.bool) (.no))],[(.ret,[(2,.val (.int .i64) (.no))]),(.normal,[(2,.undef)])],L_ref06_Form_49⟩
def K127_35:MarkK tab:=⟨[(0,.val (.int .i64) (.no)),(53,.val (.bool) (.no))],[(.ret,[(2,.val (.int .i64) (.no))]),(.normal,[(2,.undef)])],L_ref06_Form_35⟩
def K127_31:MarkK tab:=⟨[(0,.val (.int .i64) (.no)),(46,.val (.bool) (.no))],[(.ret,[(2,.val (.int .i64) (.no))]),(.normal,[(2,.undef)])],L_ref06_Form_31⟩
def K127_27:MarkK tab:=⟨[(0,.val (.int .i64) (.no)),(39,.val (.bool) (.no))],[(.ret,[(2,.val (.int .i64) (.no))]),(.normal,[(2,.undef)])],L_ref06_Form_27⟩
def K127_23:MarkK tab:=⟨[(0,.val (.int .i64) (.no)),(34,.val (.bool) (.no))],[(.ret,[(2,.val (.int .i64) (.no))]),(.normal,[(2,.undef)])],L_ref06_Form_23⟩
def K127_17:MarkK tab:=⟨[(0,.val (.int .i64) (.no)),(19,.val (.bool) (.no))],[(.ret,[(2,.val (.int .i64) (.no))]),(.normal,[(2,.undef)])],L_ref06_Form_17⟩
def K127_9:MarkK tab:=⟨[(0,.val (.int .i64) (.no)),(12,.val (.bool) (.no))],[(.ret,[(2,.val (.int .i64) (.no))]),(.normal,[(2,.undef)])],L_ref06_Form_9⟩
def K127_5:MarkK tab:=⟨[(0,.val (.int .i64) (.no)),(3,.val (.bool) (.no))],[(.ret,[(2,.val (.int .i64) (.no))]),(.normal,[(2,.undef)])],L_ref06_Form_5⟩
def K127_67:MarkK tab:=⟨[],[(.ret,[(2,.val (.int .i64) (.no))])],L_ref06_Form_67⟩
def N127:FnK tab:=⟨[.val (.int .i64) (.no)],W .i64,fun a:W .i64×Unit=>F_ref06_Form a.1,fun r:W .i64=>(.val (.int .i64) r (.no),[.undef])⟩
def q127:Qt:=mtbl [(3,K127_3),(15,K127_15),(13,K127_13),(63,K127_63),(49,K127_49),(35,K127_35),(31,K127_31),(27,K127_27),(23,K127_23),(17,K127_17),(9,K127_9),(5,K127_5),(67,K127_67)]
def g128:=gx ⟨[0,1,4,5,6,30,62],[],[true],[]⟩ Tryz.f115
def N128:FnK tab:=⟨[.val (.int .i64) (.no),.val (.int .i64) (.no)],Bool,fun a:W .i64×W .i64×Unit=>F_ref06_Has a.1 a.2.1,fun r:Bool=>(.val (.bool) r (.no),[.undef,.undef])⟩
def g129:=gx ⟨[0,1,4],[],[true],[]⟩ Tryz.f114
def N129:FnK tab:=⟨[.val (.bool) (.no),.val (.int .i64) (.no)],Bool,fun a:Bool×W .i64×Unit=>F_ref06_reg a.1 a.2.1,fun r:Bool=>(.val (.bool) r (.no),[.undef,.undef])⟩
def g130:=gx ⟨[0,1,4,10,18,26],[],[true],[]⟩ Tryz.f116
def N130:FnK tab:=⟨[.val (.int .i64) (.no),.val (.int .i64) (.no)],Bool,fun a:W .i64×W .i64×Unit=>F_ref06_imm a.1 a.2.1,fun r:Bool=>(.val (.bool) r (.no),[.undef,.undef])⟩
def g131:=gx ⟨[0,1,2,3,8,40,50],[],[true],[]⟩ Tryz.f80
def N131:FnK tab:=⟨[.val (.named .TInst) (.no)],W .i64,fun a:TInst×Unit=>F_ref06_Right a.1,fun r:W .i64=>(.val (.int .i64) r (.no),[.undef])⟩
def t131:Tt:=tbl [(79,N127),(114,N129),(115,N128),(116,N130)]
def g132:=gx ⟨[0,2,3,4,5,29,32,45,52,59],[],[true,true],[]⟩ Tryz.f53
def N132:FnK tab:=⟨[.val (.int .u32) (.no)],TInst×W .i64,fun a:W .u32×Unit=>F_ref06_Dec a.1,fun r:TInst×W .i64=>(.tup [.val (.named .TInst) r.1 (.no),.val (.int .i64) r.2 (.no)],[.undef])⟩
def t132:Tt:=tbl [(79,N127),(80,N131)]
def g133:=gx ⟨[0,2],[],[true],[]⟩ Tryz.f54
def N133:FnK tab:=⟨[.val (.int .i64) (.no)],Bool,fun a:W .i64×Unit=>F_ref06_Priv a.1,fun r:Bool=>(.val (.bool) r (.no),[.undef])⟩
def g134:=gx ⟨[0,1,2],[],[true],[]⟩ Tryz.f56
def N134:FnK tab:=⟨[.val (.named .TArch) (.no)],Bool,fun a:TArch×Unit=>F_ref14_Single a.1,fun r:Bool=>(.val (.bool) r (.no),[.undef])⟩
def t134:Tt:=tbl [(55,N104),(76,N105)]
def g135:=gx ⟨[0,2,3,4,8],[],[true],[]⟩ Tryz.f117
def N135:FnK tab:=⟨[.val (.int .i64) (.no)],W .i64,fun a:W .i64×Unit=>F_ref15_Size a.1,fun r:W .i64=>(.val (.int .i64) r (.no),[.undef])⟩
def g136:=gx ⟨[0,1,2,6,9,13],[],[true],[]⟩ Tryz.f153
def N136:FnK tab:=⟨[.val (.int .i64) (.no),.val (.int .i64) (.no),.val (.int .i64) (.no)],W .i64,fun a:W .i64×W .i64×W .i64×Unit=>F_ref01_brought a.1 a.2.1 a.2.2.1,fun r:W .i64=>(.val (.int .i64) r (.no),[.undef,.undef,.undef])⟩
def g137:=gx ⟨[0,2,3,4,7],[],[true],[(7,[(0,.any),(3,.any),(4,.any)]),(8,[(3,.any)]),(9,[(0,.any),(3,.any),(4,.any)])]⟩ Tryz.f155
def K137_7:MarkK tab:=⟨[(0,.val (.int .i64) (.no)),(3,.val (.int .u32) (.no)),(4,.val (.int .i64) (.no))],[((.exit 0),[(3,.val (.int .u32) (.no))])],L_ref01_power_7⟩
def N137:FnK tab:=⟨[.val (.int .i64) (.no)],W .u32,fun a:W .i64×Unit=>F_ref01_power a.1,fun r:W .u32=>(.val (.int .u32) r (.no),[.undef])⟩
def q137:Qt:=mtbl [(7,K137_7)]
def g138:=gx ⟨[0,1,4],[],[true],[]⟩ Tryz.f154
def N138:FnK tab:=⟨[.val (.int .u32) (.no),.val (.int .i64) (.no)],W .u32,fun a:W .u32×W .i64×Unit=>F_ref01_bit a.1 a.2.1,fun r:W .u32=>(.val (.int .u32) r (.no),[.undef,.undef])⟩
def t138:Tt:=tbl [(155,N137)]
def g139:=gx ⟨[0,1,4,5,6,11],[],[true],[(9,[(0,.any),(1,.any),(5,.any),(6,.any)]),(10,[(5,.any)]),(11,[(0,.any),(1,.any),(5,.any),(6,.any)])]⟩ Tryz.f118
def K139_9:MarkK tab:=⟨[(0,.val (.int .u32) (.no)),(1,.val (.int .i64) (.no)),(5,.val (.int .u32) (.no)),(6,.val (.int .i64) (.no))],[((.exit 0),[(5,.val (.int .u32) (.no))])],L_ref01_Zext_9⟩
def N139:FnK tab:=⟨[.val (.int .u32) (.no),.val (.int .i64) (.no)],W .u32,fun a:W .u32×W .i64×Unit=>F_ref01_Zext a.1 a.2.1,fun r:W .u32=>(.val (.int .u32) r (.no),[.undef,.undef])⟩
def t139:Tt:=tbl [(153,N136),(154,N138),(155,N137)]
def q139:Qt:=mtbl [(9,K139_9)]
def g140:=gx ⟨[0,1,2,3,8,9,10,11,12,18,25],[],[true,true],[(15,[(1,.any),(2,.any),(3,.any),(11,.any),(12,.any)]),(16,[(11,.any)]),(17,[(1,.any),(2,.any),(3,.any),(11,.any),(12,.any)])]⟩ Tryz.f119
def K140_15:MarkK tab:=⟨[(1,.val (.int .u32) (.no)),(2,.val (.int .i64) (.no)),(3,.val (.int .u32) (.no)),(11,.val (.slice 1 (.int .u8)) (.yes 0)),(12,.val (.int .i64) (.no))],[((.exit 0),[(11,.val (.slice 1 (.int .u8)) (.yes 0))])],L_ref10_Write_15⟩
def N140:FnK tab:=⟨[.val (.slice 1 (.int .u8)) (.no),.val (.int .u32) (.no),.val (.int .i64) (.no),.val (.int .u32) (.no)],Sl 1 (W .u8)×W .i64,fun a:Sl 1 (W .u8)×W .u32×W .i64×W .u32×Unit=>F_ref10_Write a.1 a.2.1 a.2.2.1 a.2.2.2.1,fun r:Sl 1 (W .u8)×W .i64=>(.tup [.val (.slice 1 (.int .u8)) r.1 (.no),.val (.int .i64) r.2 (.no)],[.undef,.undef,.undef,.undef])⟩
def t140:Tt:=tbl [(113,N115)]
def q140:Qt:=mtbl [(15,K140_15)]
def g141:=gx ⟨[0,1,4,5,6,20,24],[],[true],[(15,[(5,.any),(6,.any)]),(16,[(5,.any)]),(17,[(5,.any),(6,.any)])]⟩ Tryz.f120
def K141_15:MarkK tab:=⟨[(5,.val (.int .u32) (.no)),(6,.val (.int .i64) (.no))],[((.exit 0),[(5,.val (.int .u32) (.no))])],L_ref01_Sext_15⟩
def N141:FnK tab:=⟨[.val (.int .u32) (.no),.val (.int .i64) (.no)],W .u32,fun a:W .u32×W .i64×Unit=>F_ref01_Sext a.1 a.2.1,fun r:W .u32=>(.val (.int .u32) r (.no),[.undef,.undef])⟩
def t141:Tt:=tbl [(118,N139),(153,N136),(154,N138),(155,N137)]
def q141:Qt:=mtbl [(15,K141_15)]
def g142:=gx ⟨[0,1,2,3,4,5,8,9,11],[],[true,true],[]⟩ Tryz.f85
def N142:FnK tab:=⟨[.val (.named .TMach) (.no),.val (.named .TEvent) (.no),.val (.int .i64) (.no),.val (.int .u32) (.no)],TMach×TEvent,fun a:TMach×TEvent×W .i64×W .u32×Unit=>F_ref15_write a.1 a.2.1 a.2.2.1 a.2.2.2.1,fun r:TMach×TEvent=>(.tup [.val (.named .TMach) r.1 (.no),.val (.named .TEvent) r.2 (.no)],[.undef,.undef,.undef,.undef])⟩
def g143:=gx ⟨[0,1,2,3,4,5,6,7,8,9,10,11,12,13,14,15,16,17,19,34,41,53,66,110,129],[],[true,true,true,true],[(9,[(3,.any),(4,.any),(5,.any),(6,.any),(7,.any),(10,.any),(11,.any)]),(10,[(6,.any),(7,.any),(8,.any),(9,.any)]),(17,[(3,.any),(4,.any),(5,.any),(6,.any),(7,.any),(10,.any),(11,.any),(12,.any),(13,.any)]),(18,[(6,.any),(7,.any),(8,.any),(9,.any)]),(25,[(3,.any),(4,.any),(5,.any),(6,.any),(7,.any),(10,.any),(12,.any),(14,.any)]),(26,[(6,.any),(7,.any),(8,.any),(9,.any)]),(45,[(3,.any),(4,.any),(5,.any),(6,.any),(7,.any),(10,.any),(12,.any),(14,.any)]),(46,[(6,.any),(7,.any),(8,.any),(9,.any)]),(49,[(3,.any),(4,.any),(5,.any),(6,.any),(7,.any),(10,.any),(12,.any),(19,.any),(110,.any)]),(50,[(3,.any),(4,.any),(5,.any),(6,.any),(7,.any),(10,.any),(19,.any)]),(51,[(3,.any),(4,.any),(5,.any),(6,.any),(7,.any),(10,.any),(19,.any)]),(52,[(6,.any),(7,.any),(8,.any),(9,.any)]),(53,[(3,.any),(4,.any),(5,.any),(6,.any),(7,.any),(10,.any),(19,.any),(129,.any)]),(54,[(3,.any),(4,.any),(5,.any),(6,.any),(7,.any),(19,.any)]),(59,[(3,.any),(4,.any),(5,.any),(6,.any),(7,.any),(19,.any)]),(60,[(6,.any),(7,.any),(8,.any),(9,.any)])]⟩ Tryz.f81
def K143_49:MarkK tab:=⟨[(3,.box (.named .TMach) (.no)),(4,.box (.named .TEvent) (.no)),(5,.box (.named .TInst) (.no)),(6,.box (.named .TMach) (.st [.no,.yes 0,.yes 0,.yes 0])),(7,.box (.named .TEvent) (.no)),(10,.val (.int .u32) (.no)),(12,.val (.int .i64) (.no)),(19,.val (.int .u32) (.no)),(110,.val (.bool) (.no))],[(.normal,[(3,.box (.named .TMach) (.no)),(4,.box (.named .TEvent) (.no)),(5,.box (.named .TInst) (.no)),(6,.box (.named .TMach) (.st [.no,.yes 0,.yes 0,.yes 0])),(7,.box (.named .TEvent) (.no)),(10,.val (.int .u32) (.no)),(19,.val (.int .u32) (.no))])],L_ref15_memory_49⟩
def K143_53:MarkK tab:=⟨[(3,.box (.named .TMach) (.no)),(4,.box (.named .TEvent) (.no)),(5,.box (.named .TInst) (.no)),(6,.box (.named .TMach) (.st [.no,.yes 0,.yes 0,.yes 0])),(7,.box (.named .TEvent) (.no)),(10,.val (.int .u32) (.no)),(19,.val (.int .u32) (.no)),(129,.val (.bool) (.no))],[(.normal,[(3,.box (.named .TMach) (.no)),(4,.box (.named .TEvent) (.no)),(5,.box (.named .TInst) (.no)),(6,.box (.named .TMach) (.st [.no,.yes 0,.yes 0,.yes 0])),(7,.box (.named .TEvent) (.no)),(19,.val (.int .u32) (.no))])],L_ref15_memory_53⟩
def K143_59:MarkK tab:=⟨[(3,.box (.named .TMach) (.no)),(4,.box (.named .TEvent) (.no)),(5,.box (.named .TInst) (.no)),(6,.box (.named .TMach) (.st [.no,.yes 0,.yes 0,.yes 0])),(7,.box (.named .TEvent) (.no)),(19,.val (.int .u32) (.no))],[(.ret,[(6,.box (.named .TMach) (.no)),(7,.box (.named .TEvent) (.no)),(8,.val (.int .i64) (.no)),(9,.val (.int .u32) (.no))])],L_ref15_memory_59⟩
def K143_51:MarkK tab:=⟨[(3,.box (.named .TMach) (.no)),(4,.box (.named .TEvent) (.no)),(5,.box (.named .TInst) (.no)),(6,.box (.named .TMach) (.st [.no,.yes 0,.yes 0,.yes 0])),(7,.box (.named .TEvent) (.no)),(10,.val (.int .u32) (.no)),(19,.val (.int .u32) (.no))],[(.ret,[(6,.box (.named .TMach) (.no)),(7,.box (.named .TEvent) (.no)),(8,.val (.int .i64) (.no)),(9,.val (.int .u32) (.no))])],L_ref15_memory_51⟩
def K143_45:MarkK tab:=⟨[(3,.box (.named .TMach) (.no)),(4,.box (.named .TEvent) (.no)),(5,.box (.named .TInst) (.no)),(6,.box (.named .TMach) (.st [.no,.yes 0,.yes 0,.yes 0])),(7,.box (.named .TEvent) (.no)),(10,.val (.int .u32) (.no)),(12,.val (.int .i64) (.no)),(14,.val (.int .u32) (.no))],[(.ret,[(6,.box (.named .TMach) (.no)),(7,.box (.named .TEvent) (.no)),(8,.val (.int .i64) (.no)),(9,.val (.int .u32) (.no))])],L_ref15_memory_45⟩
def K143_25:MarkK tab:=⟨[(3,.box (.named .TMach) (.no)),(4,.box (.named .TEvent) (.no)),(5,.box (.named .TInst) (.no)),(6,.box (.named .TMach) (.st [.no,.yes 0,.yes 0,.yes 0])),(7,.box (.named .TEvent) (.no)),(10,.val (.int .u32) (.no)),(12,.val (.int .i64) (.no)),(14,.val (.int .u32) (.no))],[(.ret,[(6,.box (.named .TMach) (.no)),(7,.box (.named .TEvent) (.no)),(8,.val (.int .i64) (.no)),(9,.val (.int .u32) (.no))])],L_ref15_memory_25⟩
def K143_17:MarkK tab:=⟨[(3,.box (.named .TMach) (.no)),(4,.box (.named .TEvent) (.no)),(5,.box (.named .TInst) (.no)),(6,.box (.named .TMach) (.st [.no,.yes 0,.yes 0,.yes 0])),(7,.box (.named .TEvent) (.no)),(10,.val (.int .u32) (.no)),(11,.val (.int .u32) (.no)),(12,.val (.int .i64) (.no)),(13,.val (.int .i64) (.no))],[(.ret,[(6,.box (.named .TMach) (.no)),(7,.box (.named .TEvent) (.no)),(8,.val (.int .i64) (.no)),(9,.val (.int .u32) (.no))])],L_ref15_memory_17⟩
def K143_9:MarkK tab:=⟨[(3,.box (.named .TMach) (.no)),(4,.box (.named .TEvent) (.no)),(5,.box (.named .TInst) (.no)),(6,.box (.named .TMach) (.st [.no,.yes 0,.yes 0,.yes 0])),(7,.box (.named .TEvent) (.no)),(10,.val (.int .u32) (.no)),(11,.val (.int .u32) (.no))],[(.ret,[(6,.box (.named .TMach) (.no)),(7,.box (.named .TEvent) (.no)),(8,.val (.int .i64) (.no)),(9,.val (.int .u32) (.no))])],L_ref15_memory_9⟩
def N143:FnK tab:=⟨[.val (.named .TMach) (.no),.val (.named .TEvent) (.no),.val (.named .TInst) (.no)],TMach×TEvent×W .i64×W .u32,fun a:TMach×TEvent×TInst×Unit=>F_ref15_memory a.1 a.2.1 a.2.2.1,fun r:TMach×TEvent×W .i64×W .u32=>(.tup [.val (.named .TMach) r.1 (.no),.val (.named .TEvent) r.2.1 (.no),.val (.int .i64) r.2.2.1 (.no),.val (.int .u32) r.2.2.2 (.no)],[.undef,.undef,.undef])⟩
def t143:Tt:=tbl [(77,N125),(78,N116),(85,N142),(117,N135),(118,N139),(119,N140),(120,N141)]
def q143:Qt:=mtbl [(49,K143_49),(53,K143_53),(59,K143_59),(51,K143_51),(45,K143_45),(25,K143_25),(17,K143_17),(9,K143_9)]
def g144:=gx ⟨[0,1,2,3,4,5,6,7,8,9,10,11,12,13,15,16,33,59,75],[],[true,true,true,true],[]⟩ Tryz.f82
def N144:FnK tab:=⟨[.val (.named .TMach) (.no),.val (.named .TEvent) (.no),.val (.named .TInst) (.no)],TMach×TEvent×W .i64×W .u32,fun a:TMach×TEvent×TInst×Unit=>F_ref15_atomic a.1 a.2.1 a.2.2.1,fun r:TMach×TEvent×W .i64×W .u32=>(.tup [.val (.named .TMach) r.1 (.no),.val (.named .TEvent) r.2.1 (.no),.val (.int .i64) r.2.2.1 (.no),.val (.int .u32) r.2.2.2 (.no)],[.undef,.undef,.undef])⟩
def t144:Tt:=tbl [(77,N125),(78,N116),(85,N142),(119,N140)]
def g145:=gx ⟨[0,1,2,3,4,5,8],[],[true,true],[]⟩ Tryz.f121
def N145:FnK tab:=⟨[.val (.named .TArch) (.no)],TArch×W .i64,fun a:TArch×Unit=>F_ref14_Return a.1,fun r:TArch×W .i64=>(.tup [.val (.named .TArch) r.1 (.no),.val (.int .i64) r.2 (.no)],[.undef])⟩
def t145:Tt:=tbl [(55,N104),(87,N107)]
def g146:=gx ⟨[0,1,2,4,5,12,18],[],[true,true],[]⟩ Tryz.f122
def N146:FnK tab:=⟨[.val (.named .TArch) (.no),.val (.int .i64) (.no)],W .u32×W .i64,fun a:TArch×W .i64×Unit=>F_ref11_Read a.1 a.2.1,fun r:W .u32×W .i64=>(.tup [.val (.int .u32) r.1 (.no),.val (.int .i64) r.2 (.no)],[.undef,.undef])⟩
def t146:Tt:=tbl [(55,N104)]
def g147:=gx ⟨[0,1,2,3,6,7,10,17],[],[true,true],[]⟩ Tryz.f123
def N147:FnK tab:=⟨[.val (.named .TArch) (.no),.val (.int .i64) (.no),.val (.int .u32) (.no)],TArch×W .i64,fun a:TArch×W .i64×W .u32×Unit=>F_ref11_Write a.1 a.2.1 a.2.2.1,fun r:TArch×W .i64=>(.tup [.val (.named .TArch) r.1 (.no),.val (.int .i64) r.2 (.no)],[.undef,.undef,.undef])⟩
def t147:Tt:=tbl [(37,N2),(55,N104)]
def g148:=gx ⟨[0,1,2,3,4,5,6,7,8,9,10,11,12,13,14,15,16,25,30,38,50,60,77,88,98,106,122,127],[],[true,true,true,true],[(9,[(3,.any),(4,.any),(5,.any),(6,.any),(7,.any),(10,.any)]),(10,[(6,.any),(7,.any),(8,.any),(9,.any)]),(19,[(3,.any),(4,.any),(6,.any),(7,.any),(11,.any)]),(20,[(6,.any),(7,.any),(8,.any),(9,.any)]),(25,[(3,.any),(4,.any),(5,.any),(6,.any),(7,.any),(10,.any)]),(26,[(6,.any),(7,.any),(8,.any),(9,.any)]),(35,[(3,.any),(4,.any),(5,.any),(6,.any),(7,.any),(10,.any),(13,.any)]),(36,[(3,.any),(4,.any),(5,.any),(6,.any),(7,.any),(10,.any)]),(37,[(3,.any),(4,.any),(5,.any),(6,.any),(7,.any),(10,.any)]),(38,[(6,.any),(7,.any),(8,.any),(9,.any)]),(47,[(3,.any),(4,.any),(5,.any),(6,.any),(7,.any),(10,.any),(15,.any)]),(48,[(3,.any),(4,.any),(5,.any),(6,.any),(7,.any),(10,.any)]),(49,[(3,.any),(4,.any),(5,.any),(6,.any),(7,.any),(10,.any)]),(50,[(6,.any),(7,.any),(8,.any),(9,.any)]),(53,[(3,.fz),(4,.any),(5,.any),(6,.any),(7,.any),(10,.any)]),(54,[(6,.any),(7,.any),(8,.any),(9,.any)]),(57,[(3,.fz),(4,.any),(5,.any),(6,.any),(7,.any),(10,.any)]),(58,[(6,.any),(7,.any),(8,.any),(9,.any)]),(59,[(3,.any),(4,.any),(5,.any),(6,.any),(7,.any),(10,.any),(122,.any)]),(60,[(3,.any),(4,.any),(5,.any),(6,.any),(7,.any)]),(61,[(3,.any),(4,.any),(5,.any),(6,.any),(7,.any)]),(62,[(6,.any),(7,.any),(8,.any),(9,.any)]),(65,[(3,.any),(4,.any),(6,.any),(7,.any)]),(66,[(6,.any),(7,.any),(8,.any),(9,.any)])]⟩ Tryz.f83
def K148_19:MarkK tab:=⟨[(3,.box (.named .TMach) (.no)),(4,.box (.named .TEvent) (.no)),(6,.box (.named .TMach) (.st [.no,.yes 0,.yes 0,.yes 0])),(7,.box (.named .TEvent) (.no)),(11,.box (.named .TArch) (.no))],[(.ret,[(6,.box (.named .TMach) (.no)),(7,.box (.named .TEvent) (.no)),(8,.val (.int .i64) (.no)),(9,.val (.int .u32) (.no))])],L_ref15_system_19⟩
def K148_35:MarkK tab:=⟨[(3,.box (.named .TMach) (.no)),(4,.box (.named .TEvent) (.no)),(5,.box (.named .TInst) (.no)),(6,.box (.named .TMach) (.st [.no,.yes 0,.yes 0,.yes 0])),(7,.box (.named .TEvent) (.no)),(10,.val (.int .u32) (.no)),(13,.val (.int .u32) (.no))],[(.normal,[(3,.box (.named .TMach) (.no)),(4,.box (.named .TEvent) (.no)),(5,.box (.named .TInst) (.no)),(6,.box (.named .TMach) (.st [.no,.yes 0,.yes 0,.yes 0])),(7,.box (.named .TEvent) (.no)),(10,.val (.int .u32) (.no))])],L_ref15_system_35⟩
def K148_47:MarkK tab:=⟨[(3,.box (.named .TMach) (.no)),(4,.box (.named .TEvent) (.no)),(5,.box (.named .TInst) (.no)),(6,.box (.named .TMach) (.st [.no,.yes 0,.yes 0,.yes 0])),(7,.box (.named .TEvent) (.no)),(10,.val (.int .u32) (.no)),(15,.box (.named .TArch) (.no))],[(.normal,[(3,.box (.named .TMach) (.no)),(4,.box (.named .TEvent) (.no)),(5,.box (.named .TInst) (.no)),(6,.box (.named .TMach) (.st [.no,.yes 0,.yes 0,.yes 0])),(7,.box (.named .TEvent) (.no)),(10,.val (.int .u32) (.no))])],L_ref15_system_47⟩
def K148_59:MarkK tab:=⟨[(3,.box (.named .TMach) (.no)),(4,.box (.named .TEvent) (.no)),(5,.box (.named .TInst) (.no)),(6,.box (.named .TMach) (.st [.no,.yes 0,.yes 0,.yes 0])),(7,.box (.named .TEvent) (.no)),(10,.val (.int .u32) (.no)),(122,.val (.bool) (.no))],[(.normal,[(3,.box (.named .TMach) (.no)),(4,.box (.named .TEvent) (.no)),(5,.box (.named .TInst) (.no)),(6,.box (.named .TMach) (.st [.no,.yes 0,.yes 0,.yes 0])),(7,.box (.named .TEvent) (.no))])],L_ref15_system_59⟩
def K148_65:MarkK tab:=⟨[(3,.box (.named .TMach) (.no)),(4,.box (.named .TEvent) (.no)),(6,.box (.named .TMach) (.st [.no,.yes 0,.yes 0,.yes 0])),(7,.box (.named .TEvent) (.no))],[(.ret,[(6,.box (.named .TMach) (.no)),(7,.box (.named .TEvent) (.no)),(8,.val (.int .i64) (.no)),(9,.val (.int .u32) (.no))])],L_ref15_system_65⟩
def K148_61:MarkK tab:=⟨[(3,.box (.named .TMach) (.no)),(4,.box (.named .TEvent) (.no)),(5,.box (.named .TInst) (.no)),(6,.box (.named .TMach) (.st [.no,.yes 0,.yes 0,.yes 0])),(7,.box (.named .TEvent) (.no))],[(.ret,[(6,.box (.named .TMach) (.no)),(7,.box (.named .TEvent) (.no)),(8,.val (.int .i64) (.no)),(9,.val (.int .u32) (.no))])],L_ref15_system_61⟩
def K148_57:MarkK tab:=⟨[(3,.box (.named .TMach) (.no)),(4,.box (.named .TEvent) (.no)),(5,.box (.named .TInst) (.no)),(6,.box (.named .TMach) (.st [.no,.yes 0,.yes 0,.yes 0])),(7,.box (.named .TEvent) (.no)),(10,.val (.int .u32) (.no))],[(.ret,[(6,.box (.named .TMach) (.no)),(7,.box (.named .TEvent) (.no)),(8,.val (.int .i64) (.no)),(9,.val (.int .u32) (.no))])],L_ref15_system_57⟩
def K148_53:MarkK tab:=⟨[(3,.box (.named .TMach) (.no)),(4,.box (.named .TEvent) (.no)),(5,.box (.named .TInst) (.no)),(6,.box (.named .TMach) (.st [.no,.yes 0,.yes 0,.yes 0])),(7,.box (.named .TEvent) (.no)),(10,.val (.int .u32) (.no))],[(.ret,[(6,.box (.named .TMach) (.no)),(7,.box (.named .TEvent) (.no)),(8,.val (.int .i64) (.no)),(9,.val (.int .u32) (.no))])],L_ref15_system_53⟩
def K148_49:MarkK tab:=⟨[(3,.box (.named .TMach) (.no)),(4,.box (.named .TEvent) (.no)),(5,.box (.named .TInst) (.no)),(6,.box (.named .TMach) (.st [.no,.yes 0,.yes 0,.yes 0])),(7,.box (.named .TEvent) (.no)),(10,.val (.int .u32) (.no))],[(.ret,[(6,.box (.named .TMach) (.no)),(7,.box (.named .TEvent) (.no)),(8,.val (.int .i64) (.no)),(9,.val (.int .u32) (.no))])],L_ref15_system_49⟩
def K148_37:MarkK tab:=⟨[(3,.box (.named .TMach) (.no)),(4,.box (.named .TEvent) (.no)),(5,.box (.named .TInst) (.no)),(6,.box (.named .TMach) (.st [.no,.yes 0,.yes 0,.yes 0])),(7,.box (.named .TEvent) (.no)),(10,.val (.int .u32) (.no))],[(.ret,[(6,.box (.named .TMach) (.no)),(7,.box (.named .TEvent) (.no)),(8,.val (.int .i64) (.no)),(9,.val (.int .u32) (.no))])],L_ref15_system_37⟩
def K148_25:MarkK tab:=⟨[(3,.box (.named .TMach) (.no)),(4,.box (.named .TEvent) (.no)),(5,.box (.named .TInst) (.no)),(6,.box (.named .TMach) (.st [.no,.yes 0,.yes 0,.yes 0])),(7,.box (.named .TEvent) (.no)),(10,.val (.int .u32) (.no))],[(.ret,[(6,.box (.named .TMach) (.no)),(7,.box (.named .TEvent) (.no)),(8,.val (.int .i64) (.no)),(9,.val (.int .u32) (.no))])],L_ref15_system_25⟩
def K148_9:MarkK tab:=⟨[(3,.box (.named .TMach) (.no)),(4,.box (.named .TEvent) (.no)),(5,.box (.named .TInst) (.no)),(6,.box (.named .TMach) (.st [.no,.yes 0,.yes 0,.yes 0])),(7,.box (.named .TEvent) (.no)),(10,.val (.int .u32) (.no))],[(.ret,[(6,.box (.named .TMach) (.no)),(7,.box (.named .TEvent) (.no)),(8,.val (.int .i64) (.no)),(9,.val (.int .u32) (.no))])],L_ref15_system_9⟩
def N148:FnK tab:=⟨[.val (.named .TMach) (.no),.val (.named .TEvent) (.no),.val (.named .TInst) (.no)],TMach×TEvent×W .i64×W .u32,fun a:TMach×TEvent×TInst×Unit=>F_ref15_system a.1 a.2.1 a.2.2.1,fun r:TMach×TEvent×W .i64×W .u32=>(.tup [.val (.named .TMach) r.1 (.no),.val (.named .TEvent) r.2.1 (.no),.val (.int .i64) r.2.2.1 (.no),.val (.int .u32) r.2.2.2 (.no)],[.undef,.undef,.undef])⟩
def t148:Tt:=tbl [(85,N142),(121,N145),(122,N146),(123,N147)]
def q148:Qt:=mtbl [(19,K148_19),(35,K148_35),(47,K148_47),(59,K148_59),(65,K148_65),(61,K148_61),(57,K148_57),(53,K148_53),(49,K148_49),(37,K148_37),(25,K148_25),(9,K148_9)]
def g149:=gx ⟨[0,2,4],[],[true],[]⟩ Tryz.f124
def N149:FnK tab:=⟨[.val (.int .u32) (.no)],W .i64,fun a:W .u32×Unit=>F_ref03_signed a.1,fun r:W .i64=>(.val (.int .i64) r (.no),[.undef])⟩
def g150:=gx ⟨[0,1,2,6,7,8,13,18,25,32,37],[],[true],[]⟩ Tryz.f84
def N150:FnK tab:=⟨[.val (.int .i64) (.no),.val (.int .u32) (.no),.val (.int .u32) (.no)],Bool,fun a:W .i64×W .u32×W .u32×Unit=>F_ref03_Taken a.1 a.2.1 a.2.2.1,fun r:Bool=>(.val (.bool) r (.no),[.undef,.undef,.undef])⟩
def t150:Tt:=tbl [(124,N149)]
def g151:=gx ⟨[0,1,2,6,8],[],[true],[]⟩ Tryz.f125
def N151:FnK tab:=⟨[.val (.int .u32) (.no),.val (.int .u32) (.no),.val (.int .u32) (.no)],W .u32,fun a:W .u32×W .u32×W .u32×Unit=>F_ref03_Cmov a.1 a.2.1 a.2.2.1,fun r:W .u32=>(.val (.int .u32) r (.no),[.undef,.undef,.undef])⟩
def g152:=gx ⟨[0,2,4],[],[true],[]⟩ Tryz.f156
def N152:FnK tab:=⟨[.val (.int .u32) (.no)],W .i64,fun a:W .u32×Unit=>F_ref04_signed a.1,fun r:W .i64=>(.val (.int .i64) r (.no),[.undef])⟩
def g153:=gx ⟨[0,1,2,6,7,9,18,27],[],[true,true],[]⟩ Tryz.f126
def N153:FnK tab:=⟨[.val (.int .i64) (.no),.val (.int .u32) (.no),.val (.int .u32) (.no)],W .u32×Bool,fun a:W .i64×W .u32×W .u32×Unit=>F_ref04_Do a.1 a.2.1 a.2.2.1,fun r:W .u32×Bool=>(.tup [.val (.int .u32) r.1 (.no),.val (.bool) r.2 (.no)],[.undef,.undef,.undef])⟩
def t153:Tt:=tbl [(156,N152)]
def g154:=gx ⟨[0,1,2,6,7,8,9,16,17,25,27,30,37,40,45,48],[],[true,true],[]⟩ Tryz.f127
def N154:FnK tab:=⟨[.val (.int .i64) (.no),.val (.int .u32) (.no),.val (.int .u32) (.no)],W .u32×Bool,fun a:W .i64×W .u32×W .u32×Unit=>F_ref05_Do a.1 a.2.1 a.2.2.1,fun r:W .u32×Bool=>(.tup [.val (.int .u32) r.1 (.no),.val (.bool) r.2 (.no)],[.undef,.undef,.undef])⟩
def g155:=gx ⟨[0,1,4,5,8],[],[true],[(5,[(0,.any),(1,.any),(5,.any)]),(6,[(0,.any)]),(7,[(0,.any),(1,.any),(5,.any)])]⟩ Tryz.f159
def K155_5:MarkK tab:=⟨[(0,.val (.int .u32) (.no)),(1,.val (.int .i64) (.no)),(5,.val (.int .i64) (.no))],[((.exit 0),[(0,.val (.int .u32) (.no))])],L_ref03_bit_5⟩
def N155:FnK tab:=⟨[.val (.int .u32) (.no),.val (.int .i64) (.no)],W .u32,fun a:W .u32×W .i64×Unit=>F_ref03_bit a.1 a.2.1,fun r:W .u32=>(.val (.int .u32) r (.no),[.undef,.undef])⟩
def q155:Qt:=mtbl [(5,K155_5)]
def g156:=gx ⟨[0,1,2,3,4,6],[],[true],[(7,[(1,.any),(3,.any),(4,.any)]),(8,[(3,.any)]),(9,[(1,.any),(3,.any),(4,.any)])]⟩ Tryz.f184
def K156_7:MarkK tab:=⟨[(1,.box (.arr 32 (.int .u32)) (.no)),(3,.val (.int .u32) (.no)),(4,.val (.int .i64) (.no))],[((.exit 0),[(3,.val (.int .u32) (.no))])],L_ref03_word_7⟩
def N156:FnK tab:=⟨[.val (.arr 32 (.int .u32)) (.no)],W .u32,fun a:Arr 32 (W .u32)×Unit=>F_ref03_word a.1,fun r:W .u32=>(.val (.int .u32) r (.no),[.undef])⟩
def q156:Qt:=mtbl [(7,K156_7)]
def g157:=gx ⟨[0,1,2,3,8,9,10,11,13,30],[],[true],[(7,[(0,.any),(1,.any),(2,.any),(3,.any),(9,.any),(10,.any)]),(8,[(9,.any)]),(9,[(0,.any),(1,.any),(2,.any),(3,.any),(9,.any),(10,.any)])]⟩ Tryz.f157
def K157_7:MarkK tab:=⟨[(0,.val (.int .u32) (.no)),(1,.val (.int .u32) (.no)),(2,.val (.int .u32) (.no)),(3,.val (.int .u32) (.no)),(9,.box (.arr 32 (.int .u32)) (.no)),(10,.val (.int .i64) (.no))],[((.exit 0),[(9,.box (.arr 32 (.int .u32)) (.no))])],L_ref03_logic_7⟩
def N157:FnK tab:=⟨[.val (.int .u32) (.no),.val (.int .u32) (.no),.val (.int .u32) (.no),.val (.int .u32) (.no)],W .u32,fun a:W .u32×W .u32×W .u32×W .u32×Unit=>F_ref03_logic a.1 a.2.1 a.2.2.1 a.2.2.2.1,fun r:W .u32=>(.val (.int .u32) r (.no),[.undef,.undef,.undef,.undef])⟩
def t157:Tt:=tbl [(159,N155),(184,N156)]
def q157:Qt:=mtbl [(7,K157_7)]
def g158:=gx ⟨[0,1,2,6,7,8,10,25],[],[true],[(7,[(0,.any),(1,.any),(2,.any),(7,.any),(8,.any)]),(8,[(7,.any)]),(9,[(0,.any),(1,.any),(2,.any),(7,.any),(8,.any)])]⟩ Tryz.f158
def K158_7:MarkK tab:=⟨[(0,.val (.int .u32) (.no)),(1,.val (.int .i64) (.no)),(2,.val (.int .u32) (.no)),(7,.box (.arr 32 (.int .u32)) (.no)),(8,.val (.int .i64) (.no))],[((.exit 0),[(7,.box (.arr 32 (.int .u32)) (.no))])],L_ref03_moved_7⟩
def N158:FnK tab:=⟨[.val (.int .u32) (.no),.val (.int .i64) (.no),.val (.int .u32) (.no)],W .u32,fun a:W .u32×W .i64×W .u32×Unit=>F_ref03_moved a.1 a.2.1 a.2.2.1,fun r:W .u32=>(.val (.int .u32) r (.no),[.undef,.undef,.undef])⟩
def t158:Tt:=tbl [(159,N155),(184,N156)]
def q158:Qt:=mtbl [(7,K158_7)]
def g159:=gx ⟨[0,2,3],[],[true],[]⟩ Tryz.f160
def N159:FnK tab:=⟨[.val (.bool) (.no)],W .u32,fun a:Bool×Unit=>F_ref03_one a.1,fun r:W .u32=>(.val (.int .u32) r (.no),[.undef])⟩
def g160:=gx ⟨[0,1,4,5,6,8],[],[true],[(7,[(0,.any),(1,.any),(5,.any),(6,.any)]),(8,[(5,.any)]),(9,[(0,.any),(1,.any),(5,.any),(6,.any)])]⟩ Tryz.f161
def K160_7:MarkK tab:=⟨[(0,.val (.int .u32) (.no)),(1,.val (.int .i64) (.no)),(5,.box (.arr 32 (.int .u32)) (.no)),(6,.val (.int .i64) (.no))],[((.exit 0),[(5,.box (.arr 32 (.int .u32)) (.no))])],L_ref03_turned_7⟩
def N160:FnK tab:=⟨[.val (.int .u32) (.no),.val (.int .i64) (.no)],W .u32,fun a:W .u32×W .i64×Unit=>F_ref03_turned a.1 a.2.1,fun r:W .u32=>(.val (.int .u32) r (.no),[.undef,.undef])⟩
def t160:Tt:=tbl [(159,N155),(184,N156)]
def q160:Qt:=mtbl [(7,K160_7)]
def g161:=gx ⟨[0,2,3,12],[],[true],[(5,[(0,.any),(3,.any)]),(6,[(3,.any)]),(7,[(0,.any),(3,.any)])]⟩ Tryz.f162
def K161_5:MarkK tab:=⟨[(0,.val (.int .u32) (.no)),(3,.val (.int .i64) (.no))],[((.exit 0),[(3,.val (.int .i64) (.no))])],L_ref03_Clz_5⟩
def N161:FnK tab:=⟨[.val (.int .u32) (.no)],W .i64,fun a:W .u32×Unit=>F_ref03_Clz a.1,fun r:W .i64=>(.val (.int .i64) r (.no),[.undef])⟩
def t161:Tt:=tbl [(159,N155)]
def q161:Qt:=mtbl [(5,K161_5)]
def g162:=gx ⟨[0,2,3,4,6],[],[true],[(7,[(0,.any),(3,.any),(4,.any)]),(8,[(3,.any)]),(9,[(0,.any),(3,.any),(4,.any)])]⟩ Tryz.f163
def K162_7:MarkK tab:=⟨[(0,.val (.int .u32) (.no)),(3,.val (.int .i64) (.no)),(4,.val (.int .i64) (.no))],[((.exit 0),[(3,.val (.int .i64) (.no))])],L_ref03_Pop_7⟩
def N162:FnK tab:=⟨[.val (.int .u32) (.no)],W .i64,fun a:W .u32×Unit=>F_ref03_Pop a.1,fun r:W .i64=>(.val (.int .i64) r (.no),[.undef])⟩
def t162:Tt:=tbl [(159,N155)]
def q162:Qt:=mtbl [(7,K162_7)]
def g163:=gx ⟨[0,2,3,4,6],[],[true],[(7,[(0,.any),(3,.any),(4,.any)]),(8,[(3,.any)]),(9,[(0,.any),(3,.any),(4,.any)])]⟩ Tryz.f164
def K163_7:MarkK tab:=⟨[(0,.val (.int .u32) (.no)),(3,.val (.int .u32) (.no)),(4,.val (.int .i64) (.no))],[((.exit 0),[(3,.val (.int .u32) (.no))])],L_ref03_Rev_7⟩
def N163:FnK tab:=⟨[.val (.int .u32) (.no)],W .u32,fun a:W .u32×Unit=>F_ref03_Rev a.1,fun r:W .u32=>(.val (.int .u32) r (.no),[.undef])⟩
def q163:Qt:=mtbl [(7,K163_7)]
def g164:=gx ⟨[0,1,2,6,7,8,12,13,19,24,30,36,42,49,55,63,72,78,84,87,93,96,101,106,111,115],[],[true,true],[]⟩ Tryz.f128
def N164:FnK tab:=⟨[.val (.int .i64) (.no),.val (.int .u32) (.no),.val (.int .u32) (.no)],W .u32×Bool,fun a:W .i64×W .u32×W .u32×Unit=>F_ref03_Do a.1 a.2.1 a.2.2.1,fun r:W .u32×Bool=>(.tup [.val (.int .u32) r.1 (.no),.val (.bool) r.2 (.no)],[.undef,.undef,.undef])⟩
def t164:Tt:=tbl [(124,N149),(157,N157),(158,N158),(159,N155),(160,N159),(161,N160),(162,N161),(163,N162),(164,N163)]
def g165:=gx ⟨[0,1,2,3,4,5,6,7,9,11,25,31,47,64],[],[true],[]⟩ Tryz.f86
def N165:FnK tab:=⟨[.val (.named .TArch) (.no),.val (.named .TInst) (.no)],W .u32,fun a:TArch×TInst×Unit=>F_ref15_value a.1 a.2.1,fun r:W .u32=>(.val (.int .u32) r (.no),[.undef,.undef])⟩
def t165:Tt:=tbl [(125,N151),(126,N153),(127,N154),(128,N164)]
def g166:=gx ⟨[0,1,2,3,4,5,6,7,8,9,10,11,12,13,14,41,58,71,88,92,108,128],[],[true,true,true,true],[(11,[(3,.any),(4,.any),(5,.any),(6,.any),(7,.any),(10,.any),(11,.any),(12,.any),(13,.any),(41,.any)]),(12,[(3,.any),(4,.any),(5,.any),(6,.any),(7,.any),(8,.any),(9,.any),(10,.any),(11,.any),(12,.any),(13,.any)]),(17,[(3,.any),(4,.any),(5,.any),(6,.any),(7,.any),(10,.any),(11,.any),(12,.any),(13,.any)]),(18,[(6,.any),(7,.any),(8,.any),(9,.any)]),(19,[(3,.any),(4,.any),(5,.any),(6,.any),(7,.any),(10,.any),(11,.any),(12,.any),(13,.any),(58,.any)]),(20,[(3,.any),(4,.any),(5,.any),(6,.any),(7,.any),(8,.any),(9,.any),(10,.any),(11,.any),(12,.any),(13,.any)]),(25,[(3,.any),(4,.any),(5,.any),(6,.any),(7,.any),(10,.any),(11,.any),(12,.any),(13,.any)]),(26,[(6,.any),(7,.any),(8,.any),(9,.any)]),(33,[(3,.any),(4,.any),(5,.any),(6,.any),(7,.any),(10,.any),(11,.any),(12,.any),(13,.any)]),(34,[(6,.any),(7,.any),(8,.any),(9,.any)]),(35,[(3,.any),(4,.any),(5,.any),(6,.any),(7,.any),(10,.any),(11,.any),(12,.any),(13,.any),(88,.any)]),(36,[(3,.any),(4,.any),(5,.any),(6,.any),(7,.any),(8,.any),(9,.any),(10,.any),(12,.any),(13,.any)]),(39,[(3,.any),(4,.any),(6,.any),(7,.any)]),(40,[(6,.any),(7,.any),(8,.any),(9,.any)]),(43,[(3,.any),(4,.any),(5,.any),(6,.any),(7,.any),(10,.any),(12,.any),(13,.any)]),(44,[(6,.any),(7,.any),(8,.any),(9,.any)]),(45,[(3,.any),(4,.any),(5,.any),(6,.any),(7,.any),(10,.any),(12,.any),(13,.any),(108,.any)]),(46,[(3,.any),(4,.any),(5,.any),(6,.any),(7,.any),(8,.any),(9,.any)]),(55,[(3,.any),(4,.any),(6,.any),(7,.any)]),(56,[(6,.any),(7,.any),(8,.any),(9,.any)]),(59,[(3,.any),(4,.any),(5,.any),(6,.any),(7,.any)]),(60,[(6,.any),(7,.any),(8,.any),(9,.any)])]⟩ Tryz.f57
def K166_11:MarkK tab:=⟨[(3,.box (.named .TMach) (.no)),(4,.box (.named .TEvent) (.no)),(5,.box (.named .TInst) (.no)),(6,.box (.named .TMach) (.st [.no,.yes 0,.yes 0,.yes 0])),(7,.box (.named .TEvent) (.no)),(10,.val (.int .u32) (.no)),(11,.val (.int .u32) (.no)),(12,.val (.int .u32) (.no)),(13,.val (.int .i64) (.no)),(41,.val (.bool) (.no))],[(.ret,[(3,.box (.named .TMach) (.no)),(4,.box (.named .TEvent) (.no)),(5,.box (.named .TInst) (.no)),(6,.box (.named .TMach) (.no)),(7,.box (.named .TEvent) (.no)),(8,.val (.int .i64) (.no)),(9,.val (.int .u32) (.no)),(10,.val (.int .u32) (.no)),(11,.val (.int .u32) (.no)),(12,.val (.int .u32) (.no)),(13,.val (.int .i64) (.no))]),(.normal,[(3,.box (.named .TMach) (.no)),(4,.box (.named .TEvent) (.no)),(5,.box (.named .TInst) (.no)),(6,.box (.named .TMach) (.st [.no,.yes 0,.yes 0,.yes 0])),(7,.box (.named .TEvent) (.no)),(8,.undef),(9,.undef),(10,.val (.int .u32) (.no)),(11,.val (.int .u32) (.no)),(12,.val (.int .u32) (.no)),(13,.val (.int .i64) (.no))])],L_ref15_do_11⟩
def K166_19:MarkK tab:=⟨[(3,.box (.named .TMach) (.no)),(4,.box (.named .TEvent) (.no)),(5,.box (.named .TInst) (.no)),(6,.box (.named .TMach) (.st [.no,.yes 0,.yes 0,.yes 0])),(7,.box (.named .TEvent) (.no)),(10,.val (.int .u32) (.no)),(11,.val (.int .u32) (.no)),(12,.val (.int .u32) (.no)),(13,.val (.int .i64) (.no)),(58,.val (.bool) (.no))],[(.ret,[(3,.box (.named .TMach) (.no)),(4,.box (.named .TEvent) (.no)),(5,.box (.named .TInst) (.no)),(6,.box (.named .TMach) (.no)),(7,.box (.named .TEvent) (.no)),(8,.val (.int .i64) (.no)),(9,.val (.int .u32) (.no)),(10,.val (.int .u32) (.no)),(11,.val (.int .u32) (.no)),(12,.val (.int .u32) (.no)),(13,.val (.int .i64) (.no))]),(.normal,[(3,.box (.named .TMach) (.no)),(4,.box (.named .TEvent) (.no)),(5,.box (.named .TInst) (.no)),(6,.box (.named .TMach) (.st [.no,.yes 0,.yes 0,.yes 0])),(7,.box (.named .TEvent) (.no)),(8,.undef),(9,.undef),(10,.val (.int .u32) (.no)),(11,.val (.int .u32) (.no)),(12,.val (.int .u32) (.no)),(13,.val (.int .i64) (.no))])],L_ref15_do_19⟩
def K166_39:MarkK tab:=⟨[(3,.box (.named .TMach) (.no)),(4,.box (.named .TEvent) (.no)),(6,.box (.named .TMach) (.st [.no,.yes 0,.yes 0,.yes 0])),(7,.box (.named .TEvent) (.no))],[(.ret,[(6,.box (.named .TMach) (.no)),(7,.box (.named .TEvent) (.no)),(8,.val (.int .i64) (.no)),(9,.val (.int .u32) (.no))])],L_ref15_do_39⟩
def K166_35:MarkK tab:=⟨[(3,.box (.named .TMach) (.no)),(4,.box (.named .TEvent) (.no)),(5,.box (.named .TInst) (.no)),(6,.box (.named .TMach) (.st [.no,.yes 0,.yes 0,.yes 0])),(7,.box (.named .TEvent) (.no)),(10,.val (.int .u32) (.no)),(11,.val (.int .u32) (.no)),(12,.val (.int .u32) (.no)),(13,.val (.int .i64) (.no)),(88,.val (.bool) (.no))],[(.ret,[(3,.undef),(4,.undef),(5,.undef),(6,.box (.named .TMach) (.no)),(7,.box (.named .TEvent) (.no)),(8,.val (.int .i64) (.no)),(9,.val (.int .u32) (.no)),(10,.undef),(12,.undef),(13,.undef)]),(.normal,[(3,.box (.named .TMach) (.no)),(4,.box (.named .TEvent) (.no)),(5,.box (.named .TInst) (.no)),(6,.box (.named .TMach) (.st [.no,.yes 0,.yes 0,.yes 0])),(7,.box (.named .TEvent) (.no)),(8,.undef),(9,.undef),(10,.val (.int .u32) (.no)),(12,.val (.int .u32) (.no)),(13,.val (.int .i64) (.no))])],L_ref15_do_35⟩
def K166_55:MarkK tab:=⟨[(3,.box (.named .TMach) (.no)),(4,.box (.named .TEvent) (.no)),(6,.box (.named .TMach) (.st [.no,.yes 0,.yes 0,.yes 0])),(7,.box (.named .TEvent) (.no))],[(.ret,[(6,.box (.named .TMach) (.no)),(7,.box (.named .TEvent) (.no)),(8,.val (.int .i64) (.no)),(9,.val (.int .u32) (.no))])],L_ref15_do_55⟩
def K166_45:MarkK tab:=⟨[(3,.box (.named .TMach) (.no)),(4,.box (.named .TEvent) (.no)),(5,.box (.named .TInst) (.no)),(6,.box (.named .TMach) (.st [.no,.yes 0,.yes 0,.yes 0])),(7,.box (.named .TEvent) (.no)),(10,.val (.int .u32) (.no)),(12,.val (.int .u32) (.no)),(13,.val (.int .i64) (.no)),(108,.val (.bool) (.no))],[(.ret,[(3,.undef),(4,.undef),(5,.undef),(6,.box (.named .TMach) (.no)),(7,.box (.named .TEvent) (.no)),(8,.val (.int .i64) (.no)),(9,.val (.int .u32) (.no))]),(.normal,[(3,.box (.named .TMach) (.no)),(4,.box (.named .TEvent) (.no)),(5,.box (.named .TInst) (.no)),(6,.box (.named .TMach) (.st [.no,.yes 0,.yes 0,.yes 0])),(7,.box (.named .TEvent) (.no)),(8,.undef),(9,.undef)])],L_ref15_do_45⟩
def K166_59:MarkK tab:=⟨[(3,.box (.named .TMach) (.no)),(4,.box (.named .TEvent) (.no)),(5,.box (.named .TInst) (.no)),(6,.box (.named .TMach) (.st [.no,.yes 0,.yes 0,.yes 0])),(7,.box (.named .TEvent) (.no))],[(.ret,[(6,.box (.named .TMach) (.no)),(7,.box (.named .TEvent) (.no)),(8,.val (.int .i64) (.no)),(9,.val (.int .u32) (.no))])],L_ref15_do_59⟩
def K166_43:MarkK tab:=⟨[(3,.box (.named .TMach) (.no)),(4,.box (.named .TEvent) (.no)),(5,.box (.named .TInst) (.no)),(6,.box (.named .TMach) (.st [.no,.yes 0,.yes 0,.yes 0])),(7,.box (.named .TEvent) (.no)),(10,.val (.int .u32) (.no)),(12,.val (.int .u32) (.no)),(13,.val (.int .i64) (.no))],[(.ret,[(6,.box (.named .TMach) (.no)),(7,.box (.named .TEvent) (.no)),(8,.val (.int .i64) (.no)),(9,.val (.int .u32) (.no))])],L_ref15_do_43⟩
def K166_33:MarkK tab:=⟨[(3,.box (.named .TMach) (.no)),(4,.box (.named .TEvent) (.no)),(5,.box (.named .TInst) (.no)),(6,.box (.named .TMach) (.st [.no,.yes 0,.yes 0,.yes 0])),(7,.box (.named .TEvent) (.no)),(10,.val (.int .u32) (.no)),(11,.val (.int .u32) (.no)),(12,.val (.int .u32) (.no)),(13,.val (.int .i64) (.no))],[(.ret,[(6,.box (.named .TMach) (.no)),(7,.box (.named .TEvent) (.no)),(8,.val (.int .i64) (.no)),(9,.val (.int .u32) (.no))])],L_ref15_do_33⟩
def K166_25:MarkK tab:=⟨[(3,.box (.named .TMach) (.no)),(4,.box (.named .TEvent) (.no)),(5,.box (.named .TInst) (.no)),(6,.box (.named .TMach) (.st [.no,.yes 0,.yes 0,.yes 0])),(7,.box (.named .TEvent) (.no)),(10,.val (.int .u32) (.no)),(11,.val (.int .u32) (.no)),(12,.val (.int .u32) (.no)),(13,.val (.int .i64) (.no))],[(.ret,[(6,.box (.named .TMach) (.no)),(7,.box (.named .TEvent) (.no)),(8,.val (.int .i64) (.no)),(9,.val (.int .u32) (.no))])],L_ref15_do_25⟩
def K166_17:MarkK tab:=⟨[(3,.box (.named .TMach) (.no)),(4,.box (.named .TEvent) (.no)),(5,.box (.named .TInst) (.no)),(6,.box (.named .TMach) (.st [.no,.yes 0,.yes 0,.yes 0])),(7,.box (.named .TEvent) (.no)),(10,.val (.int .u32) (.no)),(11,.val (.int .u32) (.no)),(12,.val (.int .u32) (.no)),(13,.val (.int .i64) (.no))],[(.ret,[(6,.box (.named .TMach) (.no)),(7,.box (.named .TEvent) (.no)),(8,.val (.int .i64) (.no)),(9,.val (.int .u32) (.no))])],L_ref15_do_17⟩
def N166:FnK tab:=⟨[.val (.named .TMach) (.no),.val (.named .TEvent) (.no),.val (.named .TInst) (.no)],TMach×TEvent×W .i64×W .u32,fun a:TMach×TEvent×TInst×Unit=>F_ref15_do a.1 a.2.1 a.2.2.1,fun r:TMach×TEvent×W .i64×W .u32=>(.tup [.val (.named .TMach) r.1 (.no),.val (.named .TEvent) r.2.1 (.no),.val (.int .i64) r.2.2.1 (.no),.val (.int .u32) r.2.2.2 (.no)],[.undef,.undef,.undef])⟩
def t166:Tt:=tbl [(81,N143),(82,N144),(83,N148),(84,N150),(85,N142),(86,N165)]
def q166:Qt:=mtbl [(11,K166_11),(19,K166_19),(39,K166_39),(35,K166_35),(55,K166_55),(45,K166_45),(59,K166_59),(43,K166_43),(33,K166_33),(25,K166_25),(17,K166_17)]
def g167:=gx ⟨[0,1,2,21],[],[true],[]⟩ Tryz.f58
def N167:FnK tab:=⟨[.val (.named .TArch) (.no)],TArch,fun a:TArch×Unit=>F_ref11_Count a.1,fun r:TArch=>(.val (.named .TArch) r (.no),[.undef])⟩
def g168:=gx ⟨[0,1,2,3,4,5,6,7,8,9,10,11,12,13,16,23,35,50,66,82,109,128],[],[true,true,true],[]⟩ Tryz.f24
def N168:FnK tab:=⟨[.val (.named .TMach) (.no)],TMach×TEvent×Bool,fun a:TMach×Unit=>F_ref15_Step a.1,fun r:TMach×TEvent×Bool=>(.tup [.val (.named .TMach) r.1 (.no),.val (.named .TEvent) r.2.1 (.no),.val (.bool) r.2.2 (.no)],[.undef])⟩
def t168:Tt:=tbl [(49,N106),(50,N109),(51,N110),(52,N126),(53,N132),(54,N133),(55,N104),(56,N134),(57,N166),(58,N167),(59,N108)]
def g169:=gx ⟨[0,1,2,3,6,7,8,9,10,11,12,13,16,19,25,34,51],[],[true,true],[(11,[(1,.any),(2,.any),(3,.any),(6,.any),(8,.any),(9,.any)]),(12,[(3,.any),(6,.any),(7,.any),(8,.any)]),(13,[(1,.any),(2,.any),(3,.any),(6,.any),(8,.any),(9,.any)]),(20,[(1,.any),(2,.any),(3,.any),(6,.any),(8,.any),(9,.any),(10,.any)]),(21,[(1,.any),(2,.any),(3,.any),(6,.any),(8,.any),(9,.any)]),(22,[(1,.any),(2,.any),(3,.any),(6,.any),(8,.any),(9,.any),(10,.any)])]⟩ Tryz.f11
def K169_20:MarkK tab:=⟨[(1,.val (.slice 16 (.named .TIrq)) (.no)),(2,.val (.int .i64) (.no)),(3,.box (.named .TMach) (.no)),(6,.box (.named .TMach) (.st [.no,.yes 0,.yes 0,.yes 0])),(8,.val (.slice 72 (.named .TEvent)) (.yes 0)),(9,.val (.int .i64) (.no)),(10,.val (.int .i64) (.no))],[((.exit 2),[(1,.val (.slice 16 (.named .TIrq)) (.no)),(2,.val (.int .i64) (.no)),(3,.box (.named .TMach) (.no)),(6,.box (.named .TMach) (.st [.no,.yes 0,.yes 0,.yes 0])),(8,.val (.slice 72 (.named .TEvent)) (.yes 0)),(9,.val (.int .i64) (.no))])],L_ref16_Run_20⟩
def K169_11:MarkK tab:=⟨[(1,.val (.slice 16 (.named .TIrq)) (.no)),(2,.val (.int .i64) (.no)),(3,.box (.named .TMach) (.no)),(6,.box (.named .TMach) (.st [.no,.yes 0,.yes 0,.yes 0])),(8,.val (.slice 72 (.named .TEvent)) (.yes 0)),(9,.val (.int .i64) (.no))],[(.ret,[(3,.box (.named .TMach) (.no)),(6,.box (.named .TMach) (.no)),(7,.ref 8 []),(8,.val (.slice 72 (.named .TEvent)) (.yes 0))]),((.exit 0),[(3,.box (.named .TMach) (.no)),(6,.box (.named .TMach) (.st [.no,.yes 0,.yes 0,.yes 0])),(7,.undef),(8,.val (.slice 72 (.named .TEvent)) (.yes 0))])],L_ref16_Run_11⟩
def N169:FnK tab:=⟨[.val (.named .TMach) (.no),.val (.slice 16 (.named .TIrq)) (.no),.val (.int .i64) (.no)],TMach×Sl 72 (TEvent),fun a:TMach×Sl 16 (TIrq)×W .i64×Unit=>F_ref16_Run a.1 a.2.1 a.2.2.1,fun r:TMach×Sl 72 (TEvent)=>(.tup [.val (.named .TMach) r.1 (.no),.val (.slice 72 (.named .TEvent)) r.2 (.no)],[.undef,.undef,.undef])⟩
def t169:Tt:=tbl [(23,N103),(24,N168)]
def q169:Qt:=mtbl [(20,K169_20),(11,K169_11)]
def g170:=gx ⟨[0,1,4,5,10,20,31],[],[true],[(11,[(0,.any),(1,.any),(5,.any)]),(12,[(4,.any)]),(13,[(0,.any),(1,.any),(5,.any)])]⟩ Tryz.f25
def K170_11:MarkK tab:=⟨[(0,.val (.slice 1 (.int .u8)) (.no)),(1,.val (.slice 1 (.int .u8)) (.no)),(5,.val (.int .i64) (.no))],[(.ret,[(4,.val (.bool) (.no))]),((.exit 0),[(4,.undef)])],L_same_Bytes_11⟩
def N170:FnK tab:=⟨[.val (.slice 1 (.int .u8)) (.no),.val (.slice 1 (.int .u8)) (.no)],Bool,fun a:Sl 1 (W .u8)×Sl 1 (W .u8)×Unit=>F_same_Bytes a.1 a.2.1,fun r:Bool=>(.val (.bool) r (.no),[.undef,.undef])⟩
def q170:Qt:=mtbl [(11,K170_11)]
def g171:=gx ⟨[0,1,4,5,10,20,31],[],[true],[(11,[(0,.any),(1,.any),(5,.any)]),(12,[(4,.any)]),(13,[(0,.any),(1,.any),(5,.any)])]⟩ Tryz.f26
def K171_11:MarkK tab:=⟨[(0,.val (.slice 4 (.int .u32)) (.no)),(1,.val (.slice 4 (.int .u32)) (.no)),(5,.val (.int .i64) (.no))],[(.ret,[(4,.val (.bool) (.no))]),((.exit 0),[(4,.undef)])],L_same_Words_11⟩
def N171:FnK tab:=⟨[.val (.slice 4 (.int .u32)) (.no),.val (.slice 4 (.int .u32)) (.no)],Bool,fun a:Sl 4 (W .u32)×Sl 4 (W .u32)×Unit=>F_same_Words a.1 a.2.1,fun r:Bool=>(.val (.bool) r (.no),[.undef,.undef])⟩
def q171:Qt:=mtbl [(11,K171_11)]
def g172:=gx ⟨[0,1,2,3,4],[],[true],[]⟩ Tryz.f12
def N172:FnK tab:=⟨[.val (.named .TMach) (.no),.val (.named .TMach) (.no)],Bool,fun a:TMach×TMach×Unit=>F_same_Mach a.1 a.2.1,fun r:Bool=>(.val (.bool) r (.no),[.undef,.undef])⟩
def t172:Tt:=tbl [(25,N170),(26,N171)]
def g173:=gx ⟨[0,1,4,5,10,20,31],[],[true],[(11,[(0,.any),(1,.any),(5,.any)]),(12,[(4,.any)]),(13,[(0,.any),(1,.any),(5,.any)])]⟩ Tryz.f13
def K173_11:MarkK tab:=⟨[(0,.val (.slice 72 (.named .TEvent)) (.no)),(1,.val (.slice 72 (.named .TEvent)) (.no)),(5,.val (.int .i64) (.no))],[(.ret,[(4,.val (.bool) (.no))]),((.exit 0),[(4,.undef)])],L_same_Events_11⟩
def N173:FnK tab:=⟨[.val (.slice 72 (.named .TEvent)) (.no),.val (.slice 72 (.named .TEvent)) (.no)],Bool,fun a:Sl 72 (TEvent)×Sl 72 (TEvent)×Unit=>F_same_Events a.1 a.2.1,fun r:Bool=>(.val (.bool) r (.no),[.undef,.undef])⟩
def q173:Qt:=mtbl [(11,K173_11)]
def g174:=gx ⟨[0,1,2,3,6,7,8,9,10,22],[],[true],[]⟩ Tryz.f3
def N174:FnK tab:=⟨[.val (.named .TMach) (.no),.val (.slice 16 (.named .TIrq)) (.no),.val (.int .i64) (.no)],Bool,fun a:TMach×Sl 16 (TIrq)×W .i64×Unit=>F_law16_RunDoes a.1 a.2.1 a.2.2.1,fun r:Bool=>(.val (.bool) r (.no),[.undef,.undef,.undef])⟩
def t174:Tt:=tbl [(7,N4),(8,N102),(9,N101),(10,N91),(11,N169),(12,N172),(13,N173)]
end
end Go.Proofs.YtedhidchlfhegaaGreatDoor
