/- YtedhidchlfhegaaGreatDoorTabs: the tables of functions and marks. No statement of the seat is proved here. -/
import Derived.Test.YtedhidchlfhegaaGreatDoorTrees
import Derived.Test.YtedhidchlfhegaaGreatDoorChecked
import Derived.Test.YtedhidchlfhegaaGreatDoorA2G
set_option linter.unusedSimpArgs false
set_option linter.unusedVariables false
set_option maxRecDepth 100000
namespace Go.Proofs.YtedhidchlfhegaaGreatDoor
open Go Go.A2
noncomputable section
abbrev Tt:=Nat→List (FnK tab)
abbrev Qt:=Nat→Option (MarkK tab)
def t0:Tt:=tbl []
def q0:Qt:=fun _=>none
def gx (x:FnX) (f:Func):AFn tab:=gOf Tryz.prog cx x f
abbrev OkN:=FnOk (X:=tab) Tryz.prog
abbrev Mo (t:Tt) (q:Qt) (g:AFn tab):=MarkOk (fnsC t) (markL q) g.keep fuel
def g1:=gx ⟨[0,2],[],[true],[]⟩ Tryz.f36
def N1:FnK tab:=⟨[.val (.slice 1 (.int .u8)) (.no)],Bool,fun a:Sl 1 (W .u8)×Unit=>F_ref10_Right a.1,fun r:Bool=>(.val (.bool) r (.no),[.undef])⟩
def g2:=gx ⟨[0,2,3,4,6,8,11,18],[],[true],[]⟩ Tryz.f37
def N2:FnK tab:=⟨[.val (.int .i64) (.no)],W .u32,fun a:W .i64×Unit=>F_ref11_Masked a.1,fun r:W .u32=>(.val (.int .u32) r (.no),[.undef])⟩
def g3:=gx ⟨[0,1,2,3,23,25,41],[],[true],[(11,[(1,.any),(3,.any)]),(12,[(2,.any)]),(13,[(1,.any),(3,.any)])]⟩ Tryz.f20
def K3_11:MarkK tab:=⟨[(1,.box (.named .TMach) (.no)),(3,.val (.int .i64) (.no))],[(.ret,[(2,.val (.bool) (.no))]),((.exit 0),[(2,.undef)])],L_ref15_Right_11⟩
def N3:FnK tab:=⟨[.val (.named .TMach) (.no)],Bool,fun a:TMach×Unit=>F_ref15_Right a.1,fun r:Bool=>(.val (.bool) r (.no),[.undef])⟩
def t3:Tt:=tbl [(36,N1),(37,N2)]
def q3:Qt:=mtbl [(11,K3_11)]
def g4:=gx ⟨[0,1,2],[],[true],[]⟩ Tryz.f7
def N4:FnK tab:=⟨[.val (.named .TMach) (.no)],Bool,fun a:TMach×Unit=>F_law15_Light a.1,fun r:Bool=>(.val (.bool) r (.no),[.undef])⟩
def t4:Tt:=tbl [(20,N3)]
def g5:=gx ⟨[0,1,2,4],[],[true],[]⟩ Tryz.f21
def N5:FnK tab:=⟨[.val (.named .TArch) (.no),.val (.int .u32) (.no)],TArch,fun a:TArch×W .u32×Unit=>F_csr_Raise a.1 a.2.1,fun r:TArch=>(.val (.named .TArch) r (.no),[.undef,.undef])⟩
def g6:=gx ⟨[0,1,2],[],[true],[]⟩ Tryz.f44
def N6:FnK tab:=⟨[.val (.named .TArch) (.no)],Bool,fun a:TArch×Unit=>F_csr_Kernel a.1,fun r:Bool=>(.val (.bool) r (.no),[.undef])⟩
def g7:=gx ⟨[0],[],[true],[]⟩ Tryz.f61
def N7:FnK tab:=⟨[],Arr 3 (TSource),fun a:Unit=>F_trap_sources,fun r:Arr 3 (TSource)=>(.val (.arr 3 (.named .TSource)) r (.no),[])⟩
def g8:=gx ⟨[0,1,2,3,5,14,22,23,24,30],[],[true],[(13,[(3,.any),(22,.any),(23,.any)]),(14,[(2,.any)]),(15,[(3,.any),(22,.any),(23,.any)])]⟩ Tryz.f38
def K8_13:MarkK tab:=⟨[(3,.val (.int .u32) (.no)),(22,.val (.arr 3 (.named .TSource)) (.no)),(23,.val (.int .i64) (.no))],[(.ret,[(2,.val (.int .i64) (.no))]),((.exit 0),[(2,.undef)])],L_trap_Pending_13⟩
def N8:FnK tab:=⟨[.val (.named .TArch) (.no)],W .i64,fun a:TArch×Unit=>F_trap_Pending a.1,fun r:W .i64=>(.val (.int .i64) r (.no),[.undef])⟩
def t8:Tt:=tbl [(44,N6),(61,N7)]
def q8:Qt:=mtbl [(13,K8_13)]
def g9:=gx ⟨[0,2,3,10],[],[true],[]⟩ Tryz.f74
def N9:FnK tab:=⟨[.val (.int .i64) (.no)],W .u32,fun a:W .i64×Unit=>F_csr_Masked a.1,fun r:W .u32=>(.val (.int .u32) r (.no),[.undef])⟩
def g10:=gx ⟨[0,1,2,6,10],[],[true],[]⟩ Tryz.f75
def N10:FnK tab:=⟨[.val (.int .u32) (.no),.val (.int .u32) (.no),.val (.int .u32) (.no)],W .u32,fun a:W .u32×W .u32×W .u32×Unit=>F_trap_moved a.1 a.2.1 a.2.2.1,fun r:W .u32=>(.val (.int .u32) r (.no),[.undef,.undef,.undef])⟩
def g11:=gx ⟨[0,1,2,3,4,8,9],[],[true],[]⟩ Tryz.f48
def N11:FnK tab:=⟨[.val (.named .TArch) (.no),.val (.int .i64) (.no),.val (.int .u32) (.no),.val (.int .u32) (.no)],TArch,fun a:TArch×W .i64×W .u32×W .u32×Unit=>F_trap_Take a.1 a.2.1 a.2.2.1 a.2.2.2.1,fun r:TArch=>(.val (.named .TArch) r (.no),[.undef,.undef,.undef,.undef])⟩
def t11:Tt:=tbl [(74,N9),(75,N10)]
def g12:=gx ⟨[0,1,2,3,4,8,9,10,11],[],[true,true,true],[]⟩ Tryz.f39
def N12:FnK tab:=⟨[.val (.named .TMach) (.no),.val (.int .u32) (.no),.val (.int .i64) (.no),.val (.int .u32) (.no)],TMach×TEvent×Bool,fun a:TMach×W .u32×W .i64×W .u32×Unit=>F_step_traps a.1 a.2.1 a.2.2.1 a.2.2.2.1,fun r:TMach×TEvent×Bool=>(.tup [.val (.named .TMach) r.1 (.no),.val (.named .TEvent) r.2.1 (.no),.val (.bool) r.2.2 (.no)],[.undef,.undef,.undef,.undef])⟩
def t12:Tt:=tbl [(48,N11)]
def g13:=gx ⟨[0,1,2,4,5],[],[true],[]⟩ Tryz.f40
def N13:FnK tab:=⟨[.val (.named .TArch) (.no),.val (.int .u32) (.no)],Bool,fun a:TArch×W .u32×Unit=>F_trap_Stops a.1 a.2.1,fun r:Bool=>(.val (.bool) r (.no),[.undef,.undef])⟩
def t13:Tt:=tbl [(44,N6)]
def g14:=gx ⟨[0,1,4],[],[true],[]⟩ Tryz.f88
def N14:FnK tab:=⟨[.val (.int .u32) (.no),.val (.int .i64) (.no)],Bool,fun a:W .u32×W .i64×Unit=>F_bits_Aligned a.1 a.2.1,fun r:Bool=>(.val (.bool) r (.no),[.undef,.undef])⟩
def g15:=gx ⟨[0,1,2],[],[true],[]⟩ Tryz.f129
def N15:FnK tab:=⟨[.val (.named .TArch) (.no)],Bool,fun a:TArch×Unit=>F_walk_Paged a.1,fun r:Bool=>(.val (.bool) r (.no),[.undef])⟩
def t15:Tt:=tbl [(44,N6)]
def g16:=gx ⟨[0,2,3,4,6,8],[],[true],[]⟩ Tryz.f130
def N16:FnK tab:=⟨[.val (.int .i64) (.no)],W .i64,fun a:W .i64×Unit=>F_walk_Fault a.1,fun r:W .i64=>(.val (.int .i64) r (.no),[.undef])⟩
def g17:=gx ⟨[0,1,2,6],[],[true],[]⟩ Tryz.f134
def N17:FnK tab:=⟨[.val (.int .i64) (.no),.val (.int .i64) (.no),.val (.int .i64) (.no)],W .i64,fun a:W .i64×W .i64×W .i64×Unit=>F_bits_clamp a.1 a.2.1 a.2.2.1,fun r:W .i64=>(.val (.int .i64) r (.no),[.undef,.undef,.undef])⟩
def g18:=gx ⟨[0,2],[],[true],[]⟩ Tryz.f135
def N18:FnK tab:=⟨[.val (.int .i64) (.no)],W .u32,fun a:W .i64×Unit=>F_bits_ones a.1,fun r:W .u32=>(.val (.int .u32) r (.no),[.undef])⟩
def g19:=gx ⟨[0,1,4,5,12],[],[true,true],[]⟩ Tryz.f92
def N19:FnK tab:=⟨[.val (.int .i64) (.no),.val (.int .i64) (.no)],W .u32×W .i64,fun a:W .i64×W .i64×Unit=>F_bits_mask a.1 a.2.1,fun r:W .u32×W .i64=>(.tup [.val (.int .u32) r.1 (.no),.val (.int .i64) r.2 (.no)],[.undef,.undef])⟩
def t19:Tt:=tbl [(134,N17),(135,N18)]
def g20:=gx ⟨[0,1,2,6,7,8],[],[true],[]⟩ Tryz.f64
def N20:FnK tab:=⟨[.val (.int .u32) (.no),.val (.int .i64) (.no),.val (.int .i64) (.no)],W .u32,fun a:W .u32×W .i64×W .i64×Unit=>F_bits_Field a.1 a.2.1 a.2.2.1,fun r:W .u32=>(.val (.int .u32) r (.no),[.undef,.undef,.undef])⟩
def t20:Tt:=tbl [(92,N19)]
def g21:=gx ⟨[0,1,4,5,6,11],[],[true],[]⟩ Tryz.f166
def N21:FnK tab:=⟨[.val (.int .u32) (.no),.val (.int .i64) (.no)],W .i64,fun a:W .u32×W .i64×Unit=>F_pte_Index a.1 a.2.1,fun r:W .i64=>(.val (.int .i64) r (.no),[.undef,.undef])⟩
def t21:Tt:=tbl [(64,N20)]
def g22:=gx ⟨[0,1,2,6,27],[],[true],[]⟩ Tryz.f90
def N22:FnK tab:=⟨[.val (.slice 1 (.int .u8)) (.no),.val (.int .u32) (.no),.val (.int .i64) (.no)],W .i64,fun a:Sl 1 (W .u8)×W .u32×W .i64×Unit=>F_mem_Check a.1 a.2.1 a.2.2.1,fun r:W .i64=>(.val (.int .i64) r (.no),[.undef,.undef,.undef])⟩
def g23:=gx ⟨[0,2,3,4,5,10,11,12,13],[],[true],[(7,[(3,.any),(10,.any),(11,.any),(12,.any)]),(8,[(3,.any)]),(9,[(3,.any),(10,.any),(11,.any),(12,.any)])]⟩ Tryz.f91
def K23_7:MarkK tab:=⟨[(3,.val (.int .u32) (.no)),(10,.val (.slice 1 (.int .u8)) (.no)),(11,.val (.int .i64) (.no)),(12,.val (.int .i64) (.no))],[((.exit 0),[(3,.val (.int .u32) (.no))])],L_bits_Of_7⟩
def N23:FnK tab:=⟨[.val (.slice 1 (.int .u8)) (.no)],W .u32,fun a:Sl 1 (W .u8)×Unit=>F_bits_Of a.1,fun r:W .u32=>(.val (.int .u32) r (.no),[.undef])⟩
def q23:Qt:=mtbl [(7,K23_7)]
def g24:=gx ⟨[0,1,2,6,7,8,14],[],[true,true],[]⟩ Tryz.f63
def N24:FnK tab:=⟨[.val (.slice 1 (.int .u8)) (.no),.val (.int .u32) (.no),.val (.int .i64) (.no)],W .u32×W .i64,fun a:Sl 1 (W .u8)×W .u32×W .i64×Unit=>F_mem_Read a.1 a.2.1 a.2.2.1,fun r:W .u32×W .i64=>(.tup [.val (.int .u32) r.1 (.no),.val (.int .i64) r.2 (.no)],[.undef,.undef,.undef])⟩
def t24:Tt:=tbl [(90,N22),(91,N23)]
def g25:=gx ⟨[0,2],[],[true],[]⟩ Tryz.f185
def N25:FnK tab:=⟨[.val (.int .u32) (.no)],TPte,fun a:W .u32×Unit=>F_pte_Of a.1,fun r:TPte=>(.val (.named .TPte) r (.no),[.undef])⟩
def t25:Tt:=tbl [(64,N20)]
def g26:=gx ⟨[0,1,4,5,6,7,18],[0],[true,true],[]⟩ Tryz.f165
def N26:FnK tab:=⟨[.box (.named .TWalker) (.st [.no,.yes 0]),.val (.int .u32) (.no)],TPte×Bool×TWalker,fun a:TWalker×W .u32×Unit=>F_walk_walker_entry a.1 a.2.1,fun r:TPte×Bool×TWalker=>(.tup [.val (.named .TPte) r.1 (.no),.val (.bool) r.2.1 (.no)],[.box 0 (.named .TWalker) r.2.2 (.st [.no,.yes 0]),.undef])⟩
def t26:Tt:=tbl [(63,N24),(185,N25)]
def g27:=gx ⟨[0,1,2],[],[true],[]⟩ Tryz.f167
def N27:FnK tab:=⟨[.val (.named .TPte) (.no)],Bool,fun a:TPte×Unit=>F_pte_Leaf a.1,fun r:Bool=>(.val (.bool) r (.no),[.undef])⟩
def g28:=gx ⟨[0,1,2,6,7,8,9,10,11,12,15,17,41,73],[],[true,true,true],[]⟩ Tryz.f131
def N28:FnK tab:=⟨[.val (.slice 1 (.int .u8)) (.no),.val (.int .u32) (.no),.val (.int .u32) (.no)],TPte×Sl 4 (W .u32)×Bool,fun a:Sl 1 (W .u8)×W .u32×W .u32×Unit=>F_walk_Walk a.1 a.2.1 a.2.2.1,fun r:TPte×Sl 4 (W .u32)×Bool=>(.tup [.val (.named .TPte) r.1 (.no),.val (.slice 4 (.int .u32)) r.2.1 (.no),.val (.bool) r.2.2 (.no)],[.undef,.undef,.undef])⟩
def t28:Tt:=tbl [(165,N26),(166,N21),(167,N27)]
def g29:=gx ⟨[0,1,2,3,6,7,9,12,13,17,21],[],[true],[]⟩ Tryz.f132
def N29:FnK tab:=⟨[.val (.named .TPte) (.no),.val (.int .i64) (.no),.val (.bool) (.no)],Bool,fun a:TPte×W .i64×Bool×Unit=>F_pte_Allows a.1 a.2.1 a.2.2.1,fun r:Bool=>(.val (.bool) r (.no),[.undef,.undef,.undef])⟩
def g30:=gx ⟨[0,1,2],[],[true],[]⟩ Tryz.f168
def N30:FnK tab:=⟨[.val (.named .TPte) (.no)],W .u32,fun a:TPte×Unit=>F_pte_page a.1,fun r:W .u32=>(.val (.int .u32) r (.no),[.undef])⟩
def g31:=gx ⟨[0,1,2,4],[],[true],[]⟩ Tryz.f133
def N31:FnK tab:=⟨[.val (.named .TPte) (.no),.val (.int .u32) (.no)],W .u32,fun a:TPte×W .u32×Unit=>F_pte_Addr a.1 a.2.1,fun r:W .u32=>(.val (.int .u32) r (.no),[.undef,.undef])⟩
def t31:Tt:=tbl [(168,N30)]
def g32:=gx ⟨[0,1,2,3,4,8,9,10,11,13,16,21,40],[],[true,true],[]⟩ Tryz.f89
def N32:FnK tab:=⟨[.val (.named .TArch) (.no),.val (.slice 1 (.int .u8)) (.no),.val (.int .u32) (.no),.val (.int .i64) (.no)],W .u32×W .i64,fun a:TArch×Sl 1 (W .u8)×W .u32×W .i64×Unit=>F_walk_Trans a.1 a.2.1 a.2.2.1 a.2.2.2.1,fun r:W .u32×W .i64=>(.tup [.val (.int .u32) r.1 (.no),.val (.int .i64) r.2 (.no)],[.undef,.undef,.undef,.undef])⟩
def t32:Tt:=tbl [(129,N15),(130,N16),(131,N28),(132,N29),(133,N31)]
def g33:=gx ⟨[0,1,2,3,4,5,10,11,12,13,17,29,35],[],[true,true],[]⟩ Tryz.f62
def N33:FnK tab:=⟨[.val (.named .TMach) (.no),.val (.slice 1 (.int .u8)) (.no),.val (.int .u32) (.no),.val (.int .i64) (.no),.val (.int .i64) (.no)],W .u32×W .i64,fun a:TMach×Sl 1 (W .u8)×W .u32×W .i64×W .i64×Unit=>F_step_reach a.1 a.2.1 a.2.2.1 a.2.2.2.1 a.2.2.2.2.1,fun r:W .u32×W .i64=>(.tup [.val (.int .u32) r.1 (.no),.val (.int .i64) r.2 (.no)],[.undef,.undef,.undef,.undef,.undef])⟩
def t33:Tt:=tbl [(88,N14),(89,N32),(90,N22)]
def g34:=gx ⟨[0,1,2,3,4,5,17],[],[true,true],[]⟩ Tryz.f41
def N34:FnK tab:=⟨[.val (.named .TMach) (.no)],W .u32×W .i64,fun a:TMach×Unit=>F_step_Fetch a.1,fun r:W .u32×W .i64=>(.tup [.val (.int .u32) r.1 (.no),.val (.int .i64) r.2 (.no)],[.undef])⟩
def t34:Tt:=tbl [(62,N33),(63,N24)]
def g35:=gx ⟨[0,2,3,10,17,20,27,34,37,40,43,46,49],[],[true],[]⟩ Tryz.f93
def N35:FnK tab:=⟨[.val (.int .i64) (.no)],W .i64,fun a:W .i64×Unit=>F_inst_Form a.1,fun r:W .i64=>(.val (.int .i64) r (.no),[.undef])⟩
def g36:=gx ⟨[0,1,4],[],[true],[]⟩ Tryz.f65
def N36:FnK tab:=⟨[.val (.int .i64) (.no),.val (.int .i64) (.no)],Bool,fun a:W .i64×W .i64×Unit=>F_inst_has a.1 a.2.1,fun r:Bool=>(.val (.bool) r (.no),[.undef,.undef])⟩
def t36:Tt:=tbl [(93,N35)]
def g37:=gx ⟨[0,1,4],[],[true],[]⟩ Tryz.f94
def N37:FnK tab:=⟨[.val (.int .u32) (.no),.val (.int .i64) (.no)],W .u32,fun a:W .u32×W .i64×Unit=>F_bits_Zext a.1 a.2.1,fun r:W .u32=>(.val (.int .u32) r (.no),[.undef,.undef])⟩
def t37:Tt:=tbl [(134,N17),(135,N18)]
def g38:=gx ⟨[0,2,5],[],[true],[]⟩ Tryz.f96
def N38:FnK tab:=⟨[.val (.int .i64) (.no)],W .i64,fun a:W .i64×Unit=>F_inst_width a.1,fun r:W .i64=>(.val (.int .i64) r (.no),[.undef])⟩
def t38:Tt:=tbl [(93,N35)]
def g39:=gx ⟨[0,1,4,5],[],[true],[]⟩ Tryz.f95
def N39:FnK tab:=⟨[.val (.int .u32) (.no),.val (.int .i64) (.no)],W .u32,fun a:W .u32×W .i64×Unit=>F_bits_Sext a.1 a.2.1,fun r:W .u32=>(.val (.int .u32) r (.no),[.undef,.undef])⟩
def t39:Tt:=tbl [(134,N17)]
def g40:=gx ⟨[0,1,4,6],[],[true],[]⟩ Tryz.f66
def N40:FnK tab:=⟨[.val (.int .i64) (.no),.val (.int .u32) (.no)],W .i64,fun a:W .i64×W .u32×Unit=>F_inst_number a.1 a.2.1,fun r:W .i64=>(.val (.int .i64) r (.no),[.undef,.undef])⟩
def t40:Tt:=tbl [(94,N37),(95,N39),(96,N38)]
def g41:=gx ⟨[0,1,4,5,6,16,24],[],[true],[]⟩ Tryz.f136
def N41:FnK tab:=⟨[.val (.int .i64) (.no),.val (.int .i64) (.no)],Bool,fun a:W .i64×W .i64×Unit=>F_inst_within a.1 a.2.1,fun r:Bool=>(.val (.bool) r (.no),[.undef,.undef])⟩
def g42:=gx ⟨[0,1,2,4,8,18,19,20,44,46,56],[],[true],[(11,[(1,.any),(18,.any),(19,.any)]),(12,[(1,.any),(2,.any)]),(13,[(1,.any),(18,.any),(19,.any)])]⟩ Tryz.f97
def K42_11:MarkK tab:=⟨[(1,.box (.named .TInst) (.no)),(18,.val (.arr 3 (.named .TS141)) (.no)),(19,.val (.int .i64) (.no))],[(.ret,[(1,.box (.named .TInst) (.no)),(2,.val (.int .i64) (.no))]),((.exit 0),[(1,.box (.named .TInst) (.no)),(2,.undef)])],L_inst_Right_11⟩
def N42:FnK tab:=⟨[.val (.named .TInst) (.no)],W .i64,fun a:TInst×Unit=>F_inst_Right a.1,fun r:W .i64=>(.val (.int .i64) r (.no),[.undef])⟩
def t42:Tt:=tbl [(65,N36),(93,N35),(136,N41)]
def q42:Qt:=mtbl [(11,K42_11)]
def g43:=gx ⟨[0,1,2,3,8,9,10],[],[true],[]⟩ Tryz.f98
def N43:FnK tab:=⟨[.val (.int .u32) (.no),.val (.int .i64) (.no),.val (.int .i64) (.no),.val (.int .u32) (.no)],W .u32,fun a:W .u32×W .i64×W .i64×W .u32×Unit=>F_bits_Put a.1 a.2.1 a.2.2.1 a.2.2.2.1,fun r:W .u32=>(.val (.int .u32) r (.no),[.undef,.undef,.undef,.undef])⟩
def t43:Tt:=tbl [(92,N19)]
def g44:=gx ⟨[0,1,2,3,4,5,9,32],[],[true,true],[]⟩ Tryz.f67
def N44:FnK tab:=⟨[.val (.named .TInst) (.no)],W .u32×W .i64,fun a:TInst×Unit=>F_inst_Enc a.1,fun r:W .u32×W .i64=>(.tup [.val (.int .u32) r.1 (.no),.val (.int .i64) r.2 (.no)],[.undef])⟩
def t44:Tt:=tbl [(65,N36),(96,N38),(97,N42),(98,N43)]
def g45:=gx ⟨[0,2,3,4,5,6,13,17,24,31,38,55],[],[true,true],[]⟩ Tryz.f42
def N45:FnK tab:=⟨[.val (.int .u32) (.no)],TInst×W .i64,fun a:W .u32×Unit=>F_inst_Dec a.1,fun r:TInst×W .i64=>(.tup [.val (.named .TInst) r.1 (.no),.val (.int .i64) r.2 (.no)],[.undef])⟩
def t45:Tt:=tbl [(64,N20),(65,N36),(66,N40),(67,N44)]
def g46:=gx ⟨[0,2],[],[true],[]⟩ Tryz.f43
def N46:FnK tab:=⟨[.val (.int .i64) (.no)],Bool,fun a:W .i64×Unit=>F_inst_Priv a.1,fun r:Bool=>(.val (.bool) r (.no),[.undef])⟩
def g47:=gx ⟨[0,2,3],[],[true],[]⟩ Tryz.f137
def N47:FnK tab:=⟨[.val (.bool) (.no)],W .u32,fun a:Bool×Unit=>F_alu_one a.1,fun r:W .u32=>(.val (.int .u32) r (.no),[.undef])⟩
def g48:=gx ⟨[0,2,3,5],[],[true],[(5,[(0,.any),(3,.any)]),(6,[(3,.any)]),(7,[(0,.any),(3,.any)])]⟩ Tryz.f169
def K48_5:MarkK tab:=⟨[(0,.val (.int .u32) (.no)),(3,.val (.int .i64) (.no))],[((.exit 0),[(3,.val (.int .i64) (.no))])],L_alu_Clz_5⟩
def N48:FnK tab:=⟨[.val (.int .u32) (.no)],W .i64,fun a:W .u32×Unit=>F_alu_Clz a.1,fun r:W .i64=>(.val (.int .i64) r (.no),[.undef])⟩
def q48:Qt:=mtbl [(5,K48_5)]
def g49:=gx ⟨[0,2,3,5],[],[true],[(5,[(0,.any),(3,.any)]),(6,[(3,.any)]),(7,[(0,.any),(3,.any)])]⟩ Tryz.f170
def K49_5:MarkK tab:=⟨[(0,.val (.int .u32) (.no)),(3,.val (.int .i64) (.no))],[((.exit 0),[(3,.val (.int .i64) (.no))])],L_alu_Pop_5⟩
def N49:FnK tab:=⟨[.val (.int .u32) (.no)],W .i64,fun a:W .u32×Unit=>F_alu_Pop a.1,fun r:W .i64=>(.val (.int .i64) r (.no),[.undef])⟩
def q49:Qt:=mtbl [(5,K49_5)]
def g50:=gx ⟨[0,2],[],[true],[]⟩ Tryz.f171
def N50:FnK tab:=⟨[.val (.int .u32) (.no)],W .u32,fun a:W .u32×Unit=>F_alu_Rev a.1,fun r:W .u32=>(.val (.int .u32) r (.no),[.undef])⟩
def g51:=gx ⟨[0,1,4,5,6,7,12,17],[],[true,true],[]⟩ Tryz.f138
def N51:FnK tab:=⟨[.val (.int .i64) (.no),.val (.int .u32) (.no)],W .u32×Bool,fun a:W .i64×W .u32×Unit=>F_alu_single a.1 a.2.1,fun r:W .u32×Bool=>(.tup [.val (.int .u32) r.1 (.no),.val (.bool) r.2 (.no)],[.undef,.undef])⟩
def t51:Tt:=tbl [(169,N48),(170,N49),(171,N50)]
def g52:=gx ⟨[0,2],[],[true],[]⟩ Tryz.f172
def N52:FnK tab:=⟨[.val (.int .u32) (.no)],W .u32,fun a:W .u32×Unit=>F_alu_low a.1,fun r:W .u32=>(.val (.int .u32) r (.no),[.undef])⟩
def g53:=gx ⟨[0,1,4,5],[],[true],[]⟩ Tryz.f186
def N53:FnK tab:=⟨[.val (.int .u32) (.no),.val (.int .i64) (.no)],W .u32,fun a:W .u32×W .i64×Unit=>F_bits_RotateLeft32 a.1 a.2.1,fun r:W .u32=>(.val (.int .u32) r (.no),[.undef,.undef])⟩
def g54:=gx ⟨[0,1,4],[],[true],[]⟩ Tryz.f173
def N54:FnK tab:=⟨[.val (.int .u32) (.no),.val (.int .i64) (.no)],W .u32,fun a:W .u32×W .i64×Unit=>F_bits_Rot a.1 a.2.1,fun r:W .u32=>(.val (.int .u32) r (.no),[.undef,.undef])⟩
def t54:Tt:=tbl [(186,N53)]
def g55:=gx ⟨[0,1,2,6,7,8,9,15,21,27,34,41,50],[],[true,true],[]⟩ Tryz.f139
def N55:FnK tab:=⟨[.val (.int .i64) (.no),.val (.int .u32) (.no),.val (.int .u32) (.no)],W .u32×Bool,fun a:W .i64×W .u32×W .u32×Unit=>F_alu_logic a.1 a.2.1 a.2.2.1,fun r:W .u32×Bool=>(.tup [.val (.int .u32) r.1 (.no),.val (.bool) r.2 (.no)],[.undef,.undef,.undef])⟩
def t55:Tt:=tbl [(172,N52),(173,N54)]
def g56:=gx ⟨[0,1,2,6,7,8,9,15,20,29,35,43,51,55],[],[true,true],[]⟩ Tryz.f99
def N56:FnK tab:=⟨[.val (.int .i64) (.no),.val (.int .u32) (.no),.val (.int .u32) (.no)],W .u32×Bool,fun a:W .i64×W .u32×W .u32×Unit=>F_alu_Do a.1 a.2.1 a.2.2.1,fun r:W .u32×Bool=>(.tup [.val (.int .u32) r.1 (.no),.val (.bool) r.2 (.no)],[.undef,.undef,.undef])⟩
def t56:Tt:=tbl [(137,N47),(138,N51),(139,N55)]
def g57:=gx ⟨[0,1,4],[],[true],[]⟩ Tryz.f141
def N57:FnK tab:=⟨[.val (.int .u32) (.no),.val (.int .u32) (.no)],TMul,fun a:W .u32×W .u32×Unit=>F_mul_New a.1 a.2.1,fun r:TMul=>(.val (.named .TMul) r (.no),[.undef,.undef])⟩
def g58:=gx ⟨[0,1,2,3,4,7,15],[],[true],[]⟩ Tryz.f174
def N58:FnK tab:=⟨[.val (.named .TMul) (.no)],TMul,fun a:TMul×Unit=>F_mul_Step a.1,fun r:TMul=>(.val (.named .TMul) r (.no),[.undef])⟩
def g59:=gx ⟨[0,1,2,3,10,11,12],[],[true,true],[(7,[(1,.any),(10,.any),(11,.any)]),(8,[(1,.any)]),(9,[(1,.any),(10,.any),(11,.any)])]⟩ Tryz.f140
def K59_7:MarkK tab:=⟨[(1,.box (.named .TMul) (.no)),(10,.val (.int .i64) (.no)),(11,.val (.int .i64) (.no))],[((.exit 0),[(1,.box (.named .TMul) (.no))])],L_mul_Run_7⟩
def N59:FnK tab:=⟨[.val (.named .TMul) (.no)],W .u32×W .u32,fun a:TMul×Unit=>F_mul_Run a.1,fun r:W .u32×W .u32=>(.tup [.val (.int .u32) r.1 (.no),.val (.int .u32) r.2 (.no)],[.undef])⟩
def t59:Tt:=tbl [(174,N58)]
def q59:Qt:=mtbl [(7,K59_7)]
def g60:=gx ⟨[0,1,4,7],[],[true],[]⟩ Tryz.f142
def N60:FnK tab:=⟨[.val (.int .u32) (.no),.val (.int .u32) (.no)],W .u32,fun a:W .u32×W .u32×Unit=>F_mul_less a.1 a.2.1,fun r:W .u32=>(.val (.int .u32) r (.no),[.undef,.undef])⟩
def g61:=gx ⟨[0,1,2,6,7,8,9,17,18,21,24],[],[true,true],[]⟩ Tryz.f100
def N61:FnK tab:=⟨[.val (.int .i64) (.no),.val (.int .u32) (.no),.val (.int .u32) (.no)],W .u32×Bool,fun a:W .i64×W .u32×W .u32×Unit=>F_mul_Do a.1 a.2.1 a.2.2.1,fun r:W .u32×Bool=>(.tup [.val (.int .u32) r.1 (.no),.val (.bool) r.2 (.no)],[.undef,.undef,.undef])⟩
def t61:Tt:=tbl [(140,N59),(141,N57),(142,N60)]
def g62:=gx ⟨[0,1,4],[],[true],[]⟩ Tryz.f144
def N62:FnK tab:=⟨[.val (.int .u32) (.no),.val (.int .u32) (.no)],TDiv,fun a:W .u32×W .u32×Unit=>F_div_New a.1 a.2.1,fun r:TDiv=>(.val (.named .TDiv) r (.no),[.undef,.undef])⟩
def g63:=gx ⟨[0,2],[],[true],[]⟩ Tryz.f175
def N63:FnK tab:=⟨[.val (.int .i64) (.no)],W .i64,fun a:W .i64×Unit=>F_div_left a.1,fun r:W .i64=>(.val (.int .i64) r (.no),[.undef])⟩
def g64:=gx ⟨[0,1,2,3,10,37],[],[true],[]⟩ Tryz.f176
def N64:FnK tab:=⟨[.val (.named .TDiv) (.no)],TDiv,fun a:TDiv×Unit=>F_div_Step a.1,fun r:TDiv=>(.val (.named .TDiv) r (.no),[.undef])⟩
def t64:Tt:=tbl [(175,N63)]
def g65:=gx ⟨[0,1,2,3,6,7,8],[],[true,true],[(5,[(1,.any),(6,.any),(7,.any)]),(6,[(1,.any)]),(7,[(1,.any),(6,.any),(7,.any)])]⟩ Tryz.f143
def K65_5:MarkK tab:=⟨[(1,.box (.named .TDiv) (.no)),(6,.val (.int .i64) (.no)),(7,.val (.int .i64) (.no))],[((.exit 0),[(1,.box (.named .TDiv) (.no))])],L_div_Run_5⟩
def N65:FnK tab:=⟨[.val (.named .TDiv) (.no)],W .u32×W .u32,fun a:TDiv×Unit=>F_div_Run a.1,fun r:W .u32×W .u32=>(.tup [.val (.int .u32) r.1 (.no),.val (.int .u32) r.2 (.no)],[.undef])⟩
def t65:Tt:=tbl [(175,N63),(176,N64)]
def q65:Qt:=mtbl [(5,K65_5)]
def g66:=gx ⟨[0,2,5],[],[true],[]⟩ Tryz.f145
def N66:FnK tab:=⟨[.val (.int .u32) (.no)],W .u32,fun a:W .u32×Unit=>F_div_away a.1,fun r:W .u32=>(.val (.int .u32) r (.no),[.undef])⟩
def g67:=gx ⟨[0,1,2,6,7,8,11,12,13,14,15,25,35,48,58,63,67],[],[true,true],[]⟩ Tryz.f101
def N67:FnK tab:=⟨[.val (.int .i64) (.no),.val (.int .u32) (.no),.val (.int .u32) (.no)],W .u32×Bool,fun a:W .i64×W .u32×W .u32×Unit=>F_div_Do a.1 a.2.1 a.2.2.1,fun r:W .u32×Bool=>(.tup [.val (.int .u32) r.1 (.no),.val (.bool) r.2 (.no)],[.undef,.undef,.undef])⟩
def t67:Tt:=tbl [(143,N65),(144,N62),(145,N66)]
def g68:=gx ⟨[0,1,2,6,8],[],[true],[]⟩ Tryz.f102
def N68:FnK tab:=⟨[.val (.int .u32) (.no),.val (.int .u32) (.no),.val (.int .u32) (.no)],W .u32,fun a:W .u32×W .u32×W .u32×Unit=>F_alu_Cmov a.1 a.2.1 a.2.2.1,fun r:W .u32=>(.val (.int .u32) r (.no),[.undef,.undef,.undef])⟩
def g69:=gx ⟨[0,1,2,7],[0],[],[]⟩ Tryz.f103
def N69:FnK tab:=⟨[.box (.named .TWork) (.no),.val (.int .i64) (.no),.val (.int .u32) (.no)],TWork,fun a:TWork×W .i64×W .u32×Unit=>F_step_work_put a.1 a.2.1 a.2.2.1,fun r:TWork=>(.tup [],[.box 0 (.named .TWork) r (.no),.undef,.undef])⟩
def g70:=gx ⟨[0,1,2,3,5,8,9,17,30,40,55],[0],[],[(3,[(0,.any),(2,.any),(3,.any),(5,.any),(17,.any)]),(4,[(0,.any),(2,.any),(3,.any),(5,.any)]),(5,[(0,.any),(2,.any),(3,.any),(5,.any)]),(6,[(0,.any)]),(11,[(0,.any),(2,.any),(3,.any),(5,.any),(8,.any),(9,.any)]),(12,[(0,.any)]),(15,[(0,.any),(2,.any),(3,.any),(5,.any),(8,.any),(9,.any)]),(16,[(0,.any)]),(17,[(0,.any),(2,.any),(3,.any),(5,.any),(8,.any),(55,.any)]),(18,[(0,.any),(5,.any),(8,.any)]),(19,[(0,.any),(5,.any),(8,.any)]),(20,[(0,.any)])]⟩ Tryz.f68
def K70_3:MarkK tab:=⟨[(0,.box (.named .TWork) (.no)),(2,.val (.int .u32) (.no)),(3,.val (.int .u32) (.no)),(5,.box (.named .TInst) (.no)),(17,.val (.bool) (.no))],[(.normal,[(0,.box (.named .TWork) (.no)),(2,.val (.int .u32) (.no)),(3,.val (.int .u32) (.no)),(5,.box (.named .TInst) (.no))])],L_step_work_reckon_3⟩
def K70_17:MarkK tab:=⟨[(0,.box (.named .TWork) (.no)),(2,.val (.int .u32) (.no)),(3,.val (.int .u32) (.no)),(5,.box (.named .TInst) (.no)),(8,.val (.int .u32) (.no)),(55,.val (.bool) (.no))],[(.normal,[(0,.box (.named .TWork) (.no)),(5,.box (.named .TInst) (.no)),(8,.val (.int .u32) (.no))])],L_step_work_reckon_17⟩
def K70_19:MarkK tab:=⟨[(0,.box (.named .TWork) (.no)),(5,.box (.named .TInst) (.no)),(8,.val (.int .u32) (.no))],[(.normal,[(0,.box (.named .TWork) (.no))])],L_step_work_reckon_19⟩
def K70_15:MarkK tab:=⟨[(0,.box (.named .TWork) (.no)),(2,.val (.int .u32) (.no)),(3,.val (.int .u32) (.no)),(5,.box (.named .TInst) (.no)),(8,.val (.int .u32) (.no)),(9,.val (.bool) (.no))],[(.normal,[(0,.box (.named .TWork) (.no))])],L_step_work_reckon_15⟩
def K70_11:MarkK tab:=⟨[(0,.box (.named .TWork) (.no)),(2,.val (.int .u32) (.no)),(3,.val (.int .u32) (.no)),(5,.box (.named .TInst) (.no)),(8,.val (.int .u32) (.no)),(9,.val (.bool) (.no))],[(.normal,[(0,.box (.named .TWork) (.no))])],L_step_work_reckon_11⟩
def K70_5:MarkK tab:=⟨[(0,.box (.named .TWork) (.no)),(2,.val (.int .u32) (.no)),(3,.val (.int .u32) (.no)),(5,.box (.named .TInst) (.no))],[(.normal,[(0,.box (.named .TWork) (.no))])],L_step_work_reckon_5⟩
def N70:FnK tab:=⟨[.box (.named .TWork) (.no),.val (.named .TInst) (.no),.val (.int .u32) (.no),.val (.int .u32) (.no)],TWork,fun a:TWork×TInst×W .u32×W .u32×Unit=>F_step_work_reckon a.1 a.2.1 a.2.2.1 a.2.2.2.1,fun r:TWork=>(.tup [],[.box 0 (.named .TWork) r (.no),.undef,.undef,.undef])⟩
def t70:Tt:=tbl [(99,N56),(100,N61),(101,N67),(102,N68),(103,N69)]
def q70:Qt:=mtbl [(3,K70_3),(17,K70_17),(19,K70_19),(15,K70_15),(11,K70_11),(5,K70_5)]
def g71:=gx ⟨[0,2,3,4,8],[],[true],[]⟩ Tryz.f104
def N71:FnK tab:=⟨[.val (.int .i64) (.no)],W .i64,fun a:W .i64×Unit=>F_step_sizeOf a.1,fun r:W .i64=>(.val (.int .i64) r (.no),[.undef])⟩
def g72:=gx ⟨[0,1,2],[0],[],[]⟩ Tryz.f105
def N72:FnK tab:=⟨[.box (.named .TWork) (.no),.val (.int .i64) (.no),.val (.int .u32) (.no)],TWork,fun a:TWork×W .i64×W .u32×Unit=>F_step_work_fails a.1 a.2.1 a.2.2.1,fun r:TWork=>(.tup [],[.box 0 (.named .TWork) r (.no),.undef,.undef])⟩
def g73:=gx ⟨[0,1,2,4,6,7,8,9,10,22,40,57,58,65,76],[0],[],[]⟩ Tryz.f69
def N73:FnK tab:=⟨[.box (.named .TWork) (.no),.val (.named .TInst) (.no),.val (.int .u32) (.no)],TWork,fun a:TWork×TInst×W .u32×Unit=>F_step_work_loads a.1 a.2.1 a.2.2.1,fun r:TWork=>(.tup [],[.box 0 (.named .TWork) r (.no),.undef,.undef])⟩
def t73:Tt:=tbl [(62,N33),(63,N24),(95,N39),(103,N69),(104,N71),(105,N72)]
def N74:FnK tab:=cloneK 1 (.int .u8)
def g75:=gx ⟨[0,1,4,5,6,11,12,13],[],[true],[(7,[(0,.any),(5,.any),(11,.any),(12,.any)]),(8,[(5,.any)]),(9,[(0,.any),(5,.any),(11,.any),(12,.any)])]⟩ Tryz.f178
def K75_7:MarkK tab:=⟨[(0,.val (.int .u32) (.no)),(5,.val (.slice 1 (.int .u8)) (.yes 0)),(11,.val (.int .i64) (.no)),(12,.val (.int .i64) (.no))],[((.exit 0),[(5,.val (.slice 1 (.int .u8)) (.yes 0))])],L_bits_Bytes_7⟩
def N75:FnK tab:=⟨[.val (.int .u32) (.no),.val (.int .i64) (.no)],Sl 1 (W .u8),fun a:W .u32×W .i64×Unit=>F_bits_Bytes a.1 a.2.1,fun r:Sl 1 (W .u8)=>(.val (.slice 1 (.int .u8)) r (.no),[.undef,.undef])⟩
def t75:Tt:=tbl [(134,N17)]
def q75:Qt:=mtbl [(7,K75_7)]
def g76:=gx ⟨[0,1,2,3,8,9,10,11,17],[],[true,true],[]⟩ Tryz.f146
def N76:FnK tab:=⟨[.val (.slice 1 (.int .u8)) (.no),.val (.int .u32) (.no),.val (.int .i64) (.no),.val (.int .u32) (.no)],Sl 1 (W .u8)×W .i64,fun a:Sl 1 (W .u8)×W .u32×W .i64×W .u32×Unit=>F_mem_Write a.1 a.2.1 a.2.2.1 a.2.2.2.1,fun r:Sl 1 (W .u8)×W .i64=>(.tup [.val (.slice 1 (.int .u8)) r.1 (.no),.val (.int .i64) r.2 (.no)],[.undef,.undef,.undef,.undef])⟩
def t76:Tt:=tbl [(90,N22),(177,N74),(178,N75)]
def g77:=gx ⟨[0,1,2,3,8,9,23],[0],[],[]⟩ Tryz.f106
def N77:FnK tab:=⟨[.box (.named .TWork) (.no),.val (.int .u32) (.no),.val (.int .i64) (.no),.val (.int .u32) (.no)],TWork,fun a:TWork×W .u32×W .i64×W .u32×Unit=>F_step_work_stores a.1 a.2.1 a.2.2.1 a.2.2.2.1,fun r:TWork=>(.tup [],[.box 0 (.named .TWork) r (.no),.undef,.undef,.undef])⟩
def t77:Tt:=tbl [(94,N37),(146,N76)]
def g78:=gx ⟨[0,1,2,3,5,8,9,10,11,36],[0],[],[]⟩ Tryz.f70
def N78:FnK tab:=⟨[.box (.named .TWork) (.no),.val (.named .TInst) (.no),.val (.int .u32) (.no),.val (.int .u32) (.no)],TWork,fun a:TWork×TInst×W .u32×W .u32×Unit=>F_step_work_keeps a.1 a.2.1 a.2.2.1 a.2.2.2.1,fun r:TWork=>(.tup [],[.box 0 (.named .TWork) r (.no),.undef,.undef,.undef])⟩
def t78:Tt:=tbl [(62,N33),(104,N71),(105,N72),(106,N77)]
def g79:=gx ⟨[0,1,2,6,7,8,13,18,25,32,37],[],[true],[]⟩ Tryz.f107
def N79:FnK tab:=⟨[.val (.int .i64) (.no),.val (.int .u32) (.no),.val (.int .u32) (.no)],Bool,fun a:W .i64×W .u32×W .u32×Unit=>F_alu_Taken a.1 a.2.1 a.2.2.1,fun r:Bool=>(.val (.bool) r (.no),[.undef,.undef,.undef])⟩
def g80:=gx ⟨[0,1,2,3,5,8,9,27,32,37,48],[0],[],[]⟩ Tryz.f71
def N80:FnK tab:=⟨[.box (.named .TWork) (.no),.val (.named .TInst) (.no),.val (.int .u32) (.no),.val (.int .u32) (.no)],TWork,fun a:TWork×TInst×W .u32×W .u32×Unit=>F_step_work_goes a.1 a.2.1 a.2.2.1 a.2.2.2.1,fun r:TWork=>(.tup [],[.box 0 (.named .TWork) r (.no),.undef,.undef,.undef])⟩
def t80:Tt:=tbl [(103,N69),(107,N79)]
def g81:=gx ⟨[0,1,2,3,5,8,9,10,27,42,52],[0],[],[]⟩ Tryz.f72
def N81:FnK tab:=⟨[.box (.named .TWork) (.no),.val (.named .TInst) (.no),.val (.int .u32) (.no),.val (.int .u32) (.no)],TWork,fun a:TWork×TInst×W .u32×W .u32×Unit=>F_step_work_atOnce a.1 a.2.1 a.2.2.1 a.2.2.2.1,fun r:TWork=>(.tup [],[.box 0 (.named .TWork) r (.no),.undef,.undef,.undef])⟩
def t81:Tt:=tbl [(62,N33),(63,N24),(103,N69),(105,N72),(106,N77)]
def g82:=gx ⟨[0,1,2,3,4,7],[],[true,true],[]⟩ Tryz.f108
def N82:FnK tab:=⟨[.val (.named .TArch) (.no)],TArch×W .i64,fun a:TArch×Unit=>F_trap_Return a.1,fun r:TArch×W .i64=>(.tup [.val (.named .TArch) r.1 (.no),.val (.int .i64) r.2 (.no)],[.undef])⟩
def t82:Tt:=tbl [(44,N6),(75,N10)]
def g83:=gx ⟨[0,1,2,3,6,13,19],[],[true],[]⟩ Tryz.f147
def N83:FnK tab:=⟨[.val (.named .TArch) (.no),.val (.int .i64) (.no),.val (.bool) (.no)],W .i64,fun a:TArch×W .i64×Bool×Unit=>F_csr_may a.1 a.2.1 a.2.2.1,fun r:W .i64=>(.val (.int .i64) r (.no),[.undef,.undef,.undef])⟩
def t83:Tt:=tbl [(44,N6)]
def g84:=gx ⟨[0,1,2,4,5,6,13],[],[true,true],[]⟩ Tryz.f109
def N84:FnK tab:=⟨[.val (.named .TArch) (.no),.val (.int .i64) (.no)],W .u32×W .i64,fun a:TArch×W .i64×Unit=>F_csr_Read a.1 a.2.1,fun r:W .u32×W .i64=>(.tup [.val (.int .u32) r.1 (.no),.val (.int .i64) r.2 (.no)],[.undef,.undef])⟩
def t84:Tt:=tbl [(147,N83)]
def g85:=gx ⟨[0,1,2,3,6,7,8,13],[],[true,true],[]⟩ Tryz.f110
def N85:FnK tab:=⟨[.val (.named .TArch) (.no),.val (.int .i64) (.no),.val (.int .u32) (.no)],TArch×W .i64,fun a:TArch×W .i64×W .u32×Unit=>F_csr_Write a.1 a.2.1 a.2.2.1,fun r:TArch×W .i64=>(.tup [.val (.named .TArch) r.1 (.no),.val (.int .i64) r.2 (.no)],[.undef,.undef,.undef])⟩
def t85:Tt:=tbl [(74,N9),(147,N83)]
def g86:=gx ⟨[0,1,2,4,6,7,8,9,10,11,13,14,18,30,49,63,77,92,106,118,150,157],[0],[],[(0,[(0,.fz)])]⟩ Tryz.f73
def N86:FnK tab:=⟨[.box (.named .TWork) (.no),.val (.named .TInst) (.no),.val (.int .u32) (.no)],TWork,fun a:TWork×TInst×W .u32×Unit=>F_step_work_system a.1 a.2.1 a.2.2.1,fun r:TWork=>(.tup [],[.box 0 (.named .TWork) r (.no),.undef,.undef])⟩
def t86:Tt:=tbl [(103,N69),(105,N72),(108,N82),(109,N84),(110,N85)]
def g87:=gx ⟨[0,1,2,3,5,6,7,8,9,10,36,44,51,59,67],[],[true],[]⟩ Tryz.f45
def N87:FnK tab:=⟨[.val (.named .TMach) (.no),.val (.int .u32) (.no),.val (.named .TInst) (.no)],TWork,fun a:TMach×W .u32×TInst×Unit=>F_step_does a.1 a.2.1 a.2.2.1,fun r:TWork=>(.val (.named .TWork) r (.no),[.undef,.undef,.undef])⟩
def t87:Tt:=tbl [(68,N70),(69,N73),(70,N78),(71,N80),(72,N81),(73,N86)]
def g88:=gx ⟨[0,1,2,3,21],[],[true],[]⟩ Tryz.f46
def N88:FnK tab:=⟨[.val (.named .TArch) (.no)],TArch,fun a:TArch×Unit=>F_csr_Count a.1,fun r:TArch=>(.val (.named .TArch) r (.no),[.undef])⟩
def g89:=gx ⟨[0,1,2],[],[true],[]⟩ Tryz.f47
def N89:FnK tab:=⟨[.val (.named .TArch) (.no)],Bool,fun a:TArch×Unit=>F_trap_Single a.1,fun r:Bool=>(.val (.bool) r (.no),[.undef])⟩
def t89:Tt:=tbl [(44,N6)]
def g90:=gx ⟨[0,1,2,3,4,5,6,7,8,9,10,13,20,32,47,63,79,93,124],[],[true,true,true],[]⟩ Tryz.f22
def N90:FnK tab:=⟨[.val (.named .TMach) (.no)],TMach×TEvent×Bool,fun a:TMach×Unit=>F_step_Step a.1,fun r:TMach×TEvent×Bool=>(.tup [.val (.named .TMach) r.1 (.no),.val (.named .TEvent) r.2.1 (.no),.val (.bool) r.2.2 (.no)],[.undef])⟩
def t90:Tt:=tbl [(38,N8),(39,N12),(40,N13),(41,N34),(42,N45),(43,N46),(44,N6),(45,N87),(46,N88),(47,N89),(48,N11)]
def g91:=gx ⟨[0,1,2,3,6,7,8,9,11,12,13,14,17,18,19,21,22,23,24,30,45],[],[true,true],[(7,[(1,.any),(3,.any),(6,.any),(8,.own),(17,.any),(18,.any)]),(8,[(3,.any),(6,.any),(8,.any)]),(9,[(1,.any),(3,.any),(6,.any),(8,.own),(17,.any),(18,.any)]),(18,[(1,.any),(3,.any),(6,.any),(8,.any),(9,.any),(17,.any),(18,.any),(21,.any),(22,.any),(23,.any)]),(19,[(1,.any),(3,.any),(6,.any),(8,.any),(17,.any),(18,.any)]),(20,[(1,.any),(3,.any),(6,.any),(8,.any),(9,.any),(17,.any),(18,.any),(21,.any),(22,.any),(23,.any)])]⟩ Tryz.f10
def K91_18:MarkK tab:=⟨[(1,.val (.slice 16 (.named .TIrq)) (.no)),(3,.box (.named .TMach) (.no)),(6,.box (.named .TMach) (.st [.no,.yes 0,.yes 0,.yes 0])),(8,.val (.slice 72 (.named .TEvent)) (.yes 0)),(9,.val (.int .i64) (.no)),(17,.val (.int .i64) (.no)),(18,.val (.int .i64) (.no)),(21,.val (.slice 16 (.named .TIrq)) (.no)),(22,.val (.int .i64) (.no)),(23,.val (.int .i64) (.no))],[((.exit 2),[(1,.val (.slice 16 (.named .TIrq)) (.no)),(3,.box (.named .TMach) (.no)),(6,.box (.named .TMach) (.st [.no,.yes 0,.yes 0,.yes 0])),(8,.val (.slice 72 (.named .TEvent)) (.yes 0)),(17,.val (.int .i64) (.no)),(18,.val (.int .i64) (.no))])],L_run_Run_18⟩
def K91_7:MarkK tab:=⟨[(1,.val (.slice 16 (.named .TIrq)) (.no)),(3,.box (.named .TMach) (.no)),(6,.box (.named .TMach) (.st [.no,.yes 0,.yes 0,.yes 0])),(8,.val (.slice 72 (.named .TEvent)) (.yes 0)),(17,.val (.int .i64) (.no)),(18,.val (.int .i64) (.no))],[((.exit 0),[(3,.box (.named .TMach) (.no)),(6,.box (.named .TMach) (.st [.no,.yes 0,.yes 0,.yes 0])),(8,.val (.slice 72 (.named .TEvent)) (.yes 0))])],L_run_Run_7⟩
def N91:FnK tab:=⟨[.val (.named .TMach) (.no),.val (.slice 16 (.named .TIrq)) (.no),.val (.int .i64) (.no)],TMach×Sl 72 (TEvent),fun a:TMach×Sl 16 (TIrq)×W .i64×Unit=>F_run_Run a.1 a.2.1 a.2.2.1,fun r:TMach×Sl 72 (TEvent)=>(.tup [.val (.named .TMach) r.1 (.no),.val (.slice 72 (.named .TEvent)) r.2 (.no)],[.undef,.undef,.undef])⟩
def t91:Tt:=tbl [(21,N5),(22,N90)]
def q91:Qt:=mtbl [(18,K91_18),(7,K91_7)]
def g92:=gx ⟨[0,2,3,4,5,6],[],[true],[(7,[(0,.any),(3,.any),(5,.any)]),(8,[(3,.any)]),(9,[(0,.any),(3,.any),(5,.any)])]⟩ Tryz.f27
def K92_7:MarkK tab:=⟨[(0,.val (.int .u32) (.no)),(3,.box (.arr 8 (.int .u8)) (.no)),(5,.val (.int .i64) (.no))],[((.exit 0),[(3,.box (.arr 8 (.int .u8)) (.no))])],L_num_Hex_7⟩
def N92:FnK tab:=⟨[.val (.int .u32) (.no)],Str,fun a:W .u32×Unit=>F_num_Hex a.1,fun r:Str=>(.val (.str) r (.no),[.undef])⟩
def q92:Qt:=mtbl [(7,K92_7)]
def g93:=gx ⟨[0,2,3,4,5,9,13,28],[],[true],[(13,[(0,.any),(3,.any),(4,.any),(5,.any)]),(14,[(0,.any),(3,.any),(4,.any),(5,.any)]),(15,[(0,.any),(3,.any),(4,.any),(5,.any)])]⟩ Tryz.f29
def K93_13:MarkK tab:=⟨[(0,.val (.int .i64) (.no)),(3,.box (.arr 20 (.int .u8)) (.no)),(4,.val (.int .u64) (.no)),(5,.val (.int .i64) (.no))],[((.exit 0),[(0,.val (.int .i64) (.no)),(3,.box (.arr 20 (.int .u8)) (.no)),(4,.val (.int .u64) (.no)),(5,.val (.int .i64) (.no))])],L_num_Dec_13⟩
def N93:FnK tab:=⟨[.val (.int .i64) (.no)],Str,fun a:W .i64×Unit=>F_num_Dec a.1,fun r:Str=>(.val (.str) r (.no),[.undef])⟩
def q93:Qt:=mtbl [(13,K93_13)]
def g94:=gx ⟨[0,1,4,6],[],[true],[]⟩ Tryz.f28
def N94:FnK tab:=⟨[.val (.int .i64) (.no),.val (.int .u32) (.no)],Str,fun a:W .i64×W .u32×Unit=>F_run_register a.1 a.2.1,fun r:Str=>(.val (.str) r (.no),[.undef,.undef])⟩
def t94:Tt:=tbl [(27,N92),(29,N93)]
def g95:=gx ⟨[0,2,3,5,15,18,21],[],[true],[]⟩ Tryz.f30
def N95:FnK tab:=⟨[.val (.int .i64) (.no)],Str,fun a:W .i64×Unit=>F_text_Cause a.1,fun r:Str=>(.val (.str) r (.no),[.undef])⟩
def g96:=gx ⟨[0,1,2,3,4,27,46,55,60],[],[true],[]⟩ Tryz.f14
def N96:FnK tab:=⟨[.val (.named .TEvent) (.no)],Str,fun a:TEvent×Unit=>F_run_Line a.1,fun r:Str=>(.val (.str) r (.no),[.undef])⟩
def t96:Tt:=tbl [(27,N92),(28,N94),(29,N93),(30,N95)]
def g97:=gx ⟨[0,1,2,3,4],[],[true],[]⟩ Tryz.f16
def N97:FnK tab:=⟨[.val (.named .TEvent) (.no),.val (.named .TEvent) (.no)],Bool,fun a:TEvent×TEvent×Unit=>F_run_Same a.1 a.2.1,fun r:Bool=>(.val (.bool) r (.no),[.undef,.undef])⟩
def g98:=gx ⟨[0,1,4,5,10,11,12,35],[],[true],[(5,[(0,.any),(1,.any),(10,.any),(11,.any)]),(6,[(4,.any)]),(7,[(0,.any),(1,.any),(10,.any),(11,.any)])]⟩ Tryz.f17
def K98_5:MarkK tab:=⟨[(0,.val (.slice 72 (.named .TEvent)) (.no)),(1,.val (.slice 72 (.named .TEvent)) (.no)),(10,.val (.int .i64) (.no)),(11,.val (.int .i64) (.no))],[(.ret,[(4,.val (.int .i64) (.no))]),((.exit 0),[(4,.undef)])],L_run_First_5⟩
def N98:FnK tab:=⟨[.val (.slice 72 (.named .TEvent)) (.no),.val (.slice 72 (.named .TEvent)) (.no)],W .i64,fun a:Sl 72 (TEvent)×Sl 72 (TEvent)×Unit=>F_run_First a.1 a.2.1,fun r:W .i64=>(.val (.int .i64) r (.no),[.undef,.undef])⟩
def t98:Tt:=tbl [(16,N97)]
def q98:Qt:=mtbl [(5,K98_5)]
def g99:=gx ⟨[0,1,2,10],[2],[],[]⟩ Tryz.f35
def N99:FnK tab:=⟨[.val (.int .i64) (.no),.val (.int .u32) (.no),.box (.named .TArch) (.no)],TArch,fun a:W .i64×W .u32×TArch×Unit=>F_run_Replay_1 a.1 a.2.1 a.2.2.1,fun r:TArch=>(.tup [],[.undef,.undef,.box 0 (.named .TArch) r (.no)])⟩
def g100:=gx ⟨[0,1,2,4,5,7,9,10,11,12],[],[true],[(7,[(2,.any),(4,.any),(5,.any),(9,.any),(10,.any),(11,.any)]),(8,[(2,.any),(4,.any)]),(9,[(2,.any),(4,.any),(5,.any),(9,.any),(10,.any),(11,.any)])]⟩ Tryz.f19
def K100_7:MarkK tab:=⟨[(2,.box (.named .TArch) (.no)),(4,.box (.named .TArch) (.no)),(5,.fn 35 [] [.ptr 2 []]),(9,.val (.slice 72 (.named .TEvent)) (.no)),(10,.val (.int .i64) (.no)),(11,.val (.int .i64) (.no))],[((.exit 0),[(2,.box (.named .TArch) (.no)),(4,.box (.named .TArch) (.no))])],L_run_Replay_7⟩
def N100:FnK tab:=⟨[.val (.named .TArch) (.no),.val (.slice 72 (.named .TEvent)) (.no)],TArch,fun a:TArch×Sl 72 (TEvent)×Unit=>F_run_Replay a.1 a.2.1,fun r:TArch=>(.val (.named .TArch) r (.no),[.undef,.undef])⟩
def t100:Tt:=tbl [(35,N99)]
def q100:Qt:=mtbl [(7,K100_7)]
def g101:=gx ⟨[0,1,2,3],[],[true],[]⟩ Tryz.f9
def N101:FnK tab:=⟨[],Bool,fun a:Unit=>F_law16_awake,fun r:Bool=>(.val (.bool) r (.no),[])⟩
def t101:Tt:=tbl [(10,N91),(14,N96),(17,N98),(19,N100)]
def g102:=gx ⟨[0,2],[],[true],[]⟩ Tryz.f8
def N102:FnK tab:=⟨[.val (.slice 16 (.named .TIrq)) (.no)],Bool,fun a:Sl 16 (TIrq)×Unit=>F_law16_few a.1,fun r:Bool=>(.val (.bool) r (.no),[.undef])⟩
def g103:=gx ⟨[0,1,4,5,10,20,31],[],[true],[(11,[(0,.any),(1,.any),(5,.any)]),(12,[(4,.any)]),(13,[(0,.any),(1,.any),(5,.any)])]⟩ Tryz.f25
def K103_11:MarkK tab:=⟨[(0,.val (.slice 1 (.int .u8)) (.no)),(1,.val (.slice 1 (.int .u8)) (.no)),(5,.val (.int .i64) (.no))],[(.ret,[(4,.val (.bool) (.no))]),((.exit 0),[(4,.undef)])],L_same_Bytes_11⟩
def N103:FnK tab:=⟨[.val (.slice 1 (.int .u8)) (.no),.val (.slice 1 (.int .u8)) (.no)],Bool,fun a:Sl 1 (W .u8)×Sl 1 (W .u8)×Unit=>F_same_Bytes a.1 a.2.1,fun r:Bool=>(.val (.bool) r (.no),[.undef,.undef])⟩
def q103:Qt:=mtbl [(11,K103_11)]
def g104:=gx ⟨[0,1,4,5,10,20,31],[],[true],[(11,[(0,.any),(1,.any),(5,.any)]),(12,[(4,.any)]),(13,[(0,.any),(1,.any),(5,.any)])]⟩ Tryz.f26
def K104_11:MarkK tab:=⟨[(0,.val (.slice 4 (.int .u32)) (.no)),(1,.val (.slice 4 (.int .u32)) (.no)),(5,.val (.int .i64) (.no))],[(.ret,[(4,.val (.bool) (.no))]),((.exit 0),[(4,.undef)])],L_same_Words_11⟩
def N104:FnK tab:=⟨[.val (.slice 4 (.int .u32)) (.no),.val (.slice 4 (.int .u32)) (.no)],Bool,fun a:Sl 4 (W .u32)×Sl 4 (W .u32)×Unit=>F_same_Words a.1 a.2.1,fun r:Bool=>(.val (.bool) r (.no),[.undef,.undef])⟩
def q104:Qt:=mtbl [(11,K104_11)]
def g105:=gx ⟨[0,1,2,3,4],[],[true],[]⟩ Tryz.f12
def N105:FnK tab:=⟨[.val (.named .TMach) (.no),.val (.named .TMach) (.no)],Bool,fun a:TMach×TMach×Unit=>F_same_Mach a.1 a.2.1,fun r:Bool=>(.val (.bool) r (.no),[.undef,.undef])⟩
def t105:Tt:=tbl [(25,N103),(26,N104)]
def g106:=gx ⟨[0,1,4,5,10,20,31],[],[true],[(11,[(0,.any),(1,.any),(5,.any)]),(12,[(4,.any)]),(13,[(0,.any),(1,.any),(5,.any)])]⟩ Tryz.f13
def K106_11:MarkK tab:=⟨[(0,.val (.slice 72 (.named .TEvent)) (.no)),(1,.val (.slice 72 (.named .TEvent)) (.no)),(5,.val (.int .i64) (.no))],[(.ret,[(4,.val (.bool) (.no))]),((.exit 0),[(4,.undef)])],L_same_Events_11⟩
def N106:FnK tab:=⟨[.val (.slice 72 (.named .TEvent)) (.no),.val (.slice 72 (.named .TEvent)) (.no)],Bool,fun a:Sl 72 (TEvent)×Sl 72 (TEvent)×Unit=>F_same_Events a.1 a.2.1,fun r:Bool=>(.val (.bool) r (.no),[.undef,.undef])⟩
def q106:Qt:=mtbl [(11,K106_11)]
def g107:=gx ⟨[0,1,2,3,5,6,7,8,9,10,11,12,13,14,15,16,24,53,68,77],[],[true],[(25,[(1,.any),(7,.any),(8,.any),(9,.any),(10,.any),(11,.any),(12,.any),(13,.own),(14,.any)]),(26,[(8,.any),(9,.any),(10,.any),(11,.any),(12,.any),(13,.any)]),(27,[(1,.any),(7,.any),(8,.any),(9,.any),(10,.any),(11,.any),(12,.any),(13,.own),(14,.any)])]⟩ Tryz.f6
def K107_25:MarkK tab:=⟨[(1,.val (.slice 16 (.named .TIrq)) (.no)),(7,.val (.int .i64) (.no)),(8,.val (.int .i64) (.no)),(9,.box (.named .TMach) (.no)),(10,.val (.slice 72 (.named .TEvent)) (.no)),(11,.box (.named .TMach) (.no)),(12,.val (.slice 72 (.named .TEvent)) (.no)),(13,.val (.slice 16 (.named .TIrq)) (.yes 0)),(14,.val (.int .i64) (.no))],[((.exit 0),[(8,.val (.int .i64) (.no)),(9,.box (.named .TMach) (.no)),(10,.val (.slice 72 (.named .TEvent)) (.no)),(11,.box (.named .TMach) (.no)),(12,.val (.slice 72 (.named .TEvent)) (.no)),(13,.val (.slice 16 (.named .TIrq)) (.yes 0))])],L_law16_RunSplits_25⟩
def N107:FnK tab:=⟨[.val (.named .TMach) (.no),.val (.slice 16 (.named .TIrq)) (.no),.val (.arr 2 (.int .u8)) (.no)],Bool,fun a:TMach×Sl 16 (TIrq)×Arr 2 (W .u8)×Unit=>F_law16_RunSplits a.1 a.2.1 a.2.2.1,fun r:Bool=>(.val (.bool) r (.no),[.undef,.undef,.undef])⟩
def t107:Tt:=tbl [(7,N4),(8,N102),(9,N101),(10,N91),(12,N105),(13,N106)]
def q107:Qt:=mtbl [(25,K107_25)]
end
end Go.Proofs.YtedhidchlfhegaaGreatDoor
