/- YtiadkommiljbpaaGreatDoorTabs: the tables of functions and marks. No statement of the seat is proved here. -/
import Derived.Test.YtiadkommiljbpaaGreatDoorTrees
import Derived.Test.YtiadkommiljbpaaGreatDoorChecked
import Derived.Test.YtiadkommiljbpaaGreatDoorA2G
set_option linter.unusedSimpArgs false
set_option linter.unusedVariables false
set_option maxRecDepth 100000
namespace Go.Proofs.YtiadkommiljbpaaGreatDoor
open Go Go.A2
noncomputable section
abbrev Tt:=Nat→List (FnK tab)
abbrev Qt:=Nat→Option (MarkK tab)
def t0:Tt:=tbl []
def q0:Qt:=fun _=>none
def gx (x:FnX) (f:Func):AFn tab:=gOf Tryz.prog cx x f
abbrev OkN:=FnOk (X:=tab) Tryz.prog
abbrev Mo (t:Tt) (q:Qt) (g:AFn tab):=MarkOk (fnsC t) (markL q) g.keep fuel
def g1:=gx ⟨[0,2],[],[true],[]⟩ Tryz.f49
def N1:FnK tab:=⟨[.val (.slice 1 (.int .u8)) (.no)],Bool,fun a:Sl 1 (W .u8)×Unit=>F_ref10_Right a.1,fun r:Bool=>(.val (.bool) r (.no),[.undef])⟩
def g2:=gx ⟨[0,2,3,4,6,8,11,18],[],[true],[]⟩ Tryz.f50
def N2:FnK tab:=⟨[.val (.int .i64) (.no)],W .u32,fun a:W .i64×Unit=>F_ref11_Masked a.1,fun r:W .u32=>(.val (.int .u32) r (.no),[.undef])⟩
def g3:=gx ⟨[0,1,2,3,23,25,41],[],[true],[(11,[(1,.any),(3,.any)]),(12,[(2,.any)]),(13,[(1,.any),(3,.any)])]⟩ Tryz.f17
def K3_11:MarkK tab:=⟨[(1,.box (.named .TMach) (.no)),(3,.val (.int .i64) (.no))],[(.ret,[(2,.val (.bool) (.no))]),((.exit 0),[(2,.undef)])],L_ref15_Right_11⟩
def N3:FnK tab:=⟨[.val (.named .TMach) (.no)],Bool,fun a:TMach×Unit=>F_ref15_Right a.1,fun r:Bool=>(.val (.bool) r (.no),[.undef])⟩
def t3:Tt:=tbl [(49,N1),(50,N2)]
def q3:Qt:=mtbl [(11,K3_11)]
def g4:=gx ⟨[0,1,2],[],[true],[]⟩ Tryz.f6
def N4:FnK tab:=⟨[.val (.named .TMach) (.no)],Bool,fun a:TMach×Unit=>F_law15_Light a.1,fun r:Bool=>(.val (.bool) r (.no),[.undef])⟩
def t4:Tt:=tbl [(17,N3)]
def g5:=gx ⟨[0],[],[true],[]⟩ Tryz.f20
def N5:FnK tab:=⟨[],Sl 1 (W .u8),fun a:Unit=>F_law15_word,fun r:Sl 1 (W .u8)=>(.val (.slice 1 (.int .u8)) r (.no),[])⟩
def g6:=gx ⟨[0,1,2],[],[true],[]⟩ Tryz.f82
def N6:FnK tab:=⟨[.val (.named .TSeg) (.no)],W .i64,fun a:TSeg×Unit=>F_rom_end a.1,fun r:W .i64=>(.val (.int .i64) r (.no),[.undef])⟩
def g7:=gx ⟨[0,1,2,3,5,9,11,12,13,14,17,22,26],[],[true],[(13,[(3,.any),(11,.any),(12,.any),(13,.any)]),(14,[(2,.any)]),(15,[(3,.any),(11,.any),(12,.any),(13,.any)])]⟩ Tryz.f81
def K7_13:MarkK tab:=⟨[(3,.val (.int .i64) (.no)),(11,.val (.slice 32 (.named .TSeg)) (.no)),(12,.val (.int .i64) (.no)),(13,.val (.int .i64) (.no))],[(.ret,[(2,.val (.int .i64) (.no))]),((.exit 0),[(2,.undef)])],L_rom_Right_13⟩
def N7:FnK tab:=⟨[.val (.named .TImage) (.no)],W .i64,fun a:TImage×Unit=>F_rom_Right a.1,fun r:W .i64=>(.val (.int .i64) r (.no),[.undef])⟩
def t7:Tt:=tbl [(82,N6)]
def q7:Qt:=mtbl [(13,K7_13)]
def g8:=gx ⟨[0,1,3,4,5,6,7,9,20,24,29,30,31,32,38],[],[true,true],[(21,[(0,.any),(7,.any),(29,.any),(30,.any),(31,.any)]),(22,[(4,.any),(5,.any),(7,.any)]),(23,[(0,.any),(7,.any),(29,.any),(30,.any),(31,.any)])]⟩ Tryz.f45
def K8_21:MarkK tab:=⟨[(0,.val (.int .i64) (.no)),(7,.val (.slice 1 (.int .u8)) (.yes 0)),(29,.val (.slice 32 (.named .TSeg)) (.no)),(30,.val (.int .i64) (.no)),(31,.val (.int .i64) (.no))],[(.ret,[(4,.val (.slice 1 (.int .u8)) (.full)),(5,.val (.int .i64) (.no)),(7,.val (.slice 1 (.int .u8)) (.yes 0))]),((.exit 0),[(4,.undef),(5,.undef),(7,.val (.slice 1 (.int .u8)) (.yes 0))])],L_rom_Load_21⟩
def N8:FnK tab:=⟨[.val (.int .i64) (.no),.val (.named .TImage) (.no)],Sl 1 (W .u8)×W .i64,fun a:W .i64×TImage×Unit=>F_rom_Load a.1 a.2.1,fun r:Sl 1 (W .u8)×W .i64=>(.tup [.val (.slice 1 (.int .u8)) r.1 (.no),.val (.int .i64) r.2 (.no)],[.undef,.undef])⟩
def t8:Tt:=tbl [(81,N7),(82,N6)]
def q8:Qt:=mtbl [(21,K8_21)]
def g9:=gx ⟨[0,1,2,4,5,6,7,8,16],[],[true,true],[]⟩ Tryz.f13
def N9:FnK tab:=⟨[.val (.named .TImage) (.no),.val (.int .i64) (.no)],TMach×W .i64,fun a:TImage×W .i64×Unit=>F_step_New a.1 a.2.1,fun r:TMach×W .i64=>(.tup [.val (.named .TMach) r.1 (.no),.val (.int .i64) r.2 (.no)],[.undef,.undef])⟩
def t9:Tt:=tbl [(45,N8)]
def g10:=gx ⟨[0,1,2],[],[true],[]⟩ Tryz.f26
def N10:FnK tab:=⟨[.val (.named .TArch) (.no)],Bool,fun a:TArch×Unit=>F_csr_Kernel a.1,fun r:Bool=>(.val (.bool) r (.no),[.undef])⟩
def g11:=gx ⟨[0],[],[true],[]⟩ Tryz.f51
def N11:FnK tab:=⟨[],Arr 3 (TSource),fun a:Unit=>F_trap_sources,fun r:Arr 3 (TSource)=>(.val (.arr 3 (.named .TSource)) r (.no),[])⟩
def g12:=gx ⟨[0,1,2,3,5,14,22,23,24,30],[],[true],[(13,[(3,.any),(22,.any),(23,.any)]),(14,[(2,.any)]),(15,[(3,.any),(22,.any),(23,.any)])]⟩ Tryz.f21
def K12_13:MarkK tab:=⟨[(3,.val (.int .u32) (.no)),(22,.val (.arr 3 (.named .TSource)) (.no)),(23,.val (.int .i64) (.no))],[(.ret,[(2,.val (.int .i64) (.no))]),((.exit 0),[(2,.undef)])],L_trap_Pending_13⟩
def N12:FnK tab:=⟨[.val (.named .TArch) (.no)],W .i64,fun a:TArch×Unit=>F_trap_Pending a.1,fun r:W .i64=>(.val (.int .i64) r (.no),[.undef])⟩
def t12:Tt:=tbl [(26,N10),(51,N11)]
def q12:Qt:=mtbl [(13,K12_13)]
def g13:=gx ⟨[0,2,3,10],[],[true],[]⟩ Tryz.f62
def N13:FnK tab:=⟨[.val (.int .i64) (.no)],W .u32,fun a:W .i64×Unit=>F_csr_Masked a.1,fun r:W .u32=>(.val (.int .u32) r (.no),[.undef])⟩
def g14:=gx ⟨[0,1,2,6,10],[],[true],[]⟩ Tryz.f63
def N14:FnK tab:=⟨[.val (.int .u32) (.no),.val (.int .u32) (.no),.val (.int .u32) (.no)],W .u32,fun a:W .u32×W .u32×W .u32×Unit=>F_trap_moved a.1 a.2.1 a.2.2.1,fun r:W .u32=>(.val (.int .u32) r (.no),[.undef,.undef,.undef])⟩
def g15:=gx ⟨[0,1,2,3,4,8,9],[],[true],[]⟩ Tryz.f30
def N15:FnK tab:=⟨[.val (.named .TArch) (.no),.val (.int .i64) (.no),.val (.int .u32) (.no),.val (.int .u32) (.no)],TArch,fun a:TArch×W .i64×W .u32×W .u32×Unit=>F_trap_Take a.1 a.2.1 a.2.2.1 a.2.2.2.1,fun r:TArch=>(.val (.named .TArch) r (.no),[.undef,.undef,.undef,.undef])⟩
def t15:Tt:=tbl [(62,N13),(63,N14)]
def g16:=gx ⟨[0,1,2,3,4,8,9,10,11],[],[true,true,true],[]⟩ Tryz.f22
def N16:FnK tab:=⟨[.val (.named .TMach) (.no),.val (.int .u32) (.no),.val (.int .i64) (.no),.val (.int .u32) (.no)],TMach×TEvent×Bool,fun a:TMach×W .u32×W .i64×W .u32×Unit=>F_step_traps a.1 a.2.1 a.2.2.1 a.2.2.2.1,fun r:TMach×TEvent×Bool=>(.tup [.val (.named .TMach) r.1 (.no),.val (.named .TEvent) r.2.1 (.no),.val (.bool) r.2.2 (.no)],[.undef,.undef,.undef,.undef])⟩
def t16:Tt:=tbl [(30,N15)]
def g17:=gx ⟨[0,1,2,4,5],[],[true],[]⟩ Tryz.f23
def N17:FnK tab:=⟨[.val (.named .TArch) (.no),.val (.int .u32) (.no)],Bool,fun a:TArch×W .u32×Unit=>F_trap_Stops a.1 a.2.1,fun r:Bool=>(.val (.bool) r (.no),[.undef,.undef])⟩
def t17:Tt:=tbl [(26,N10)]
def g18:=gx ⟨[0,1,4],[],[true],[]⟩ Tryz.f74
def N18:FnK tab:=⟨[.val (.int .u32) (.no),.val (.int .i64) (.no)],Bool,fun a:W .u32×W .i64×Unit=>F_bits_Aligned a.1 a.2.1,fun r:Bool=>(.val (.bool) r (.no),[.undef,.undef])⟩
def g19:=gx ⟨[0,1,2],[],[true],[]⟩ Tryz.f118
def N19:FnK tab:=⟨[.val (.named .TArch) (.no)],Bool,fun a:TArch×Unit=>F_walk_Paged a.1,fun r:Bool=>(.val (.bool) r (.no),[.undef])⟩
def t19:Tt:=tbl [(26,N10)]
def g20:=gx ⟨[0,2,3,4,6,8],[],[true],[]⟩ Tryz.f119
def N20:FnK tab:=⟨[.val (.int .i64) (.no)],W .i64,fun a:W .i64×Unit=>F_walk_Fault a.1,fun r:W .i64=>(.val (.int .i64) r (.no),[.undef])⟩
def g21:=gx ⟨[0,1,2,6],[],[true],[]⟩ Tryz.f128
def N21:FnK tab:=⟨[.val (.int .i64) (.no),.val (.int .i64) (.no),.val (.int .i64) (.no)],W .i64,fun a:W .i64×W .i64×W .i64×Unit=>F_bits_clamp a.1 a.2.1 a.2.2.1,fun r:W .i64=>(.val (.int .i64) r (.no),[.undef,.undef,.undef])⟩
def g22:=gx ⟨[0,2],[],[true],[]⟩ Tryz.f129
def N22:FnK tab:=⟨[.val (.int .i64) (.no)],W .u32,fun a:W .i64×Unit=>F_bits_ones a.1,fun r:W .u32=>(.val (.int .u32) r (.no),[.undef])⟩
def g23:=gx ⟨[0,1,4,5,12],[],[true,true],[]⟩ Tryz.f84
def N23:FnK tab:=⟨[.val (.int .i64) (.no),.val (.int .i64) (.no)],W .u32×W .i64,fun a:W .i64×W .i64×Unit=>F_bits_mask a.1 a.2.1,fun r:W .u32×W .i64=>(.tup [.val (.int .u32) r.1 (.no),.val (.int .i64) r.2 (.no)],[.undef,.undef])⟩
def t23:Tt:=tbl [(128,N21),(129,N22)]
def g24:=gx ⟨[0,1,2,6,7,8],[],[true],[]⟩ Tryz.f52
def N24:FnK tab:=⟨[.val (.int .u32) (.no),.val (.int .i64) (.no),.val (.int .i64) (.no)],W .u32,fun a:W .u32×W .i64×W .i64×Unit=>F_bits_Field a.1 a.2.1 a.2.2.1,fun r:W .u32=>(.val (.int .u32) r (.no),[.undef,.undef,.undef])⟩
def t24:Tt:=tbl [(84,N23)]
def g25:=gx ⟨[0,1,4,5,6,11],[],[true],[]⟩ Tryz.f155
def N25:FnK tab:=⟨[.val (.int .u32) (.no),.val (.int .i64) (.no)],W .i64,fun a:W .u32×W .i64×Unit=>F_pte_Index a.1 a.2.1,fun r:W .i64=>(.val (.int .i64) r (.no),[.undef,.undef])⟩
def t25:Tt:=tbl [(52,N24)]
def g26:=gx ⟨[0,1,2,6,27],[],[true],[]⟩ Tryz.f76
def N26:FnK tab:=⟨[.val (.slice 1 (.int .u8)) (.no),.val (.int .u32) (.no),.val (.int .i64) (.no)],W .i64,fun a:Sl 1 (W .u8)×W .u32×W .i64×Unit=>F_mem_Check a.1 a.2.1 a.2.2.1,fun r:W .i64=>(.val (.int .i64) r (.no),[.undef,.undef,.undef])⟩
def g27:=gx ⟨[0,2,3,4,5,10,11,12,13],[],[true],[(7,[(3,.any),(10,.any),(11,.any),(12,.any)]),(8,[(3,.any)]),(9,[(3,.any),(10,.any),(11,.any),(12,.any)])]⟩ Tryz.f77
def K27_7:MarkK tab:=⟨[(3,.val (.int .u32) (.no)),(10,.val (.slice 1 (.int .u8)) (.no)),(11,.val (.int .i64) (.no)),(12,.val (.int .i64) (.no))],[((.exit 0),[(3,.val (.int .u32) (.no))])],L_bits_Of_7⟩
def N27:FnK tab:=⟨[.val (.slice 1 (.int .u8)) (.no)],W .u32,fun a:Sl 1 (W .u8)×Unit=>F_bits_Of a.1,fun r:W .u32=>(.val (.int .u32) r (.no),[.undef])⟩
def q27:Qt:=mtbl [(7,K27_7)]
def g28:=gx ⟨[0,1,2,6,7,8,14],[],[true,true],[]⟩ Tryz.f42
def N28:FnK tab:=⟨[.val (.slice 1 (.int .u8)) (.no),.val (.int .u32) (.no),.val (.int .i64) (.no)],W .u32×W .i64,fun a:Sl 1 (W .u8)×W .u32×W .i64×Unit=>F_mem_Read a.1 a.2.1 a.2.2.1,fun r:W .u32×W .i64=>(.tup [.val (.int .u32) r.1 (.no),.val (.int .i64) r.2 (.no)],[.undef,.undef,.undef])⟩
def t28:Tt:=tbl [(76,N26),(77,N27)]
def g29:=gx ⟨[0,2],[],[true],[]⟩ Tryz.f174
def N29:FnK tab:=⟨[.val (.int .u32) (.no)],TPte,fun a:W .u32×Unit=>F_pte_Of a.1,fun r:TPte=>(.val (.named .TPte) r (.no),[.undef])⟩
def t29:Tt:=tbl [(52,N24)]
def g30:=gx ⟨[0,1,4,5,6,7,18],[0],[true,true],[]⟩ Tryz.f154
def N30:FnK tab:=⟨[.box (.named .TWalker) (.st [.no,.yes 0]),.val (.int .u32) (.no)],TPte×Bool×TWalker,fun a:TWalker×W .u32×Unit=>F_walk_walker_entry a.1 a.2.1,fun r:TPte×Bool×TWalker=>(.tup [.val (.named .TPte) r.1 (.no),.val (.bool) r.2.1 (.no)],[.box 0 (.named .TWalker) r.2.2 (.st [.no,.yes 0]),.undef])⟩
def t30:Tt:=tbl [(42,N28),(174,N29)]
def g31:=gx ⟨[0,1,2],[],[true],[]⟩ Tryz.f156
def N31:FnK tab:=⟨[.val (.named .TPte) (.no)],Bool,fun a:TPte×Unit=>F_pte_Leaf a.1,fun r:Bool=>(.val (.bool) r (.no),[.undef])⟩
def g32:=gx ⟨[0,1,2,6,7,8,9,10,11,12,15,17,41,73],[],[true,true,true],[]⟩ Tryz.f120
def N32:FnK tab:=⟨[.val (.slice 1 (.int .u8)) (.no),.val (.int .u32) (.no),.val (.int .u32) (.no)],TPte×Sl 4 (W .u32)×Bool,fun a:Sl 1 (W .u8)×W .u32×W .u32×Unit=>F_walk_Walk a.1 a.2.1 a.2.2.1,fun r:TPte×Sl 4 (W .u32)×Bool=>(.tup [.val (.named .TPte) r.1 (.no),.val (.slice 4 (.int .u32)) r.2.1 (.no),.val (.bool) r.2.2 (.no)],[.undef,.undef,.undef])⟩
def t32:Tt:=tbl [(154,N30),(155,N25),(156,N31)]
def g33:=gx ⟨[0,1,2,3,6,7,9,12,13,17,21],[],[true],[]⟩ Tryz.f121
def N33:FnK tab:=⟨[.val (.named .TPte) (.no),.val (.int .i64) (.no),.val (.bool) (.no)],Bool,fun a:TPte×W .i64×Bool×Unit=>F_pte_Allows a.1 a.2.1 a.2.2.1,fun r:Bool=>(.val (.bool) r (.no),[.undef,.undef,.undef])⟩
def g34:=gx ⟨[0,1,2],[],[true],[]⟩ Tryz.f157
def N34:FnK tab:=⟨[.val (.named .TPte) (.no)],W .u32,fun a:TPte×Unit=>F_pte_page a.1,fun r:W .u32=>(.val (.int .u32) r (.no),[.undef])⟩
def g35:=gx ⟨[0,1,2,4],[],[true],[]⟩ Tryz.f122
def N35:FnK tab:=⟨[.val (.named .TPte) (.no),.val (.int .u32) (.no)],W .u32,fun a:TPte×W .u32×Unit=>F_pte_Addr a.1 a.2.1,fun r:W .u32=>(.val (.int .u32) r (.no),[.undef,.undef])⟩
def t35:Tt:=tbl [(157,N34)]
def g36:=gx ⟨[0,1,2,3,4,8,9,10,11,13,16,21,40],[],[true,true],[]⟩ Tryz.f75
def N36:FnK tab:=⟨[.val (.named .TArch) (.no),.val (.slice 1 (.int .u8)) (.no),.val (.int .u32) (.no),.val (.int .i64) (.no)],W .u32×W .i64,fun a:TArch×Sl 1 (W .u8)×W .u32×W .i64×Unit=>F_walk_Trans a.1 a.2.1 a.2.2.1 a.2.2.2.1,fun r:W .u32×W .i64=>(.tup [.val (.int .u32) r.1 (.no),.val (.int .i64) r.2 (.no)],[.undef,.undef,.undef,.undef])⟩
def t36:Tt:=tbl [(118,N19),(119,N20),(120,N32),(121,N33),(122,N35)]
def g37:=gx ⟨[0,1,2,3,4,5,10,11,12,13,17,29,35],[],[true,true],[]⟩ Tryz.f41
def N37:FnK tab:=⟨[.val (.named .TMach) (.no),.val (.slice 1 (.int .u8)) (.no),.val (.int .u32) (.no),.val (.int .i64) (.no),.val (.int .i64) (.no)],W .u32×W .i64,fun a:TMach×Sl 1 (W .u8)×W .u32×W .i64×W .i64×Unit=>F_step_reach a.1 a.2.1 a.2.2.1 a.2.2.2.1 a.2.2.2.2.1,fun r:W .u32×W .i64=>(.tup [.val (.int .u32) r.1 (.no),.val (.int .i64) r.2 (.no)],[.undef,.undef,.undef,.undef,.undef])⟩
def t37:Tt:=tbl [(74,N18),(75,N36),(76,N26)]
def g38:=gx ⟨[0,1,2,3,4,5,17],[],[true,true],[]⟩ Tryz.f10
def N38:FnK tab:=⟨[.val (.named .TMach) (.no)],W .u32×W .i64,fun a:TMach×Unit=>F_step_Fetch a.1,fun r:W .u32×W .i64=>(.tup [.val (.int .u32) r.1 (.no),.val (.int .i64) r.2 (.no)],[.undef])⟩
def t38:Tt:=tbl [(41,N37),(42,N28)]
def g39:=gx ⟨[0,2,3,10,17,20,27,34,37,40,43,46,49],[],[true],[]⟩ Tryz.f85
def N39:FnK tab:=⟨[.val (.int .i64) (.no)],W .i64,fun a:W .i64×Unit=>F_inst_Form a.1,fun r:W .i64=>(.val (.int .i64) r (.no),[.undef])⟩
def g40:=gx ⟨[0,1,4],[],[true],[]⟩ Tryz.f53
def N40:FnK tab:=⟨[.val (.int .i64) (.no),.val (.int .i64) (.no)],Bool,fun a:W .i64×W .i64×Unit=>F_inst_has a.1 a.2.1,fun r:Bool=>(.val (.bool) r (.no),[.undef,.undef])⟩
def t40:Tt:=tbl [(85,N39)]
def g41:=gx ⟨[0,1,4],[],[true],[]⟩ Tryz.f86
def N41:FnK tab:=⟨[.val (.int .u32) (.no),.val (.int .i64) (.no)],W .u32,fun a:W .u32×W .i64×Unit=>F_bits_Zext a.1 a.2.1,fun r:W .u32=>(.val (.int .u32) r (.no),[.undef,.undef])⟩
def t41:Tt:=tbl [(128,N21),(129,N22)]
def g42:=gx ⟨[0,2,5],[],[true],[]⟩ Tryz.f88
def N42:FnK tab:=⟨[.val (.int .i64) (.no)],W .i64,fun a:W .i64×Unit=>F_inst_width a.1,fun r:W .i64=>(.val (.int .i64) r (.no),[.undef])⟩
def t42:Tt:=tbl [(85,N39)]
def g43:=gx ⟨[0,1,4,5],[],[true],[]⟩ Tryz.f87
def N43:FnK tab:=⟨[.val (.int .u32) (.no),.val (.int .i64) (.no)],W .u32,fun a:W .u32×W .i64×Unit=>F_bits_Sext a.1 a.2.1,fun r:W .u32=>(.val (.int .u32) r (.no),[.undef,.undef])⟩
def t43:Tt:=tbl [(128,N21)]
def g44:=gx ⟨[0,1,4,6],[],[true],[]⟩ Tryz.f54
def N44:FnK tab:=⟨[.val (.int .i64) (.no),.val (.int .u32) (.no)],W .i64,fun a:W .i64×W .u32×Unit=>F_inst_number a.1 a.2.1,fun r:W .i64=>(.val (.int .i64) r (.no),[.undef,.undef])⟩
def t44:Tt:=tbl [(86,N41),(87,N43),(88,N42)]
def g45:=gx ⟨[0,1,4,5,6,16,24],[],[true],[]⟩ Tryz.f130
def N45:FnK tab:=⟨[.val (.int .i64) (.no),.val (.int .i64) (.no)],Bool,fun a:W .i64×W .i64×Unit=>F_inst_within a.1 a.2.1,fun r:Bool=>(.val (.bool) r (.no),[.undef,.undef])⟩
def g46:=gx ⟨[0,1,2,4,8,18,19,20,44,46,56],[],[true],[(11,[(1,.any),(18,.any),(19,.any)]),(12,[(1,.any),(2,.any)]),(13,[(1,.any),(18,.any),(19,.any)])]⟩ Tryz.f89
def K46_11:MarkK tab:=⟨[(1,.box (.named .TInst) (.no)),(18,.val (.arr 3 (.named .TS132)) (.no)),(19,.val (.int .i64) (.no))],[(.ret,[(1,.box (.named .TInst) (.no)),(2,.val (.int .i64) (.no))]),((.exit 0),[(1,.box (.named .TInst) (.no)),(2,.undef)])],L_inst_Right_11⟩
def N46:FnK tab:=⟨[.val (.named .TInst) (.no)],W .i64,fun a:TInst×Unit=>F_inst_Right a.1,fun r:W .i64=>(.val (.int .i64) r (.no),[.undef])⟩
def t46:Tt:=tbl [(53,N40),(85,N39),(130,N45)]
def q46:Qt:=mtbl [(11,K46_11)]
def g47:=gx ⟨[0,1,2,3,8,9,10],[],[true],[]⟩ Tryz.f90
def N47:FnK tab:=⟨[.val (.int .u32) (.no),.val (.int .i64) (.no),.val (.int .i64) (.no),.val (.int .u32) (.no)],W .u32,fun a:W .u32×W .i64×W .i64×W .u32×Unit=>F_bits_Put a.1 a.2.1 a.2.2.1 a.2.2.2.1,fun r:W .u32=>(.val (.int .u32) r (.no),[.undef,.undef,.undef,.undef])⟩
def t47:Tt:=tbl [(84,N23)]
def g48:=gx ⟨[0,1,2,3,4,5,9,32],[],[true,true],[]⟩ Tryz.f55
def N48:FnK tab:=⟨[.val (.named .TInst) (.no)],W .u32×W .i64,fun a:TInst×Unit=>F_inst_Enc a.1,fun r:W .u32×W .i64=>(.tup [.val (.int .u32) r.1 (.no),.val (.int .i64) r.2 (.no)],[.undef])⟩
def t48:Tt:=tbl [(53,N40),(88,N42),(89,N46),(90,N47)]
def g49:=gx ⟨[0,2,3,4,5,6,13,17,24,31,38,55],[],[true,true],[]⟩ Tryz.f24
def N49:FnK tab:=⟨[.val (.int .u32) (.no)],TInst×W .i64,fun a:W .u32×Unit=>F_inst_Dec a.1,fun r:TInst×W .i64=>(.tup [.val (.named .TInst) r.1 (.no),.val (.int .i64) r.2 (.no)],[.undef])⟩
def t49:Tt:=tbl [(52,N24),(53,N40),(54,N44),(55,N48)]
def g50:=gx ⟨[0,2],[],[true],[]⟩ Tryz.f25
def N50:FnK tab:=⟨[.val (.int .i64) (.no)],Bool,fun a:W .i64×Unit=>F_inst_Priv a.1,fun r:Bool=>(.val (.bool) r (.no),[.undef])⟩
def g51:=gx ⟨[0,2,3],[],[true],[]⟩ Tryz.f131
def N51:FnK tab:=⟨[.val (.bool) (.no)],W .u32,fun a:Bool×Unit=>F_alu_one a.1,fun r:W .u32=>(.val (.int .u32) r (.no),[.undef])⟩
def g52:=gx ⟨[0,2,3,5],[],[true],[(5,[(0,.any),(3,.any)]),(6,[(3,.any)]),(7,[(0,.any),(3,.any)])]⟩ Tryz.f163
def K52_5:MarkK tab:=⟨[(0,.val (.int .u32) (.no)),(3,.val (.int .i64) (.no))],[((.exit 0),[(3,.val (.int .i64) (.no))])],L_alu_Clz_5⟩
def N52:FnK tab:=⟨[.val (.int .u32) (.no)],W .i64,fun a:W .u32×Unit=>F_alu_Clz a.1,fun r:W .i64=>(.val (.int .i64) r (.no),[.undef])⟩
def q52:Qt:=mtbl [(5,K52_5)]
def g53:=gx ⟨[0,2,3,5],[],[true],[(5,[(0,.any),(3,.any)]),(6,[(3,.any)]),(7,[(0,.any),(3,.any)])]⟩ Tryz.f164
def K53_5:MarkK tab:=⟨[(0,.val (.int .u32) (.no)),(3,.val (.int .i64) (.no))],[((.exit 0),[(3,.val (.int .i64) (.no))])],L_alu_Pop_5⟩
def N53:FnK tab:=⟨[.val (.int .u32) (.no)],W .i64,fun a:W .u32×Unit=>F_alu_Pop a.1,fun r:W .i64=>(.val (.int .i64) r (.no),[.undef])⟩
def q53:Qt:=mtbl [(5,K53_5)]
def g54:=gx ⟨[0,2],[],[true],[]⟩ Tryz.f165
def N54:FnK tab:=⟨[.val (.int .u32) (.no)],W .u32,fun a:W .u32×Unit=>F_alu_Rev a.1,fun r:W .u32=>(.val (.int .u32) r (.no),[.undef])⟩
def g55:=gx ⟨[0,1,4,5,6,7,12,17],[],[true,true],[]⟩ Tryz.f132
def N55:FnK tab:=⟨[.val (.int .i64) (.no),.val (.int .u32) (.no)],W .u32×Bool,fun a:W .i64×W .u32×Unit=>F_alu_single a.1 a.2.1,fun r:W .u32×Bool=>(.tup [.val (.int .u32) r.1 (.no),.val (.bool) r.2 (.no)],[.undef,.undef])⟩
def t55:Tt:=tbl [(163,N52),(164,N53),(165,N54)]
def g56:=gx ⟨[0,2],[],[true],[]⟩ Tryz.f166
def N56:FnK tab:=⟨[.val (.int .u32) (.no)],W .u32,fun a:W .u32×Unit=>F_alu_low a.1,fun r:W .u32=>(.val (.int .u32) r (.no),[.undef])⟩
def g57:=gx ⟨[0,1,4,5],[],[true],[]⟩ Tryz.f175
def N57:FnK tab:=⟨[.val (.int .u32) (.no),.val (.int .i64) (.no)],W .u32,fun a:W .u32×W .i64×Unit=>F_bits_RotateLeft32 a.1 a.2.1,fun r:W .u32=>(.val (.int .u32) r (.no),[.undef,.undef])⟩
def g58:=gx ⟨[0,1,4],[],[true],[]⟩ Tryz.f167
def N58:FnK tab:=⟨[.val (.int .u32) (.no),.val (.int .i64) (.no)],W .u32,fun a:W .u32×W .i64×Unit=>F_bits_Rot a.1 a.2.1,fun r:W .u32=>(.val (.int .u32) r (.no),[.undef,.undef])⟩
def t58:Tt:=tbl [(175,N57)]
def g59:=gx ⟨[0,1,2,6,7,8,9,15,21,27,34,41,50],[],[true,true],[]⟩ Tryz.f133
def N59:FnK tab:=⟨[.val (.int .i64) (.no),.val (.int .u32) (.no),.val (.int .u32) (.no)],W .u32×Bool,fun a:W .i64×W .u32×W .u32×Unit=>F_alu_logic a.1 a.2.1 a.2.2.1,fun r:W .u32×Bool=>(.tup [.val (.int .u32) r.1 (.no),.val (.bool) r.2 (.no)],[.undef,.undef,.undef])⟩
def t59:Tt:=tbl [(166,N56),(167,N58)]
def g60:=gx ⟨[0,1,2,6,7,8,9,15,20,29,35,43,51,55],[],[true,true],[]⟩ Tryz.f91
def N60:FnK tab:=⟨[.val (.int .i64) (.no),.val (.int .u32) (.no),.val (.int .u32) (.no)],W .u32×Bool,fun a:W .i64×W .u32×W .u32×Unit=>F_alu_Do a.1 a.2.1 a.2.2.1,fun r:W .u32×Bool=>(.tup [.val (.int .u32) r.1 (.no),.val (.bool) r.2 (.no)],[.undef,.undef,.undef])⟩
def t60:Tt:=tbl [(131,N51),(132,N55),(133,N59)]
def g61:=gx ⟨[0,1,4],[],[true],[]⟩ Tryz.f135
def N61:FnK tab:=⟨[.val (.int .u32) (.no),.val (.int .u32) (.no)],TMul,fun a:W .u32×W .u32×Unit=>F_mul_New a.1 a.2.1,fun r:TMul=>(.val (.named .TMul) r (.no),[.undef,.undef])⟩
def g62:=gx ⟨[0,1,2,3,4,7,15],[],[true],[]⟩ Tryz.f168
def N62:FnK tab:=⟨[.val (.named .TMul) (.no)],TMul,fun a:TMul×Unit=>F_mul_Step a.1,fun r:TMul=>(.val (.named .TMul) r (.no),[.undef])⟩
def g63:=gx ⟨[0,1,2,3,10,11,12],[],[true,true],[(7,[(1,.any),(10,.any),(11,.any)]),(8,[(1,.any)]),(9,[(1,.any),(10,.any),(11,.any)])]⟩ Tryz.f134
def K63_7:MarkK tab:=⟨[(1,.box (.named .TMul) (.no)),(10,.val (.int .i64) (.no)),(11,.val (.int .i64) (.no))],[((.exit 0),[(1,.box (.named .TMul) (.no))])],L_mul_Run_7⟩
def N63:FnK tab:=⟨[.val (.named .TMul) (.no)],W .u32×W .u32,fun a:TMul×Unit=>F_mul_Run a.1,fun r:W .u32×W .u32=>(.tup [.val (.int .u32) r.1 (.no),.val (.int .u32) r.2 (.no)],[.undef])⟩
def t63:Tt:=tbl [(168,N62)]
def q63:Qt:=mtbl [(7,K63_7)]
def g64:=gx ⟨[0,1,4,7],[],[true],[]⟩ Tryz.f136
def N64:FnK tab:=⟨[.val (.int .u32) (.no),.val (.int .u32) (.no)],W .u32,fun a:W .u32×W .u32×Unit=>F_mul_less a.1 a.2.1,fun r:W .u32=>(.val (.int .u32) r (.no),[.undef,.undef])⟩
def g65:=gx ⟨[0,1,2,6,7,8,9,17,18,21,24],[],[true,true],[]⟩ Tryz.f92
def N65:FnK tab:=⟨[.val (.int .i64) (.no),.val (.int .u32) (.no),.val (.int .u32) (.no)],W .u32×Bool,fun a:W .i64×W .u32×W .u32×Unit=>F_mul_Do a.1 a.2.1 a.2.2.1,fun r:W .u32×Bool=>(.tup [.val (.int .u32) r.1 (.no),.val (.bool) r.2 (.no)],[.undef,.undef,.undef])⟩
def t65:Tt:=tbl [(134,N63),(135,N61),(136,N64)]
def g66:=gx ⟨[0,1,4],[],[true],[]⟩ Tryz.f138
def N66:FnK tab:=⟨[.val (.int .u32) (.no),.val (.int .u32) (.no)],TDiv,fun a:W .u32×W .u32×Unit=>F_div_New a.1 a.2.1,fun r:TDiv=>(.val (.named .TDiv) r (.no),[.undef,.undef])⟩
def g67:=gx ⟨[0,2],[],[true],[]⟩ Tryz.f169
def N67:FnK tab:=⟨[.val (.int .i64) (.no)],W .i64,fun a:W .i64×Unit=>F_div_left a.1,fun r:W .i64=>(.val (.int .i64) r (.no),[.undef])⟩
def g68:=gx ⟨[0,1,2,3,10,37],[],[true],[]⟩ Tryz.f170
def N68:FnK tab:=⟨[.val (.named .TDiv) (.no)],TDiv,fun a:TDiv×Unit=>F_div_Step a.1,fun r:TDiv=>(.val (.named .TDiv) r (.no),[.undef])⟩
def t68:Tt:=tbl [(169,N67)]
def g69:=gx ⟨[0,1,2,3,6,7,8],[],[true,true],[(5,[(1,.any),(6,.any),(7,.any)]),(6,[(1,.any)]),(7,[(1,.any),(6,.any),(7,.any)])]⟩ Tryz.f137
def K69_5:MarkK tab:=⟨[(1,.box (.named .TDiv) (.no)),(6,.val (.int .i64) (.no)),(7,.val (.int .i64) (.no))],[((.exit 0),[(1,.box (.named .TDiv) (.no))])],L_div_Run_5⟩
def N69:FnK tab:=⟨[.val (.named .TDiv) (.no)],W .u32×W .u32,fun a:TDiv×Unit=>F_div_Run a.1,fun r:W .u32×W .u32=>(.tup [.val (.int .u32) r.1 (.no),.val (.int .u32) r.2 (.no)],[.undef])⟩
def t69:Tt:=tbl [(169,N67),(170,N68)]
def q69:Qt:=mtbl [(5,K69_5)]
def g70:=gx ⟨[0,2,5],[],[true],[]⟩ Tryz.f139
def N70:FnK tab:=⟨[.val (.int .u32) (.no)],W .u32,fun a:W .u32×Unit=>F_div_away a.1,fun r:W .u32=>(.val (.int .u32) r (.no),[.undef])⟩
def g71:=gx ⟨[0,1,2,6,7,8,11,12,13,14,15,25,35,48,58,63,67],[],[true,true],[]⟩ Tryz.f93
def N71:FnK tab:=⟨[.val (.int .i64) (.no),.val (.int .u32) (.no),.val (.int .u32) (.no)],W .u32×Bool,fun a:W .i64×W .u32×W .u32×Unit=>F_div_Do a.1 a.2.1 a.2.2.1,fun r:W .u32×Bool=>(.tup [.val (.int .u32) r.1 (.no),.val (.bool) r.2 (.no)],[.undef,.undef,.undef])⟩
def t71:Tt:=tbl [(137,N69),(138,N66),(139,N70)]
def g72:=gx ⟨[0,1,2,6,8],[],[true],[]⟩ Tryz.f94
def N72:FnK tab:=⟨[.val (.int .u32) (.no),.val (.int .u32) (.no),.val (.int .u32) (.no)],W .u32,fun a:W .u32×W .u32×W .u32×Unit=>F_alu_Cmov a.1 a.2.1 a.2.2.1,fun r:W .u32=>(.val (.int .u32) r (.no),[.undef,.undef,.undef])⟩
def g73:=gx ⟨[0,1,2,7],[0],[],[]⟩ Tryz.f95
def N73:FnK tab:=⟨[.box (.named .TWork) (.no),.val (.int .i64) (.no),.val (.int .u32) (.no)],TWork,fun a:TWork×W .i64×W .u32×Unit=>F_step_work_put a.1 a.2.1 a.2.2.1,fun r:TWork=>(.tup [],[.box 0 (.named .TWork) r (.no),.undef,.undef])⟩
def g74:=gx ⟨[0,1,2,3,5,8,9,17,30,40,55],[0],[],[(3,[(0,.any),(2,.any),(3,.any),(5,.any),(17,.any)]),(4,[(0,.any),(2,.any),(3,.any),(5,.any)]),(5,[(0,.any),(2,.any),(3,.any),(5,.any)]),(6,[(0,.any)]),(11,[(0,.any),(2,.any),(3,.any),(5,.any),(8,.any),(9,.any)]),(12,[(0,.any)]),(15,[(0,.any),(2,.any),(3,.any),(5,.any),(8,.any),(9,.any)]),(16,[(0,.any)]),(17,[(0,.any),(2,.any),(3,.any),(5,.any),(8,.any),(55,.any)]),(18,[(0,.any),(5,.any),(8,.any)]),(19,[(0,.any),(5,.any),(8,.any)]),(20,[(0,.any)])]⟩ Tryz.f56
def K74_3:MarkK tab:=⟨[(0,.box (.named .TWork) (.no)),(2,.val (.int .u32) (.no)),(3,.val (.int .u32) (.no)),(5,.box (.named .TInst) (.no)),(17,.val (.bool) (.no))],[(.normal,[(0,.box (.named .TWork) (.no)),(2,.val (.int .u32) (.no)),(3,.val (.int .u32) (.no)),(5,.box (.named .TInst) (.no))])],L_step_work_reckon_3⟩
def K74_17:MarkK tab:=⟨[(0,.box (.named .TWork) (.no)),(2,.val (.int .u32) (.no)),(3,.val (.int .u32) (.no)),(5,.box (.named .TInst) (.no)),(8,.val (.int .u32) (.no)),(55,.val (.bool) (.no))],[(.normal,[(0,.box (.named .TWork) (.no)),(5,.box (.named .TInst) (.no)),(8,.val (.int .u32) (.no))])],L_step_work_reckon_17⟩
def K74_19:MarkK tab:=⟨[(0,.box (.named .TWork) (.no)),(5,.box (.named .TInst) (.no)),(8,.val (.int .u32) (.no))],[(.normal,[(0,.box (.named .TWork) (.no))])],L_step_work_reckon_19⟩
def K74_15:MarkK tab:=⟨[(0,.box (.named .TWork) (.no)),(2,.val (.int .u32) (.no)),(3,.val (.int .u32) (.no)),(5,.box (.named .TInst) (.no)),(8,.val (.int .u32) (.no)),(9,.val (.bool) (.no))],[(.normal,[(0,.box (.named .TWork) (.no))])],L_step_work_reckon_15⟩
def K74_11:MarkK tab:=⟨[(0,.box (.named .TWork) (.no)),(2,.val (.int .u32) (.no)),(3,.val (.int .u32) (.no)),(5,.box (.named .TInst) (.no)),(8,.val (.int .u32) (.no)),(9,.val (.bool) (.no))],[(.normal,[(0,.box (.named .TWork) (.no))])],L_step_work_reckon_11⟩
def K74_5:MarkK tab:=⟨[(0,.box (.named .TWork) (.no)),(2,.val (.int .u32) (.no)),(3,.val (.int .u32) (.no)),(5,.box (.named .TInst) (.no))],[(.normal,[(0,.box (.named .TWork) (.no))])],L_step_work_reckon_5⟩
def N74:FnK tab:=⟨[.box (.named .TWork) (.no),.val (.named .TInst) (.no),.val (.int .u32) (.no),.val (.int .u32) (.no)],TWork,fun a:TWork×TInst×W .u32×W .u32×Unit=>F_step_work_reckon a.1 a.2.1 a.2.2.1 a.2.2.2.1,fun r:TWork=>(.tup [],[.box 0 (.named .TWork) r (.no),.undef,.undef,.undef])⟩
def t74:Tt:=tbl [(91,N60),(92,N65),(93,N71),(94,N72),(95,N73)]
def q74:Qt:=mtbl [(3,K74_3),(17,K74_17),(19,K74_19),(15,K74_15),(11,K74_11),(5,K74_5)]
def g75:=gx ⟨[0,2,3,4,8],[],[true],[]⟩ Tryz.f96
def N75:FnK tab:=⟨[.val (.int .i64) (.no)],W .i64,fun a:W .i64×Unit=>F_step_sizeOf a.1,fun r:W .i64=>(.val (.int .i64) r (.no),[.undef])⟩
def g76:=gx ⟨[0,1,2],[0],[],[]⟩ Tryz.f97
def N76:FnK tab:=⟨[.box (.named .TWork) (.no),.val (.int .i64) (.no),.val (.int .u32) (.no)],TWork,fun a:TWork×W .i64×W .u32×Unit=>F_step_work_fails a.1 a.2.1 a.2.2.1,fun r:TWork=>(.tup [],[.box 0 (.named .TWork) r (.no),.undef,.undef])⟩
def g77:=gx ⟨[0,1,2,4,6,7,8,9,10,22,40,57,58,65,76],[0],[],[]⟩ Tryz.f57
def N77:FnK tab:=⟨[.box (.named .TWork) (.no),.val (.named .TInst) (.no),.val (.int .u32) (.no)],TWork,fun a:TWork×TInst×W .u32×Unit=>F_step_work_loads a.1 a.2.1 a.2.2.1,fun r:TWork=>(.tup [],[.box 0 (.named .TWork) r (.no),.undef,.undef])⟩
def t77:Tt:=tbl [(41,N37),(42,N28),(87,N43),(95,N73),(96,N75),(97,N76)]
def N78:FnK tab:=cloneK 1 (.int .u8)
def g79:=gx ⟨[0,1,4,5,6,11,12,13],[],[true],[(7,[(0,.any),(5,.any),(11,.any),(12,.any)]),(8,[(5,.any)]),(9,[(0,.any),(5,.any),(11,.any),(12,.any)])]⟩ Tryz.f172
def K79_7:MarkK tab:=⟨[(0,.val (.int .u32) (.no)),(5,.val (.slice 1 (.int .u8)) (.yes 0)),(11,.val (.int .i64) (.no)),(12,.val (.int .i64) (.no))],[((.exit 0),[(5,.val (.slice 1 (.int .u8)) (.yes 0))])],L_bits_Bytes_7⟩
def N79:FnK tab:=⟨[.val (.int .u32) (.no),.val (.int .i64) (.no)],Sl 1 (W .u8),fun a:W .u32×W .i64×Unit=>F_bits_Bytes a.1 a.2.1,fun r:Sl 1 (W .u8)=>(.val (.slice 1 (.int .u8)) r (.no),[.undef,.undef])⟩
def t79:Tt:=tbl [(128,N21)]
def q79:Qt:=mtbl [(7,K79_7)]
def g80:=gx ⟨[0,1,2,3,8,9,10,11,17],[],[true,true],[]⟩ Tryz.f140
def N80:FnK tab:=⟨[.val (.slice 1 (.int .u8)) (.no),.val (.int .u32) (.no),.val (.int .i64) (.no),.val (.int .u32) (.no)],Sl 1 (W .u8)×W .i64,fun a:Sl 1 (W .u8)×W .u32×W .i64×W .u32×Unit=>F_mem_Write a.1 a.2.1 a.2.2.1 a.2.2.2.1,fun r:Sl 1 (W .u8)×W .i64=>(.tup [.val (.slice 1 (.int .u8)) r.1 (.no),.val (.int .i64) r.2 (.no)],[.undef,.undef,.undef,.undef])⟩
def t80:Tt:=tbl [(76,N26),(171,N78),(172,N79)]
def g81:=gx ⟨[0,1,2,3,8,9,23],[0],[],[]⟩ Tryz.f98
def N81:FnK tab:=⟨[.box (.named .TWork) (.no),.val (.int .u32) (.no),.val (.int .i64) (.no),.val (.int .u32) (.no)],TWork,fun a:TWork×W .u32×W .i64×W .u32×Unit=>F_step_work_stores a.1 a.2.1 a.2.2.1 a.2.2.2.1,fun r:TWork=>(.tup [],[.box 0 (.named .TWork) r (.no),.undef,.undef,.undef])⟩
def t81:Tt:=tbl [(86,N41),(140,N80)]
def g82:=gx ⟨[0,1,2,3,5,8,9,10,11,36],[0],[],[]⟩ Tryz.f58
def N82:FnK tab:=⟨[.box (.named .TWork) (.no),.val (.named .TInst) (.no),.val (.int .u32) (.no),.val (.int .u32) (.no)],TWork,fun a:TWork×TInst×W .u32×W .u32×Unit=>F_step_work_keeps a.1 a.2.1 a.2.2.1 a.2.2.2.1,fun r:TWork=>(.tup [],[.box 0 (.named .TWork) r (.no),.undef,.undef,.undef])⟩
def t82:Tt:=tbl [(41,N37),(96,N75),(97,N76),(98,N81)]
def g83:=gx ⟨[0,1,2,6,7,8,13,18,25,32,37],[],[true],[]⟩ Tryz.f99
def N83:FnK tab:=⟨[.val (.int .i64) (.no),.val (.int .u32) (.no),.val (.int .u32) (.no)],Bool,fun a:W .i64×W .u32×W .u32×Unit=>F_alu_Taken a.1 a.2.1 a.2.2.1,fun r:Bool=>(.val (.bool) r (.no),[.undef,.undef,.undef])⟩
def g84:=gx ⟨[0,1,2,3,5,8,9,27,32,37,48],[0],[],[]⟩ Tryz.f59
def N84:FnK tab:=⟨[.box (.named .TWork) (.no),.val (.named .TInst) (.no),.val (.int .u32) (.no),.val (.int .u32) (.no)],TWork,fun a:TWork×TInst×W .u32×W .u32×Unit=>F_step_work_goes a.1 a.2.1 a.2.2.1 a.2.2.2.1,fun r:TWork=>(.tup [],[.box 0 (.named .TWork) r (.no),.undef,.undef,.undef])⟩
def t84:Tt:=tbl [(95,N73),(99,N83)]
def g85:=gx ⟨[0,1,2,3,5,8,9,10,27,42,52],[0],[],[]⟩ Tryz.f60
def N85:FnK tab:=⟨[.box (.named .TWork) (.no),.val (.named .TInst) (.no),.val (.int .u32) (.no),.val (.int .u32) (.no)],TWork,fun a:TWork×TInst×W .u32×W .u32×Unit=>F_step_work_atOnce a.1 a.2.1 a.2.2.1 a.2.2.2.1,fun r:TWork=>(.tup [],[.box 0 (.named .TWork) r (.no),.undef,.undef,.undef])⟩
def t85:Tt:=tbl [(41,N37),(42,N28),(95,N73),(97,N76),(98,N81)]
def g86:=gx ⟨[0,1,2,3,4,7],[],[true,true],[]⟩ Tryz.f100
def N86:FnK tab:=⟨[.val (.named .TArch) (.no)],TArch×W .i64,fun a:TArch×Unit=>F_trap_Return a.1,fun r:TArch×W .i64=>(.tup [.val (.named .TArch) r.1 (.no),.val (.int .i64) r.2 (.no)],[.undef])⟩
def t86:Tt:=tbl [(26,N10),(63,N14)]
def g87:=gx ⟨[0,1,2,3,6,13,19],[],[true],[]⟩ Tryz.f141
def N87:FnK tab:=⟨[.val (.named .TArch) (.no),.val (.int .i64) (.no),.val (.bool) (.no)],W .i64,fun a:TArch×W .i64×Bool×Unit=>F_csr_may a.1 a.2.1 a.2.2.1,fun r:W .i64=>(.val (.int .i64) r (.no),[.undef,.undef,.undef])⟩
def t87:Tt:=tbl [(26,N10)]
def g88:=gx ⟨[0,1,2,4,5,6,13],[],[true,true],[]⟩ Tryz.f101
def N88:FnK tab:=⟨[.val (.named .TArch) (.no),.val (.int .i64) (.no)],W .u32×W .i64,fun a:TArch×W .i64×Unit=>F_csr_Read a.1 a.2.1,fun r:W .u32×W .i64=>(.tup [.val (.int .u32) r.1 (.no),.val (.int .i64) r.2 (.no)],[.undef,.undef])⟩
def t88:Tt:=tbl [(141,N87)]
def g89:=gx ⟨[0,1,2,3,6,7,8,13],[],[true,true],[]⟩ Tryz.f102
def N89:FnK tab:=⟨[.val (.named .TArch) (.no),.val (.int .i64) (.no),.val (.int .u32) (.no)],TArch×W .i64,fun a:TArch×W .i64×W .u32×Unit=>F_csr_Write a.1 a.2.1 a.2.2.1,fun r:TArch×W .i64=>(.tup [.val (.named .TArch) r.1 (.no),.val (.int .i64) r.2 (.no)],[.undef,.undef,.undef])⟩
def t89:Tt:=tbl [(62,N13),(141,N87)]
def g90:=gx ⟨[0,1,2,4,6,7,8,9,10,11,13,14,18,30,49,63,77,92,106,118,150,157],[0],[],[(0,[(0,.fz)])]⟩ Tryz.f61
def N90:FnK tab:=⟨[.box (.named .TWork) (.no),.val (.named .TInst) (.no),.val (.int .u32) (.no)],TWork,fun a:TWork×TInst×W .u32×Unit=>F_step_work_system a.1 a.2.1 a.2.2.1,fun r:TWork=>(.tup [],[.box 0 (.named .TWork) r (.no),.undef,.undef])⟩
def t90:Tt:=tbl [(95,N73),(97,N76),(100,N86),(101,N88),(102,N89)]
def g91:=gx ⟨[0,1,2,3,5,6,7,8,9,10,36,44,51,59,67],[],[true],[]⟩ Tryz.f27
def N91:FnK tab:=⟨[.val (.named .TMach) (.no),.val (.int .u32) (.no),.val (.named .TInst) (.no)],TWork,fun a:TMach×W .u32×TInst×Unit=>F_step_does a.1 a.2.1 a.2.2.1,fun r:TWork=>(.val (.named .TWork) r (.no),[.undef,.undef,.undef])⟩
def t91:Tt:=tbl [(56,N74),(57,N77),(58,N82),(59,N84),(60,N85),(61,N90)]
def g92:=gx ⟨[0,1,2,3,21],[],[true],[]⟩ Tryz.f28
def N92:FnK tab:=⟨[.val (.named .TArch) (.no)],TArch,fun a:TArch×Unit=>F_csr_Count a.1,fun r:TArch=>(.val (.named .TArch) r (.no),[.undef])⟩
def g93:=gx ⟨[0,1,2],[],[true],[]⟩ Tryz.f29
def N93:FnK tab:=⟨[.val (.named .TArch) (.no)],Bool,fun a:TArch×Unit=>F_trap_Single a.1,fun r:Bool=>(.val (.bool) r (.no),[.undef])⟩
def t93:Tt:=tbl [(26,N10)]
def g94:=gx ⟨[0,1,2,3,4,5,6,7,8,9,10,13,20,32,47,63,79,93,124],[],[true,true,true],[]⟩ Tryz.f8
def N94:FnK tab:=⟨[.val (.named .TMach) (.no)],TMach×TEvent×Bool,fun a:TMach×Unit=>F_step_Step a.1,fun r:TMach×TEvent×Bool=>(.tup [.val (.named .TMach) r.1 (.no),.val (.named .TEvent) r.2.1 (.no),.val (.bool) r.2.2 (.no)],[.undef])⟩
def t94:Tt:=tbl [(10,N38),(21,N12),(22,N16),(23,N17),(24,N49),(25,N50),(26,N10),(27,N91),(28,N92),(29,N93),(30,N15)]
def g95:=gx ⟨[0,1,4,5,10,12,13,14,24],[],[true],[(11,[(0,.any),(1,.any),(12,.any),(13,.any)]),(12,[(4,.any)]),(13,[(0,.any),(1,.any),(12,.any),(13,.any)])]⟩ Tryz.f47
def K95_11:MarkK tab:=⟨[(0,.val (.slice 1 (.int .u8)) (.no)),(1,.val (.slice 1 (.int .u8)) (.no)),(12,.val (.int .i64) (.no)),(13,.val (.int .i64) (.no))],[(.ret,[(4,.val (.bool) (.no))]),((.exit 0),[(4,.undef)])],L_step_alike_byte_11⟩
def N95:FnK tab:=⟨[.val (.slice 1 (.int .u8)) (.no),.val (.slice 1 (.int .u8)) (.no)],Bool,fun a:Sl 1 (W .u8)×Sl 1 (W .u8)×Unit=>F_step_alike_byte a.1 a.2.1,fun r:Bool=>(.val (.bool) r (.no),[.undef,.undef])⟩
def q95:Qt:=mtbl [(11,K95_11)]
def g96:=gx ⟨[0,1,4,5,10,12,13,14,24],[],[true],[(11,[(0,.any),(1,.any),(12,.any),(13,.any)]),(12,[(4,.any)]),(13,[(0,.any),(1,.any),(12,.any),(13,.any)])]⟩ Tryz.f48
def K96_11:MarkK tab:=⟨[(0,.val (.slice 4 (.int .u32)) (.no)),(1,.val (.slice 4 (.int .u32)) (.no)),(12,.val (.int .i64) (.no)),(13,.val (.int .i64) (.no))],[(.ret,[(4,.val (.bool) (.no))]),((.exit 0),[(4,.undef)])],L_step_alike_uint32_11⟩
def N96:FnK tab:=⟨[.val (.slice 4 (.int .u32)) (.no),.val (.slice 4 (.int .u32)) (.no)],Bool,fun a:Sl 4 (W .u32)×Sl 4 (W .u32)×Unit=>F_step_alike_uint32 a.1 a.2.1,fun r:Bool=>(.val (.bool) r (.no),[.undef,.undef])⟩
def q96:Qt:=mtbl [(11,K96_11)]
def g97:=gx ⟨[0,1,2,3,4],[],[true],[]⟩ Tryz.f15
def N97:FnK tab:=⟨[.val (.named .TMach) (.no),.val (.named .TMach) (.no)],Bool,fun a:TMach×TMach×Unit=>F_step_Same a.1 a.2.1,fun r:Bool=>(.val (.bool) r (.no),[.undef,.undef])⟩
def t97:Tt:=tbl [(47,N95),(48,N96)]
def g98:=gx ⟨[0,1,2],[],[true],[]⟩ Tryz.f16
def N98:FnK tab:=⟨[.val (.named .TMach) (.no)],TMach,fun a:TMach×Unit=>F_step_Copy a.1,fun r:TMach=>(.val (.named .TMach) r (.no),[.undef])⟩
def g99:=gx ⟨[0,1,2,3,4,5,15],[],[true],[]⟩ Tryz.f7
def N99:FnK tab:=⟨[],Bool,fun a:Unit=>F_law15_awake,fun r:Bool=>(.val (.bool) r (.no),[])⟩
def t99:Tt:=tbl [(8,N94),(13,N9),(15,N97),(16,N98),(20,N5)]
def g100:=gx ⟨[0,1,2],[],[true],[]⟩ Tryz.f36
def N100:FnK tab:=⟨[.val (.named .TArch) (.no)],Bool,fun a:TArch×Unit=>F_ref11_Kernel a.1,fun r:Bool=>(.val (.bool) r (.no),[.undef])⟩
def g101:=gx ⟨[0,1,2,4],[],[true],[]⟩ Tryz.f64
def N101:FnK tab:=⟨[.val (.named .TArch) (.no),.val (.int .u32) (.no)],Bool,fun a:TArch×W .u32×Unit=>F_ref14_Has a.1 a.2.1,fun r:Bool=>(.val (.bool) r (.no),[.undef,.undef])⟩
def g102:=gx ⟨[0,1,2,3,10,20,23,26],[],[true],[]⟩ Tryz.f31
def N102:FnK tab:=⟨[.val (.named .TArch) (.no)],W .i64,fun a:TArch×Unit=>F_ref14_Pending a.1,fun r:W .i64=>(.val (.int .i64) r (.no),[.undef])⟩
def t102:Tt:=tbl [(36,N100),(64,N101)]
def g103:=gx ⟨[0,1,2,6,7],[],[true],[]⟩ Tryz.f73
def N103:FnK tab:=⟨[.val (.int .u32) (.no),.val (.int .u32) (.no),.val (.bool) (.no)],W .u32,fun a:W .u32×W .u32×Bool×Unit=>F_ref14_put a.1 a.2.1 a.2.2.1,fun r:W .u32=>(.val (.int .u32) r (.no),[.undef,.undef,.undef])⟩
def g104:=gx ⟨[0,1,2,3,4,8,9,10],[],[true],[]⟩ Tryz.f40
def N104:FnK tab:=⟨[.val (.named .TArch) (.no),.val (.int .i64) (.no),.val (.int .u32) (.no),.val (.int .u32) (.no)],TArch,fun a:TArch×W .i64×W .u32×W .u32×Unit=>F_ref14_Take a.1 a.2.1 a.2.2.1 a.2.2.2.1,fun r:TArch=>(.val (.named .TArch) r (.no),[.undef,.undef,.undef,.undef])⟩
def t104:Tt:=tbl [(50,N2),(73,N103)]
def g105:=gx ⟨[0,1,2,3,4,8,9,10,11],[],[true,true,true],[]⟩ Tryz.f32
def N105:FnK tab:=⟨[.val (.named .TMach) (.no),.val (.int .u32) (.no),.val (.int .i64) (.no),.val (.int .u32) (.no)],TMach×TEvent×Bool,fun a:TMach×W .u32×W .i64×W .u32×Unit=>F_ref15_trapped a.1 a.2.1 a.2.2.1 a.2.2.2.1,fun r:TMach×TEvent×Bool=>(.tup [.val (.named .TMach) r.1 (.no),.val (.named .TEvent) r.2.1 (.no),.val (.bool) r.2.2 (.no)],[.undef,.undef,.undef,.undef])⟩
def t105:Tt:=tbl [(40,N104)]
def g106:=gx ⟨[0,1,2,4],[],[true],[]⟩ Tryz.f33
def N106:FnK tab:=⟨[.val (.named .TArch) (.no),.val (.int .u32) (.no)],Bool,fun a:TArch×W .u32×Unit=>F_ref14_Stops a.1 a.2.1,fun r:Bool=>(.val (.bool) r (.no),[.undef,.undef])⟩
def t106:Tt:=tbl [(36,N100)]
def g107:=gx ⟨[0,1,4],[],[true],[]⟩ Tryz.f78
def N107:FnK tab:=⟨[.val (.int .u32) (.no),.val (.int .i64) (.no)],Bool,fun a:W .u32×W .i64×Unit=>F_ref01_Aligned a.1 a.2.1,fun r:Bool=>(.val (.bool) r (.no),[.undef,.undef])⟩
def g108:=gx ⟨[0,1,2],[],[true],[]⟩ Tryz.f123
def N108:FnK tab:=⟨[.val (.named .TArch) (.no)],Bool,fun a:TArch×Unit=>F_ref13_Paged a.1,fun r:Bool=>(.val (.bool) r (.no),[.undef])⟩
def t108:Tt:=tbl [(36,N100)]
def g109:=gx ⟨[0,2,3,4,6,8],[],[true],[]⟩ Tryz.f124
def N109:FnK tab:=⟨[.val (.int .i64) (.no)],W .i64,fun a:W .i64×Unit=>F_ref13_Fault a.1,fun r:W .i64=>(.val (.int .i64) r (.no),[.undef])⟩
def g110:=gx ⟨[0,1,4,6,12],[],[true],[]⟩ Tryz.f158
def N110:FnK tab:=⟨[.val (.int .u32) (.no),.val (.int .i64) (.no)],W .i64,fun a:W .u32×W .i64×Unit=>F_ref12_Index a.1 a.2.1,fun r:W .i64=>(.val (.int .i64) r (.no),[.undef,.undef])⟩
def g111:=gx ⟨[0,1,2,6,25],[],[true],[]⟩ Tryz.f80
def N111:FnK tab:=⟨[.val (.slice 1 (.int .u8)) (.no),.val (.int .u32) (.no),.val (.int .i64) (.no)],W .i64,fun a:Sl 1 (W .u8)×W .u32×W .i64×Unit=>F_ref10_Check a.1 a.2.1 a.2.2.1,fun r:W .i64=>(.val (.int .i64) r (.no),[.undef,.undef,.undef])⟩
def g112:=gx ⟨[0,1,2,6,7,8,9,10,16,21],[],[true,true],[(15,[(0,.any),(1,.any),(9,.any),(10,.any)]),(16,[(9,.any)]),(17,[(0,.any),(1,.any),(9,.any),(10,.any)])]⟩ Tryz.f44
def K112_15:MarkK tab:=⟨[(0,.val (.slice 1 (.int .u8)) (.no)),(1,.val (.int .u32) (.no)),(9,.val (.int .u32) (.no)),(10,.val (.int .i64) (.no))],[((.exit 0),[(9,.val (.int .u32) (.no))])],L_ref10_Read_15⟩
def N112:FnK tab:=⟨[.val (.slice 1 (.int .u8)) (.no),.val (.int .u32) (.no),.val (.int .i64) (.no)],W .u32×W .i64,fun a:Sl 1 (W .u8)×W .u32×W .i64×Unit=>F_ref10_Read a.1 a.2.1 a.2.2.1,fun r:W .u32×W .i64=>(.tup [.val (.int .u32) r.1 (.no),.val (.int .i64) r.2 (.no)],[.undef,.undef,.undef])⟩
def t112:Tt:=tbl [(80,N111)]
def q112:Qt:=mtbl [(15,K112_15)]
def g113:=gx ⟨[0,2],[],[true],[]⟩ Tryz.f159
def N113:FnK tab:=⟨[.val (.int .u32) (.no)],TPte,fun a:W .u32×Unit=>F_ref12_Of a.1,fun r:TPte=>(.val (.named .TPte) r (.no),[.undef])⟩
def g114:=gx ⟨[0,1,4,5,8],[],[true],[(5,[(0,.any),(1,.any),(5,.any)]),(6,[(0,.any)]),(7,[(0,.any),(1,.any),(5,.any)])]⟩ Tryz.f161
def K114_5:MarkK tab:=⟨[(0,.val (.int .u32) (.no)),(1,.val (.int .i64) (.no)),(5,.val (.int .i64) (.no))],[((.exit 0),[(0,.val (.int .u32) (.no))])],L_ref12_bit_5⟩
def N114:FnK tab:=⟨[.val (.int .u32) (.no),.val (.int .i64) (.no)],Bool,fun a:W .u32×W .i64×Unit=>F_ref12_bit a.1 a.2.1,fun r:Bool=>(.val (.bool) r (.no),[.undef,.undef])⟩
def q114:Qt:=mtbl [(5,K114_5)]
def g115:=gx ⟨[0,1,2],[],[true],[]⟩ Tryz.f160
def N115:FnK tab:=⟨[.val (.named .TPte) (.no)],Bool,fun a:TPte×Unit=>F_ref12_Leaf a.1,fun r:Bool=>(.val (.bool) r (.no),[.undef])⟩
def t115:Tt:=tbl [(161,N114)]
def g116:=gx ⟨[0,1,2,6,7,8,9,10,11,12,13,15,30,43,62,79],[],[true,true,true],[]⟩ Tryz.f125
def N116:FnK tab:=⟨[.val (.slice 1 (.int .u8)) (.no),.val (.int .u32) (.no),.val (.int .u32) (.no)],TPte×Sl 4 (W .u32)×Bool,fun a:Sl 1 (W .u8)×W .u32×W .u32×Unit=>F_ref13_Walk a.1 a.2.1 a.2.2.1,fun r:TPte×Sl 4 (W .u32)×Bool=>(.tup [.val (.named .TPte) r.1 (.no),.val (.slice 4 (.int .u32)) r.2.1 (.no),.val (.bool) r.2.2 (.no)],[.undef,.undef,.undef])⟩
def t116:Tt:=tbl [(44,N112),(158,N110),(159,N113),(160,N115)]
def g117:=gx ⟨[0,1,2,3,6,26,27,28,33,38],[],[true],[]⟩ Tryz.f126
def N117:FnK tab:=⟨[.val (.named .TPte) (.no),.val (.int .i64) (.no),.val (.bool) (.no)],Bool,fun a:TPte×W .i64×Bool×Unit=>F_ref12_Allows a.1 a.2.1 a.2.2.1,fun r:Bool=>(.val (.bool) r (.no),[.undef,.undef,.undef])⟩
def t117:Tt:=tbl [(161,N114)]
def g118:=gx ⟨[0,2,3,7],[],[true],[]⟩ Tryz.f162
def N118:FnK tab:=⟨[.val (.int .i64) (.no)],W .u32,fun a:W .i64×Unit=>F_ref12_page a.1,fun r:W .u32=>(.val (.int .u32) r (.no),[.undef])⟩
def g119:=gx ⟨[0,1,2,4],[],[true],[]⟩ Tryz.f127
def N119:FnK tab:=⟨[.val (.named .TPte) (.no),.val (.int .u32) (.no)],W .u32,fun a:TPte×W .u32×Unit=>F_ref12_Addr a.1 a.2.1,fun r:W .u32=>(.val (.int .u32) r (.no),[.undef,.undef])⟩
def t119:Tt:=tbl [(162,N118)]
def g120:=gx ⟨[0,1,2,3,4,8,9,10,12,15,22,42],[],[true,true],[]⟩ Tryz.f79
def N120:FnK tab:=⟨[.val (.named .TArch) (.no),.val (.slice 1 (.int .u8)) (.no),.val (.int .u32) (.no),.val (.int .i64) (.no)],W .u32×W .i64,fun a:TArch×Sl 1 (W .u8)×W .u32×W .i64×Unit=>F_ref13_Trans a.1 a.2.1 a.2.2.1 a.2.2.2.1,fun r:W .u32×W .i64=>(.tup [.val (.int .u32) r.1 (.no),.val (.int .i64) r.2 (.no)],[.undef,.undef,.undef,.undef])⟩
def t120:Tt:=tbl [(123,N108),(124,N109),(125,N116),(126,N117),(127,N119)]
def g121:=gx ⟨[0,1,2,3,4,5,10,11,12,13,17,29,36],[],[true,true],[]⟩ Tryz.f43
def N121:FnK tab:=⟨[.val (.named .TMach) (.no),.val (.slice 1 (.int .u8)) (.no),.val (.int .u32) (.no),.val (.int .i64) (.no),.val (.int .i64) (.no)],W .u32×W .i64,fun a:TMach×Sl 1 (W .u8)×W .u32×W .i64×W .i64×Unit=>F_ref15_Access a.1 a.2.1 a.2.2.1 a.2.2.2.1 a.2.2.2.2.1,fun r:W .u32×W .i64=>(.tup [.val (.int .u32) r.1 (.no),.val (.int .i64) r.2 (.no)],[.undef,.undef,.undef,.undef,.undef])⟩
def t121:Tt:=tbl [(78,N107),(79,N120),(80,N111)]
def g122:=gx ⟨[0,1,2,3,4,5,6,19],[],[true,true],[]⟩ Tryz.f11
def N122:FnK tab:=⟨[.val (.named .TMach) (.no)],W .u32×W .i64,fun a:TMach×Unit=>F_ref15_Fetch a.1,fun r:W .u32×W .i64=>(.tup [.val (.int .u32) r.1 (.no),.val (.int .i64) r.2 (.no)],[.undef])⟩
def t122:Tt:=tbl [(43,N121),(44,N112)]
def g123:=gx ⟨[0,2,3,12,19,34,39,46,53,60,63,66,71],[],[true],[(3,[(0,.any),(3,.any)]),(4,[(0,.any),(3,.any)]),(5,[(0,.any),(3,.any)]),(6,[(2,.any)]),(9,[(0,.any),(12,.any)]),(10,[(2,.any)]),(13,[(0,.any),(19,.any)]),(14,[(0,.any),(19,.any)]),(15,[(0,.any),(19,.any)]),(16,[(0,.any),(19,.any)]),(17,[(0,.any),(19,.any)]),(18,[(2,.any)]),(23,[(0,.any),(34,.any)]),(24,[(2,.any)]),(27,[(0,.any),(39,.any)]),(28,[(2,.any)]),(31,[(0,.any),(46,.any)]),(32,[(2,.any)]),(35,[(0,.any),(53,.any)]),(36,[(2,.any)]),(49,[(0,.any),(66,.any)]),(50,[(2,.any)]),(63,[(71,.any)]),(64,[(2,.any)]),(67,[]),(68,[(2,.any)])]⟩ Tryz.f65
def K123_3:MarkK tab:=⟨[(0,.val (.int .i64) (.no)),(3,.val (.bool) (.no))],[(.normal,[(0,.val (.int .i64) (.no)),(3,.val (.bool) (.no))])],L_ref06_Form_3⟩
def K123_15:MarkK tab:=⟨[(0,.val (.int .i64) (.no)),(19,.val (.bool) (.no))],[(.normal,[(0,.val (.int .i64) (.no)),(19,.val (.bool) (.no))])],L_ref06_Form_15⟩
def K123_13:MarkK tab:=⟨[(0,.val (.int .i64) (.no)),(19,.val (.bool) (.no))],[(.normal,[(0,.val (.int .i64) (.no)),(19,.val (.bool) (.no))])],L_ref06_Form_13⟩
def K123_63:MarkK tab:=⟨[(71,.val (.bool) (.no))],[(.ret,[(2,.val (.int .i64) (.no))]),(.normal,[(2,.undef)])],L_ref06_Form_63⟩
def K123_49:MarkK tab:=⟨[(0,.val (.int .i64) (.no)),(66,.val (.bool) (.no))],[(.ret,[(2,.val (.int .i64) (.no))]),(.normal,[(2,.undef)])],L_ref06_Form_49⟩
def K123_35:MarkK tab:=⟨[(0,.val (.int .i64) (.no)),(53,.val (.bool) (.no))],[(.ret,[(2,.val (.int .i64) (.no))]),(.normal,[(2,.undef)])],L_ref06_Form_35⟩
def K123_31:MarkK tab:=⟨[(0,.val (.int .i64) (.no)),(46,.val (.bool) (.no))],[(.ret,[(2,.val (.int .i64) (.no))]),(.normal,[(2,.undef)])],L_ref06_Form_31⟩
def K123_27:MarkK tab:=⟨[(0,.val (.int .i64) (.no)),(39,.val (.bool) (.no))],[(.ret,[(2,.val (.int .i64) (.no))]),(.normal,[(2,.undef)])],L_ref06_Form_27⟩
def K123_23:MarkK tab:=⟨[(0,.val (.int .i64) (.no)),(34,.val (.bool) (.no))],[(.ret,[(2,.val (.int .i64) (.no))]),(.normal,[(2,.undef)])],L_ref06_Form_23⟩
def K123_17:MarkK tab:=⟨[(0,.val (.int .i64) (.no)),(19,.val (.bool) (.no))],[(.ret,[(2,.val (.int .i64) (.no))]),(.normal,[(2,.undef)])],L_ref06_Form_17⟩
def K123_9:MarkK tab:=⟨[(0,.val (.int .i64) (.no)),(12,.val (.bool) (.no))],[(.ret,[(2,.val (.int .i64) (.no))]),(.normal,[(2,.undef)])],L_ref06_Form_9⟩
def K123_5:MarkK tab:=⟨[(0,.val (.int .i64) (.no)),(3,.val (.bool) (.no))],[(.ret,[(2,.val (.int .i64) (.no))]),(.normal,[(2,.undef)])],L_ref06_Form_5⟩
def K123_67:MarkK tab:=⟨[],[(.ret,[(2,.val (.int .i64) (.no))])],L_ref06_Form_67⟩
def N123:FnK tab:=⟨[.val (.int .i64) (.no)],W .i64,fun a:W .i64×Unit=>F_ref06_Form a.1,fun r:W .i64=>(.val (.int .i64) r (.no),[.undef])⟩
def q123:Qt:=mtbl [(3,K123_3),(15,K123_15),(13,K123_13),(63,K123_63),(49,K123_49),(35,K123_35),(31,K123_31),(27,K123_27),(23,K123_23),(17,K123_17),(9,K123_9),(5,K123_5),(67,K123_67)]
def g124:=gx ⟨[0,1,4,5,6,30,62],[],[true],[]⟩ Tryz.f104
def N124:FnK tab:=⟨[.val (.int .i64) (.no),.val (.int .i64) (.no)],Bool,fun a:W .i64×W .i64×Unit=>F_ref06_Has a.1 a.2.1,fun r:Bool=>(.val (.bool) r (.no),[.undef,.undef])⟩
def g125:=gx ⟨[0,1,4],[],[true],[]⟩ Tryz.f103
def N125:FnK tab:=⟨[.val (.bool) (.no),.val (.int .i64) (.no)],Bool,fun a:Bool×W .i64×Unit=>F_ref06_reg a.1 a.2.1,fun r:Bool=>(.val (.bool) r (.no),[.undef,.undef])⟩
def g126:=gx ⟨[0,1,4,10,18,26],[],[true],[]⟩ Tryz.f105
def N126:FnK tab:=⟨[.val (.int .i64) (.no),.val (.int .i64) (.no)],Bool,fun a:W .i64×W .i64×Unit=>F_ref06_imm a.1 a.2.1,fun r:Bool=>(.val (.bool) r (.no),[.undef,.undef])⟩
def g127:=gx ⟨[0,1,2,3,8,40,50],[],[true],[]⟩ Tryz.f66
def N127:FnK tab:=⟨[.val (.named .TInst) (.no)],W .i64,fun a:TInst×Unit=>F_ref06_Right a.1,fun r:W .i64=>(.val (.int .i64) r (.no),[.undef])⟩
def t127:Tt:=tbl [(65,N123),(103,N125),(104,N124),(105,N126)]
def g128:=gx ⟨[0,2,3,4,5,29,32,45,52,59],[],[true,true],[]⟩ Tryz.f34
def N128:FnK tab:=⟨[.val (.int .u32) (.no)],TInst×W .i64,fun a:W .u32×Unit=>F_ref06_Dec a.1,fun r:TInst×W .i64=>(.tup [.val (.named .TInst) r.1 (.no),.val (.int .i64) r.2 (.no)],[.undef])⟩
def t128:Tt:=tbl [(65,N123),(66,N127)]
def g129:=gx ⟨[0,2],[],[true],[]⟩ Tryz.f35
def N129:FnK tab:=⟨[.val (.int .i64) (.no)],Bool,fun a:W .i64×Unit=>F_ref06_Priv a.1,fun r:Bool=>(.val (.bool) r (.no),[.undef])⟩
def g130:=gx ⟨[0,1,2],[],[true],[]⟩ Tryz.f37
def N130:FnK tab:=⟨[.val (.named .TArch) (.no)],Bool,fun a:TArch×Unit=>F_ref14_Single a.1,fun r:Bool=>(.val (.bool) r (.no),[.undef])⟩
def t130:Tt:=tbl [(36,N100),(64,N101)]
def g131:=gx ⟨[0,2,3,4,8],[],[true],[]⟩ Tryz.f106
def N131:FnK tab:=⟨[.val (.int .i64) (.no)],W .i64,fun a:W .i64×Unit=>F_ref15_Size a.1,fun r:W .i64=>(.val (.int .i64) r (.no),[.undef])⟩
def g132:=gx ⟨[0,1,2,6,9,13],[],[true],[]⟩ Tryz.f142
def N132:FnK tab:=⟨[.val (.int .i64) (.no),.val (.int .i64) (.no),.val (.int .i64) (.no)],W .i64,fun a:W .i64×W .i64×W .i64×Unit=>F_ref01_brought a.1 a.2.1 a.2.2.1,fun r:W .i64=>(.val (.int .i64) r (.no),[.undef,.undef,.undef])⟩
def g133:=gx ⟨[0,2,3,4,7],[],[true],[(7,[(0,.any),(3,.any),(4,.any)]),(8,[(3,.any)]),(9,[(0,.any),(3,.any),(4,.any)])]⟩ Tryz.f144
def K133_7:MarkK tab:=⟨[(0,.val (.int .i64) (.no)),(3,.val (.int .u32) (.no)),(4,.val (.int .i64) (.no))],[((.exit 0),[(3,.val (.int .u32) (.no))])],L_ref01_power_7⟩
def N133:FnK tab:=⟨[.val (.int .i64) (.no)],W .u32,fun a:W .i64×Unit=>F_ref01_power a.1,fun r:W .u32=>(.val (.int .u32) r (.no),[.undef])⟩
def q133:Qt:=mtbl [(7,K133_7)]
def g134:=gx ⟨[0,1,4],[],[true],[]⟩ Tryz.f143
def N134:FnK tab:=⟨[.val (.int .u32) (.no),.val (.int .i64) (.no)],W .u32,fun a:W .u32×W .i64×Unit=>F_ref01_bit a.1 a.2.1,fun r:W .u32=>(.val (.int .u32) r (.no),[.undef,.undef])⟩
def t134:Tt:=tbl [(144,N133)]
def g135:=gx ⟨[0,1,4,5,6,11],[],[true],[(9,[(0,.any),(1,.any),(5,.any),(6,.any)]),(10,[(5,.any)]),(11,[(0,.any),(1,.any),(5,.any),(6,.any)])]⟩ Tryz.f107
def K135_9:MarkK tab:=⟨[(0,.val (.int .u32) (.no)),(1,.val (.int .i64) (.no)),(5,.val (.int .u32) (.no)),(6,.val (.int .i64) (.no))],[((.exit 0),[(5,.val (.int .u32) (.no))])],L_ref01_Zext_9⟩
def N135:FnK tab:=⟨[.val (.int .u32) (.no),.val (.int .i64) (.no)],W .u32,fun a:W .u32×W .i64×Unit=>F_ref01_Zext a.1 a.2.1,fun r:W .u32=>(.val (.int .u32) r (.no),[.undef,.undef])⟩
def t135:Tt:=tbl [(142,N132),(143,N134),(144,N133)]
def q135:Qt:=mtbl [(9,K135_9)]
def g136:=gx ⟨[0,1,2,3,8,9,10,11,12,18,25],[],[true,true],[(15,[(1,.any),(2,.any),(3,.any),(11,.any),(12,.any)]),(16,[(11,.any)]),(17,[(1,.any),(2,.any),(3,.any),(11,.any),(12,.any)])]⟩ Tryz.f108
def K136_15:MarkK tab:=⟨[(1,.val (.int .u32) (.no)),(2,.val (.int .i64) (.no)),(3,.val (.int .u32) (.no)),(11,.val (.slice 1 (.int .u8)) (.yes 0)),(12,.val (.int .i64) (.no))],[((.exit 0),[(11,.val (.slice 1 (.int .u8)) (.yes 0))])],L_ref10_Write_15⟩
def N136:FnK tab:=⟨[.val (.slice 1 (.int .u8)) (.no),.val (.int .u32) (.no),.val (.int .i64) (.no),.val (.int .u32) (.no)],Sl 1 (W .u8)×W .i64,fun a:Sl 1 (W .u8)×W .u32×W .i64×W .u32×Unit=>F_ref10_Write a.1 a.2.1 a.2.2.1 a.2.2.2.1,fun r:Sl 1 (W .u8)×W .i64=>(.tup [.val (.slice 1 (.int .u8)) r.1 (.no),.val (.int .i64) r.2 (.no)],[.undef,.undef,.undef,.undef])⟩
def t136:Tt:=tbl [(80,N111)]
def q136:Qt:=mtbl [(15,K136_15)]
def g137:=gx ⟨[0,1,4,5,6,20,24],[],[true],[(15,[(5,.any),(6,.any)]),(16,[(5,.any)]),(17,[(5,.any),(6,.any)])]⟩ Tryz.f109
def K137_15:MarkK tab:=⟨[(5,.val (.int .u32) (.no)),(6,.val (.int .i64) (.no))],[((.exit 0),[(5,.val (.int .u32) (.no))])],L_ref01_Sext_15⟩
def N137:FnK tab:=⟨[.val (.int .u32) (.no),.val (.int .i64) (.no)],W .u32,fun a:W .u32×W .i64×Unit=>F_ref01_Sext a.1 a.2.1,fun r:W .u32=>(.val (.int .u32) r (.no),[.undef,.undef])⟩
def t137:Tt:=tbl [(107,N135),(142,N132),(143,N134),(144,N133)]
def q137:Qt:=mtbl [(15,K137_15)]
def g138:=gx ⟨[0,1,2,3,4,5,8,9,11],[],[true,true],[]⟩ Tryz.f71
def N138:FnK tab:=⟨[.val (.named .TMach) (.no),.val (.named .TEvent) (.no),.val (.int .i64) (.no),.val (.int .u32) (.no)],TMach×TEvent,fun a:TMach×TEvent×W .i64×W .u32×Unit=>F_ref15_write a.1 a.2.1 a.2.2.1 a.2.2.2.1,fun r:TMach×TEvent=>(.tup [.val (.named .TMach) r.1 (.no),.val (.named .TEvent) r.2 (.no)],[.undef,.undef,.undef,.undef])⟩
def g139:=gx ⟨[0,1,2,3,4,5,6,7,8,9,10,11,12,13,14,15,16,17,19,34,41,53,66,110,129],[],[true,true,true,true],[(9,[(3,.any),(4,.any),(5,.any),(6,.any),(7,.any),(10,.any),(11,.any)]),(10,[(6,.any),(7,.any),(8,.any),(9,.any)]),(17,[(3,.any),(4,.any),(5,.any),(6,.any),(7,.any),(10,.any),(11,.any),(12,.any),(13,.any)]),(18,[(6,.any),(7,.any),(8,.any),(9,.any)]),(25,[(3,.any),(4,.any),(5,.any),(6,.any),(7,.any),(10,.any),(12,.any),(14,.any)]),(26,[(6,.any),(7,.any),(8,.any),(9,.any)]),(45,[(3,.any),(4,.any),(5,.any),(6,.any),(7,.any),(10,.any),(12,.any),(14,.any)]),(46,[(6,.any),(7,.any),(8,.any),(9,.any)]),(49,[(3,.any),(4,.any),(5,.any),(6,.any),(7,.any),(10,.any),(12,.any),(19,.any),(110,.any)]),(50,[(3,.any),(4,.any),(5,.any),(6,.any),(7,.any),(10,.any),(19,.any)]),(51,[(3,.any),(4,.any),(5,.any),(6,.any),(7,.any),(10,.any),(19,.any)]),(52,[(6,.any),(7,.any),(8,.any),(9,.any)]),(53,[(3,.any),(4,.any),(5,.any),(6,.any),(7,.any),(10,.any),(19,.any),(129,.any)]),(54,[(3,.any),(4,.any),(5,.any),(6,.any),(7,.any),(19,.any)]),(59,[(3,.any),(4,.any),(5,.any),(6,.any),(7,.any),(19,.any)]),(60,[(6,.any),(7,.any),(8,.any),(9,.any)])]⟩ Tryz.f67
def K139_49:MarkK tab:=⟨[(3,.box (.named .TMach) (.no)),(4,.box (.named .TEvent) (.no)),(5,.box (.named .TInst) (.no)),(6,.box (.named .TMach) (.st [.no,.yes 0,.yes 0,.yes 0])),(7,.box (.named .TEvent) (.no)),(10,.val (.int .u32) (.no)),(12,.val (.int .i64) (.no)),(19,.val (.int .u32) (.no)),(110,.val (.bool) (.no))],[(.normal,[(3,.box (.named .TMach) (.no)),(4,.box (.named .TEvent) (.no)),(5,.box (.named .TInst) (.no)),(6,.box (.named .TMach) (.st [.no,.yes 0,.yes 0,.yes 0])),(7,.box (.named .TEvent) (.no)),(10,.val (.int .u32) (.no)),(19,.val (.int .u32) (.no))])],L_ref15_memory_49⟩
def K139_53:MarkK tab:=⟨[(3,.box (.named .TMach) (.no)),(4,.box (.named .TEvent) (.no)),(5,.box (.named .TInst) (.no)),(6,.box (.named .TMach) (.st [.no,.yes 0,.yes 0,.yes 0])),(7,.box (.named .TEvent) (.no)),(10,.val (.int .u32) (.no)),(19,.val (.int .u32) (.no)),(129,.val (.bool) (.no))],[(.normal,[(3,.box (.named .TMach) (.no)),(4,.box (.named .TEvent) (.no)),(5,.box (.named .TInst) (.no)),(6,.box (.named .TMach) (.st [.no,.yes 0,.yes 0,.yes 0])),(7,.box (.named .TEvent) (.no)),(19,.val (.int .u32) (.no))])],L_ref15_memory_53⟩
def K139_59:MarkK tab:=⟨[(3,.box (.named .TMach) (.no)),(4,.box (.named .TEvent) (.no)),(5,.box (.named .TInst) (.no)),(6,.box (.named .TMach) (.st [.no,.yes 0,.yes 0,.yes 0])),(7,.box (.named .TEvent) (.no)),(19,.val (.int .u32) (.no))],[(.ret,[(6,.box (.named .TMach) (.no)),(7,.box (.named .TEvent) (.no)),(8,.val (.int .i64) (.no)),(9,.val (.int .u32) (.no))])],L_ref15_memory_59⟩
def K139_51:MarkK tab:=⟨[(3,.box (.named .TMach) (.no)),(4,.box (.named .TEvent) (.no)),(5,.box (.named .TInst) (.no)),(6,.box (.named .TMach) (.st [.no,.yes 0,.yes 0,.yes 0])),(7,.box (.named .TEvent) (.no)),(10,.val (.int .u32) (.no)),(19,.val (.int .u32) (.no))],[(.ret,[(6,.box (.named .TMach) (.no)),(7,.box (.named .TEvent) (.no)),(8,.val (.int .i64) (.no)),(9,.val (.int .u32) (.no))])],L_ref15_memory_51⟩
def K139_45:MarkK tab:=⟨[(3,.box (.named .TMach) (.no)),(4,.box (.named .TEvent) (.no)),(5,.box (.named .TInst) (.no)),(6,.box (.named .TMach) (.st [.no,.yes 0,.yes 0,.yes 0])),(7,.box (.named .TEvent) (.no)),(10,.val (.int .u32) (.no)),(12,.val (.int .i64) (.no)),(14,.val (.int .u32) (.no))],[(.ret,[(6,.box (.named .TMach) (.no)),(7,.box (.named .TEvent) (.no)),(8,.val (.int .i64) (.no)),(9,.val (.int .u32) (.no))])],L_ref15_memory_45⟩
def K139_25:MarkK tab:=⟨[(3,.box (.named .TMach) (.no)),(4,.box (.named .TEvent) (.no)),(5,.box (.named .TInst) (.no)),(6,.box (.named .TMach) (.st [.no,.yes 0,.yes 0,.yes 0])),(7,.box (.named .TEvent) (.no)),(10,.val (.int .u32) (.no)),(12,.val (.int .i64) (.no)),(14,.val (.int .u32) (.no))],[(.ret,[(6,.box (.named .TMach) (.no)),(7,.box (.named .TEvent) (.no)),(8,.val (.int .i64) (.no)),(9,.val (.int .u32) (.no))])],L_ref15_memory_25⟩
def K139_17:MarkK tab:=⟨[(3,.box (.named .TMach) (.no)),(4,.box (.named .TEvent) (.no)),(5,.box (.named .TInst) (.no)),(6,.box (.named .TMach) (.st [.no,.yes 0,.yes 0,.yes 0])),(7,.box (.named .TEvent) (.no)),(10,.val (.int .u32) (.no)),(11,.val (.int .u32) (.no)),(12,.val (.int .i64) (.no)),(13,.val (.int .i64) (.no))],[(.ret,[(6,.box (.named .TMach) (.no)),(7,.box (.named .TEvent) (.no)),(8,.val (.int .i64) (.no)),(9,.val (.int .u32) (.no))])],L_ref15_memory_17⟩
def K139_9:MarkK tab:=⟨[(3,.box (.named .TMach) (.no)),(4,.box (.named .TEvent) (.no)),(5,.box (.named .TInst) (.no)),(6,.box (.named .TMach) (.st [.no,.yes 0,.yes 0,.yes 0])),(7,.box (.named .TEvent) (.no)),(10,.val (.int .u32) (.no)),(11,.val (.int .u32) (.no))],[(.ret,[(6,.box (.named .TMach) (.no)),(7,.box (.named .TEvent) (.no)),(8,.val (.int .i64) (.no)),(9,.val (.int .u32) (.no))])],L_ref15_memory_9⟩
def N139:FnK tab:=⟨[.val (.named .TMach) (.no),.val (.named .TEvent) (.no),.val (.named .TInst) (.no)],TMach×TEvent×W .i64×W .u32,fun a:TMach×TEvent×TInst×Unit=>F_ref15_memory a.1 a.2.1 a.2.2.1,fun r:TMach×TEvent×W .i64×W .u32=>(.tup [.val (.named .TMach) r.1 (.no),.val (.named .TEvent) r.2.1 (.no),.val (.int .i64) r.2.2.1 (.no),.val (.int .u32) r.2.2.2 (.no)],[.undef,.undef,.undef])⟩
def t139:Tt:=tbl [(43,N121),(44,N112),(71,N138),(106,N131),(107,N135),(108,N136),(109,N137)]
def q139:Qt:=mtbl [(49,K139_49),(53,K139_53),(59,K139_59),(51,K139_51),(45,K139_45),(25,K139_25),(17,K139_17),(9,K139_9)]
def g140:=gx ⟨[0,1,2,3,4,5,6,7,8,9,10,11,12,13,15,16,33,59,75],[],[true,true,true,true],[]⟩ Tryz.f68
def N140:FnK tab:=⟨[.val (.named .TMach) (.no),.val (.named .TEvent) (.no),.val (.named .TInst) (.no)],TMach×TEvent×W .i64×W .u32,fun a:TMach×TEvent×TInst×Unit=>F_ref15_atomic a.1 a.2.1 a.2.2.1,fun r:TMach×TEvent×W .i64×W .u32=>(.tup [.val (.named .TMach) r.1 (.no),.val (.named .TEvent) r.2.1 (.no),.val (.int .i64) r.2.2.1 (.no),.val (.int .u32) r.2.2.2 (.no)],[.undef,.undef,.undef])⟩
def t140:Tt:=tbl [(43,N121),(44,N112),(71,N138),(108,N136)]
def g141:=gx ⟨[0,1,2,3,4,5,8],[],[true,true],[]⟩ Tryz.f110
def N141:FnK tab:=⟨[.val (.named .TArch) (.no)],TArch×W .i64,fun a:TArch×Unit=>F_ref14_Return a.1,fun r:TArch×W .i64=>(.tup [.val (.named .TArch) r.1 (.no),.val (.int .i64) r.2 (.no)],[.undef])⟩
def t141:Tt:=tbl [(36,N100),(73,N103)]
def g142:=gx ⟨[0,1,2,4,5,12,18],[],[true,true],[]⟩ Tryz.f111
def N142:FnK tab:=⟨[.val (.named .TArch) (.no),.val (.int .i64) (.no)],W .u32×W .i64,fun a:TArch×W .i64×Unit=>F_ref11_Read a.1 a.2.1,fun r:W .u32×W .i64=>(.tup [.val (.int .u32) r.1 (.no),.val (.int .i64) r.2 (.no)],[.undef,.undef])⟩
def t142:Tt:=tbl [(36,N100)]
def g143:=gx ⟨[0,1,2,3,6,7,10,17],[],[true,true],[]⟩ Tryz.f112
def N143:FnK tab:=⟨[.val (.named .TArch) (.no),.val (.int .i64) (.no),.val (.int .u32) (.no)],TArch×W .i64,fun a:TArch×W .i64×W .u32×Unit=>F_ref11_Write a.1 a.2.1 a.2.2.1,fun r:TArch×W .i64=>(.tup [.val (.named .TArch) r.1 (.no),.val (.int .i64) r.2 (.no)],[.undef,.undef,.undef])⟩
def t143:Tt:=tbl [(36,N100),(50,N2)]
def g144:=gx ⟨[0,1,2,3,4,5,6,7,8,9,10,11,12,13,14,15,16,25,30,38,50,60,77,88,98,106,122,127],[],[true,true,true,true],[(9,[(3,.any),(4,.any),(5,.any),(6,.any),(7,.any),(10,.any)]),(10,[(6,.any),(7,.any),(8,.any),(9,.any)]),(19,[(3,.any),(4,.any),(6,.any),(7,.any),(11,.any)]),(20,[(6,.any),(7,.any),(8,.any),(9,.any)]),(25,[(3,.any),(4,.any),(5,.any),(6,.any),(7,.any),(10,.any)]),(26,[(6,.any),(7,.any),(8,.any),(9,.any)]),(35,[(3,.any),(4,.any),(5,.any),(6,.any),(7,.any),(10,.any),(13,.any)]),(36,[(3,.any),(4,.any),(5,.any),(6,.any),(7,.any),(10,.any)]),(37,[(3,.any),(4,.any),(5,.any),(6,.any),(7,.any),(10,.any)]),(38,[(6,.any),(7,.any),(8,.any),(9,.any)]),(47,[(3,.any),(4,.any),(5,.any),(6,.any),(7,.any),(10,.any),(15,.any)]),(48,[(3,.any),(4,.any),(5,.any),(6,.any),(7,.any),(10,.any)]),(49,[(3,.any),(4,.any),(5,.any),(6,.any),(7,.any),(10,.any)]),(50,[(6,.any),(7,.any),(8,.any),(9,.any)]),(53,[(3,.fz),(4,.any),(5,.any),(6,.any),(7,.any),(10,.any)]),(54,[(6,.any),(7,.any),(8,.any),(9,.any)]),(57,[(3,.fz),(4,.any),(5,.any),(6,.any),(7,.any),(10,.any)]),(58,[(6,.any),(7,.any),(8,.any),(9,.any)]),(59,[(3,.any),(4,.any),(5,.any),(6,.any),(7,.any),(10,.any),(122,.any)]),(60,[(3,.any),(4,.any),(5,.any),(6,.any),(7,.any)]),(61,[(3,.any),(4,.any),(5,.any),(6,.any),(7,.any)]),(62,[(6,.any),(7,.any),(8,.any),(9,.any)]),(65,[(3,.any),(4,.any),(6,.any),(7,.any)]),(66,[(6,.any),(7,.any),(8,.any),(9,.any)])]⟩ Tryz.f69
def K144_19:MarkK tab:=⟨[(3,.box (.named .TMach) (.no)),(4,.box (.named .TEvent) (.no)),(6,.box (.named .TMach) (.st [.no,.yes 0,.yes 0,.yes 0])),(7,.box (.named .TEvent) (.no)),(11,.box (.named .TArch) (.no))],[(.ret,[(6,.box (.named .TMach) (.no)),(7,.box (.named .TEvent) (.no)),(8,.val (.int .i64) (.no)),(9,.val (.int .u32) (.no))])],L_ref15_system_19⟩
def K144_35:MarkK tab:=⟨[(3,.box (.named .TMach) (.no)),(4,.box (.named .TEvent) (.no)),(5,.box (.named .TInst) (.no)),(6,.box (.named .TMach) (.st [.no,.yes 0,.yes 0,.yes 0])),(7,.box (.named .TEvent) (.no)),(10,.val (.int .u32) (.no)),(13,.val (.int .u32) (.no))],[(.normal,[(3,.box (.named .TMach) (.no)),(4,.box (.named .TEvent) (.no)),(5,.box (.named .TInst) (.no)),(6,.box (.named .TMach) (.st [.no,.yes 0,.yes 0,.yes 0])),(7,.box (.named .TEvent) (.no)),(10,.val (.int .u32) (.no))])],L_ref15_system_35⟩
def K144_47:MarkK tab:=⟨[(3,.box (.named .TMach) (.no)),(4,.box (.named .TEvent) (.no)),(5,.box (.named .TInst) (.no)),(6,.box (.named .TMach) (.st [.no,.yes 0,.yes 0,.yes 0])),(7,.box (.named .TEvent) (.no)),(10,.val (.int .u32) (.no)),(15,.box (.named .TArch) (.no))],[(.normal,[(3,.box (.named .TMach) (.no)),(4,.box (.named .TEvent) (.no)),(5,.box (.named .TInst) (.no)),(6,.box (.named .TMach) (.st [.no,.yes 0,.yes 0,.yes 0])),(7,.box (.named .TEvent) (.no)),(10,.val (.int .u32) (.no))])],L_ref15_system_47⟩
def K144_59:MarkK tab:=⟨[(3,.box (.named .TMach) (.no)),(4,.box (.named .TEvent) (.no)),(5,.box (.named .TInst) (.no)),(6,.box (.named .TMach) (.st [.no,.yes 0,.yes 0,.yes 0])),(7,.box (.named .TEvent) (.no)),(10,.val (.int .u32) (.no)),(122,.val (.bool) (.no))],[(.normal,[(3,.box (.named .TMach) (.no)),(4,.box (.named .TEvent) (.no)),(5,.box (.named .TInst) (.no)),(6,.box (.named .TMach) (.st [.no,.yes 0,.yes 0,.yes 0])),(7,.box (.named .TEvent) (.no))])],L_ref15_system_59⟩
def K144_65:MarkK tab:=⟨[(3,.box (.named .TMach) (.no)),(4,.box (.named .TEvent) (.no)),(6,.box (.named .TMach) (.st [.no,.yes 0,.yes 0,.yes 0])),(7,.box (.named .TEvent) (.no))],[(.ret,[(6,.box (.named .TMach) (.no)),(7,.box (.named .TEvent) (.no)),(8,.val (.int .i64) (.no)),(9,.val (.int .u32) (.no))])],L_ref15_system_65⟩
def K144_61:MarkK tab:=⟨[(3,.box (.named .TMach) (.no)),(4,.box (.named .TEvent) (.no)),(5,.box (.named .TInst) (.no)),(6,.box (.named .TMach) (.st [.no,.yes 0,.yes 0,.yes 0])),(7,.box (.named .TEvent) (.no))],[(.ret,[(6,.box (.named .TMach) (.no)),(7,.box (.named .TEvent) (.no)),(8,.val (.int .i64) (.no)),(9,.val (.int .u32) (.no))])],L_ref15_system_61⟩
def K144_57:MarkK tab:=⟨[(3,.box (.named .TMach) (.no)),(4,.box (.named .TEvent) (.no)),(5,.box (.named .TInst) (.no)),(6,.box (.named .TMach) (.st [.no,.yes 0,.yes 0,.yes 0])),(7,.box (.named .TEvent) (.no)),(10,.val (.int .u32) (.no))],[(.ret,[(6,.box (.named .TMach) (.no)),(7,.box (.named .TEvent) (.no)),(8,.val (.int .i64) (.no)),(9,.val (.int .u32) (.no))])],L_ref15_system_57⟩
def K144_53:MarkK tab:=⟨[(3,.box (.named .TMach) (.no)),(4,.box (.named .TEvent) (.no)),(5,.box (.named .TInst) (.no)),(6,.box (.named .TMach) (.st [.no,.yes 0,.yes 0,.yes 0])),(7,.box (.named .TEvent) (.no)),(10,.val (.int .u32) (.no))],[(.ret,[(6,.box (.named .TMach) (.no)),(7,.box (.named .TEvent) (.no)),(8,.val (.int .i64) (.no)),(9,.val (.int .u32) (.no))])],L_ref15_system_53⟩
def K144_49:MarkK tab:=⟨[(3,.box (.named .TMach) (.no)),(4,.box (.named .TEvent) (.no)),(5,.box (.named .TInst) (.no)),(6,.box (.named .TMach) (.st [.no,.yes 0,.yes 0,.yes 0])),(7,.box (.named .TEvent) (.no)),(10,.val (.int .u32) (.no))],[(.ret,[(6,.box (.named .TMach) (.no)),(7,.box (.named .TEvent) (.no)),(8,.val (.int .i64) (.no)),(9,.val (.int .u32) (.no))])],L_ref15_system_49⟩
def K144_37:MarkK tab:=⟨[(3,.box (.named .TMach) (.no)),(4,.box (.named .TEvent) (.no)),(5,.box (.named .TInst) (.no)),(6,.box (.named .TMach) (.st [.no,.yes 0,.yes 0,.yes 0])),(7,.box (.named .TEvent) (.no)),(10,.val (.int .u32) (.no))],[(.ret,[(6,.box (.named .TMach) (.no)),(7,.box (.named .TEvent) (.no)),(8,.val (.int .i64) (.no)),(9,.val (.int .u32) (.no))])],L_ref15_system_37⟩
def K144_25:MarkK tab:=⟨[(3,.box (.named .TMach) (.no)),(4,.box (.named .TEvent) (.no)),(5,.box (.named .TInst) (.no)),(6,.box (.named .TMach) (.st [.no,.yes 0,.yes 0,.yes 0])),(7,.box (.named .TEvent) (.no)),(10,.val (.int .u32) (.no))],[(.ret,[(6,.box (.named .TMach) (.no)),(7,.box (.named .TEvent) (.no)),(8,.val (.int .i64) (.no)),(9,.val (.int .u32) (.no))])],L_ref15_system_25⟩
def K144_9:MarkK tab:=⟨[(3,.box (.named .TMach) (.no)),(4,.box (.named .TEvent) (.no)),(5,.box (.named .TInst) (.no)),(6,.box (.named .TMach) (.st [.no,.yes 0,.yes 0,.yes 0])),(7,.box (.named .TEvent) (.no)),(10,.val (.int .u32) (.no))],[(.ret,[(6,.box (.named .TMach) (.no)),(7,.box (.named .TEvent) (.no)),(8,.val (.int .i64) (.no)),(9,.val (.int .u32) (.no))])],L_ref15_system_9⟩
def N144:FnK tab:=⟨[.val (.named .TMach) (.no),.val (.named .TEvent) (.no),.val (.named .TInst) (.no)],TMach×TEvent×W .i64×W .u32,fun a:TMach×TEvent×TInst×Unit=>F_ref15_system a.1 a.2.1 a.2.2.1,fun r:TMach×TEvent×W .i64×W .u32=>(.tup [.val (.named .TMach) r.1 (.no),.val (.named .TEvent) r.2.1 (.no),.val (.int .i64) r.2.2.1 (.no),.val (.int .u32) r.2.2.2 (.no)],[.undef,.undef,.undef])⟩
def t144:Tt:=tbl [(71,N138),(110,N141),(111,N142),(112,N143)]
def q144:Qt:=mtbl [(19,K144_19),(35,K144_35),(47,K144_47),(59,K144_59),(65,K144_65),(61,K144_61),(57,K144_57),(53,K144_53),(49,K144_49),(37,K144_37),(25,K144_25),(9,K144_9)]
def g145:=gx ⟨[0,2,4],[],[true],[]⟩ Tryz.f113
def N145:FnK tab:=⟨[.val (.int .u32) (.no)],W .i64,fun a:W .u32×Unit=>F_ref03_signed a.1,fun r:W .i64=>(.val (.int .i64) r (.no),[.undef])⟩
def g146:=gx ⟨[0,1,2,6,7,8,13,18,25,32,37],[],[true],[]⟩ Tryz.f70
def N146:FnK tab:=⟨[.val (.int .i64) (.no),.val (.int .u32) (.no),.val (.int .u32) (.no)],Bool,fun a:W .i64×W .u32×W .u32×Unit=>F_ref03_Taken a.1 a.2.1 a.2.2.1,fun r:Bool=>(.val (.bool) r (.no),[.undef,.undef,.undef])⟩
def t146:Tt:=tbl [(113,N145)]
def g147:=gx ⟨[0,1,2,6,8],[],[true],[]⟩ Tryz.f114
def N147:FnK tab:=⟨[.val (.int .u32) (.no),.val (.int .u32) (.no),.val (.int .u32) (.no)],W .u32,fun a:W .u32×W .u32×W .u32×Unit=>F_ref03_Cmov a.1 a.2.1 a.2.2.1,fun r:W .u32=>(.val (.int .u32) r (.no),[.undef,.undef,.undef])⟩
def g148:=gx ⟨[0,2,4],[],[true],[]⟩ Tryz.f145
def N148:FnK tab:=⟨[.val (.int .u32) (.no)],W .i64,fun a:W .u32×Unit=>F_ref04_signed a.1,fun r:W .i64=>(.val (.int .i64) r (.no),[.undef])⟩
def g149:=gx ⟨[0,1,2,6,7,9,18,27],[],[true,true],[]⟩ Tryz.f115
def N149:FnK tab:=⟨[.val (.int .i64) (.no),.val (.int .u32) (.no),.val (.int .u32) (.no)],W .u32×Bool,fun a:W .i64×W .u32×W .u32×Unit=>F_ref04_Do a.1 a.2.1 a.2.2.1,fun r:W .u32×Bool=>(.tup [.val (.int .u32) r.1 (.no),.val (.bool) r.2 (.no)],[.undef,.undef,.undef])⟩
def t149:Tt:=tbl [(145,N148)]
def g150:=gx ⟨[0,1,2,6,7,8,9,16,17,25,27,30,37,40,45,48],[],[true,true],[]⟩ Tryz.f116
def N150:FnK tab:=⟨[.val (.int .i64) (.no),.val (.int .u32) (.no),.val (.int .u32) (.no)],W .u32×Bool,fun a:W .i64×W .u32×W .u32×Unit=>F_ref05_Do a.1 a.2.1 a.2.2.1,fun r:W .u32×Bool=>(.tup [.val (.int .u32) r.1 (.no),.val (.bool) r.2 (.no)],[.undef,.undef,.undef])⟩
def g151:=gx ⟨[0,1,4,5,8],[],[true],[(5,[(0,.any),(1,.any),(5,.any)]),(6,[(0,.any)]),(7,[(0,.any),(1,.any),(5,.any)])]⟩ Tryz.f148
def K151_5:MarkK tab:=⟨[(0,.val (.int .u32) (.no)),(1,.val (.int .i64) (.no)),(5,.val (.int .i64) (.no))],[((.exit 0),[(0,.val (.int .u32) (.no))])],L_ref03_bit_5⟩
def N151:FnK tab:=⟨[.val (.int .u32) (.no),.val (.int .i64) (.no)],W .u32,fun a:W .u32×W .i64×Unit=>F_ref03_bit a.1 a.2.1,fun r:W .u32=>(.val (.int .u32) r (.no),[.undef,.undef])⟩
def q151:Qt:=mtbl [(5,K151_5)]
def g152:=gx ⟨[0,1,2,3,4,6],[],[true],[(7,[(1,.any),(3,.any),(4,.any)]),(8,[(3,.any)]),(9,[(1,.any),(3,.any),(4,.any)])]⟩ Tryz.f173
def K152_7:MarkK tab:=⟨[(1,.box (.arr 32 (.int .u32)) (.no)),(3,.val (.int .u32) (.no)),(4,.val (.int .i64) (.no))],[((.exit 0),[(3,.val (.int .u32) (.no))])],L_ref03_word_7⟩
def N152:FnK tab:=⟨[.val (.arr 32 (.int .u32)) (.no)],W .u32,fun a:Arr 32 (W .u32)×Unit=>F_ref03_word a.1,fun r:W .u32=>(.val (.int .u32) r (.no),[.undef])⟩
def q152:Qt:=mtbl [(7,K152_7)]
def g153:=gx ⟨[0,1,2,3,8,9,10,11,13,30],[],[true],[(7,[(0,.any),(1,.any),(2,.any),(3,.any),(9,.any),(10,.any)]),(8,[(9,.any)]),(9,[(0,.any),(1,.any),(2,.any),(3,.any),(9,.any),(10,.any)])]⟩ Tryz.f146
def K153_7:MarkK tab:=⟨[(0,.val (.int .u32) (.no)),(1,.val (.int .u32) (.no)),(2,.val (.int .u32) (.no)),(3,.val (.int .u32) (.no)),(9,.box (.arr 32 (.int .u32)) (.no)),(10,.val (.int .i64) (.no))],[((.exit 0),[(9,.box (.arr 32 (.int .u32)) (.no))])],L_ref03_logic_7⟩
def N153:FnK tab:=⟨[.val (.int .u32) (.no),.val (.int .u32) (.no),.val (.int .u32) (.no),.val (.int .u32) (.no)],W .u32,fun a:W .u32×W .u32×W .u32×W .u32×Unit=>F_ref03_logic a.1 a.2.1 a.2.2.1 a.2.2.2.1,fun r:W .u32=>(.val (.int .u32) r (.no),[.undef,.undef,.undef,.undef])⟩
def t153:Tt:=tbl [(148,N151),(173,N152)]
def q153:Qt:=mtbl [(7,K153_7)]
def g154:=gx ⟨[0,1,2,6,7,8,10,25],[],[true],[(7,[(0,.any),(1,.any),(2,.any),(7,.any),(8,.any)]),(8,[(7,.any)]),(9,[(0,.any),(1,.any),(2,.any),(7,.any),(8,.any)])]⟩ Tryz.f147
def K154_7:MarkK tab:=⟨[(0,.val (.int .u32) (.no)),(1,.val (.int .i64) (.no)),(2,.val (.int .u32) (.no)),(7,.box (.arr 32 (.int .u32)) (.no)),(8,.val (.int .i64) (.no))],[((.exit 0),[(7,.box (.arr 32 (.int .u32)) (.no))])],L_ref03_moved_7⟩
def N154:FnK tab:=⟨[.val (.int .u32) (.no),.val (.int .i64) (.no),.val (.int .u32) (.no)],W .u32,fun a:W .u32×W .i64×W .u32×Unit=>F_ref03_moved a.1 a.2.1 a.2.2.1,fun r:W .u32=>(.val (.int .u32) r (.no),[.undef,.undef,.undef])⟩
def t154:Tt:=tbl [(148,N151),(173,N152)]
def q154:Qt:=mtbl [(7,K154_7)]
def g155:=gx ⟨[0,2,3],[],[true],[]⟩ Tryz.f149
def N155:FnK tab:=⟨[.val (.bool) (.no)],W .u32,fun a:Bool×Unit=>F_ref03_one a.1,fun r:W .u32=>(.val (.int .u32) r (.no),[.undef])⟩
def g156:=gx ⟨[0,1,4,5,6,8],[],[true],[(7,[(0,.any),(1,.any),(5,.any),(6,.any)]),(8,[(5,.any)]),(9,[(0,.any),(1,.any),(5,.any),(6,.any)])]⟩ Tryz.f150
def K156_7:MarkK tab:=⟨[(0,.val (.int .u32) (.no)),(1,.val (.int .i64) (.no)),(5,.box (.arr 32 (.int .u32)) (.no)),(6,.val (.int .i64) (.no))],[((.exit 0),[(5,.box (.arr 32 (.int .u32)) (.no))])],L_ref03_turned_7⟩
def N156:FnK tab:=⟨[.val (.int .u32) (.no),.val (.int .i64) (.no)],W .u32,fun a:W .u32×W .i64×Unit=>F_ref03_turned a.1 a.2.1,fun r:W .u32=>(.val (.int .u32) r (.no),[.undef,.undef])⟩
def t156:Tt:=tbl [(148,N151),(173,N152)]
def q156:Qt:=mtbl [(7,K156_7)]
def g157:=gx ⟨[0,2,3,12],[],[true],[(5,[(0,.any),(3,.any)]),(6,[(3,.any)]),(7,[(0,.any),(3,.any)])]⟩ Tryz.f151
def K157_5:MarkK tab:=⟨[(0,.val (.int .u32) (.no)),(3,.val (.int .i64) (.no))],[((.exit 0),[(3,.val (.int .i64) (.no))])],L_ref03_Clz_5⟩
def N157:FnK tab:=⟨[.val (.int .u32) (.no)],W .i64,fun a:W .u32×Unit=>F_ref03_Clz a.1,fun r:W .i64=>(.val (.int .i64) r (.no),[.undef])⟩
def t157:Tt:=tbl [(148,N151)]
def q157:Qt:=mtbl [(5,K157_5)]
def g158:=gx ⟨[0,2,3,4,6],[],[true],[(7,[(0,.any),(3,.any),(4,.any)]),(8,[(3,.any)]),(9,[(0,.any),(3,.any),(4,.any)])]⟩ Tryz.f152
def K158_7:MarkK tab:=⟨[(0,.val (.int .u32) (.no)),(3,.val (.int .i64) (.no)),(4,.val (.int .i64) (.no))],[((.exit 0),[(3,.val (.int .i64) (.no))])],L_ref03_Pop_7⟩
def N158:FnK tab:=⟨[.val (.int .u32) (.no)],W .i64,fun a:W .u32×Unit=>F_ref03_Pop a.1,fun r:W .i64=>(.val (.int .i64) r (.no),[.undef])⟩
def t158:Tt:=tbl [(148,N151)]
def q158:Qt:=mtbl [(7,K158_7)]
def g159:=gx ⟨[0,2,3,4,6],[],[true],[(7,[(0,.any),(3,.any),(4,.any)]),(8,[(3,.any)]),(9,[(0,.any),(3,.any),(4,.any)])]⟩ Tryz.f153
def K159_7:MarkK tab:=⟨[(0,.val (.int .u32) (.no)),(3,.val (.int .u32) (.no)),(4,.val (.int .i64) (.no))],[((.exit 0),[(3,.val (.int .u32) (.no))])],L_ref03_Rev_7⟩
def N159:FnK tab:=⟨[.val (.int .u32) (.no)],W .u32,fun a:W .u32×Unit=>F_ref03_Rev a.1,fun r:W .u32=>(.val (.int .u32) r (.no),[.undef])⟩
def q159:Qt:=mtbl [(7,K159_7)]
def g160:=gx ⟨[0,1,2,6,7,8,12,13,19,24,30,36,42,49,55,63,72,78,84,87,93,96,101,106,111,115],[],[true,true],[]⟩ Tryz.f117
def N160:FnK tab:=⟨[.val (.int .i64) (.no),.val (.int .u32) (.no),.val (.int .u32) (.no)],W .u32×Bool,fun a:W .i64×W .u32×W .u32×Unit=>F_ref03_Do a.1 a.2.1 a.2.2.1,fun r:W .u32×Bool=>(.tup [.val (.int .u32) r.1 (.no),.val (.bool) r.2 (.no)],[.undef,.undef,.undef])⟩
def t160:Tt:=tbl [(113,N145),(146,N153),(147,N154),(148,N151),(149,N155),(150,N156),(151,N157),(152,N158),(153,N159)]
def g161:=gx ⟨[0,1,2,3,4,5,6,7,9,11,25,31,47,64],[],[true],[]⟩ Tryz.f72
def N161:FnK tab:=⟨[.val (.named .TArch) (.no),.val (.named .TInst) (.no)],W .u32,fun a:TArch×TInst×Unit=>F_ref15_value a.1 a.2.1,fun r:W .u32=>(.val (.int .u32) r (.no),[.undef,.undef])⟩
def t161:Tt:=tbl [(114,N147),(115,N149),(116,N150),(117,N160)]
def g162:=gx ⟨[0,1,2,3,4,5,6,7,8,9,10,11,12,13,14,41,58,71,88,92,108,128],[],[true,true,true,true],[(11,[(3,.any),(4,.any),(5,.any),(6,.any),(7,.any),(10,.any),(11,.any),(12,.any),(13,.any),(41,.any)]),(12,[(3,.any),(4,.any),(5,.any),(6,.any),(7,.any),(8,.any),(9,.any),(10,.any),(11,.any),(12,.any),(13,.any)]),(17,[(3,.any),(4,.any),(5,.any),(6,.any),(7,.any),(10,.any),(11,.any),(12,.any),(13,.any)]),(18,[(6,.any),(7,.any),(8,.any),(9,.any)]),(19,[(3,.any),(4,.any),(5,.any),(6,.any),(7,.any),(10,.any),(11,.any),(12,.any),(13,.any),(58,.any)]),(20,[(3,.any),(4,.any),(5,.any),(6,.any),(7,.any),(8,.any),(9,.any),(10,.any),(11,.any),(12,.any),(13,.any)]),(25,[(3,.any),(4,.any),(5,.any),(6,.any),(7,.any),(10,.any),(11,.any),(12,.any),(13,.any)]),(26,[(6,.any),(7,.any),(8,.any),(9,.any)]),(33,[(3,.any),(4,.any),(5,.any),(6,.any),(7,.any),(10,.any),(11,.any),(12,.any),(13,.any)]),(34,[(6,.any),(7,.any),(8,.any),(9,.any)]),(35,[(3,.any),(4,.any),(5,.any),(6,.any),(7,.any),(10,.any),(11,.any),(12,.any),(13,.any),(88,.any)]),(36,[(3,.any),(4,.any),(5,.any),(6,.any),(7,.any),(8,.any),(9,.any),(10,.any),(12,.any),(13,.any)]),(39,[(3,.any),(4,.any),(6,.any),(7,.any)]),(40,[(6,.any),(7,.any),(8,.any),(9,.any)]),(43,[(3,.any),(4,.any),(5,.any),(6,.any),(7,.any),(10,.any),(12,.any),(13,.any)]),(44,[(6,.any),(7,.any),(8,.any),(9,.any)]),(45,[(3,.any),(4,.any),(5,.any),(6,.any),(7,.any),(10,.any),(12,.any),(13,.any),(108,.any)]),(46,[(3,.any),(4,.any),(5,.any),(6,.any),(7,.any),(8,.any),(9,.any)]),(55,[(3,.any),(4,.any),(6,.any),(7,.any)]),(56,[(6,.any),(7,.any),(8,.any),(9,.any)]),(59,[(3,.any),(4,.any),(5,.any),(6,.any),(7,.any)]),(60,[(6,.any),(7,.any),(8,.any),(9,.any)])]⟩ Tryz.f38
def K162_11:MarkK tab:=⟨[(3,.box (.named .TMach) (.no)),(4,.box (.named .TEvent) (.no)),(5,.box (.named .TInst) (.no)),(6,.box (.named .TMach) (.st [.no,.yes 0,.yes 0,.yes 0])),(7,.box (.named .TEvent) (.no)),(10,.val (.int .u32) (.no)),(11,.val (.int .u32) (.no)),(12,.val (.int .u32) (.no)),(13,.val (.int .i64) (.no)),(41,.val (.bool) (.no))],[(.ret,[(3,.box (.named .TMach) (.no)),(4,.box (.named .TEvent) (.no)),(5,.box (.named .TInst) (.no)),(6,.box (.named .TMach) (.no)),(7,.box (.named .TEvent) (.no)),(8,.val (.int .i64) (.no)),(9,.val (.int .u32) (.no)),(10,.val (.int .u32) (.no)),(11,.val (.int .u32) (.no)),(12,.val (.int .u32) (.no)),(13,.val (.int .i64) (.no))]),(.normal,[(3,.box (.named .TMach) (.no)),(4,.box (.named .TEvent) (.no)),(5,.box (.named .TInst) (.no)),(6,.box (.named .TMach) (.st [.no,.yes 0,.yes 0,.yes 0])),(7,.box (.named .TEvent) (.no)),(8,.undef),(9,.undef),(10,.val (.int .u32) (.no)),(11,.val (.int .u32) (.no)),(12,.val (.int .u32) (.no)),(13,.val (.int .i64) (.no))])],L_ref15_do_11⟩
def K162_19:MarkK tab:=⟨[(3,.box (.named .TMach) (.no)),(4,.box (.named .TEvent) (.no)),(5,.box (.named .TInst) (.no)),(6,.box (.named .TMach) (.st [.no,.yes 0,.yes 0,.yes 0])),(7,.box (.named .TEvent) (.no)),(10,.val (.int .u32) (.no)),(11,.val (.int .u32) (.no)),(12,.val (.int .u32) (.no)),(13,.val (.int .i64) (.no)),(58,.val (.bool) (.no))],[(.ret,[(3,.box (.named .TMach) (.no)),(4,.box (.named .TEvent) (.no)),(5,.box (.named .TInst) (.no)),(6,.box (.named .TMach) (.no)),(7,.box (.named .TEvent) (.no)),(8,.val (.int .i64) (.no)),(9,.val (.int .u32) (.no)),(10,.val (.int .u32) (.no)),(11,.val (.int .u32) (.no)),(12,.val (.int .u32) (.no)),(13,.val (.int .i64) (.no))]),(.normal,[(3,.box (.named .TMach) (.no)),(4,.box (.named .TEvent) (.no)),(5,.box (.named .TInst) (.no)),(6,.box (.named .TMach) (.st [.no,.yes 0,.yes 0,.yes 0])),(7,.box (.named .TEvent) (.no)),(8,.undef),(9,.undef),(10,.val (.int .u32) (.no)),(11,.val (.int .u32) (.no)),(12,.val (.int .u32) (.no)),(13,.val (.int .i64) (.no))])],L_ref15_do_19⟩
def K162_39:MarkK tab:=⟨[(3,.box (.named .TMach) (.no)),(4,.box (.named .TEvent) (.no)),(6,.box (.named .TMach) (.st [.no,.yes 0,.yes 0,.yes 0])),(7,.box (.named .TEvent) (.no))],[(.ret,[(6,.box (.named .TMach) (.no)),(7,.box (.named .TEvent) (.no)),(8,.val (.int .i64) (.no)),(9,.val (.int .u32) (.no))])],L_ref15_do_39⟩
def K162_35:MarkK tab:=⟨[(3,.box (.named .TMach) (.no)),(4,.box (.named .TEvent) (.no)),(5,.box (.named .TInst) (.no)),(6,.box (.named .TMach) (.st [.no,.yes 0,.yes 0,.yes 0])),(7,.box (.named .TEvent) (.no)),(10,.val (.int .u32) (.no)),(11,.val (.int .u32) (.no)),(12,.val (.int .u32) (.no)),(13,.val (.int .i64) (.no)),(88,.val (.bool) (.no))],[(.ret,[(3,.undef),(4,.undef),(5,.undef),(6,.box (.named .TMach) (.no)),(7,.box (.named .TEvent) (.no)),(8,.val (.int .i64) (.no)),(9,.val (.int .u32) (.no)),(10,.undef),(12,.undef),(13,.undef)]),(.normal,[(3,.box (.named .TMach) (.no)),(4,.box (.named .TEvent) (.no)),(5,.box (.named .TInst) (.no)),(6,.box (.named .TMach) (.st [.no,.yes 0,.yes 0,.yes 0])),(7,.box (.named .TEvent) (.no)),(8,.undef),(9,.undef),(10,.val (.int .u32) (.no)),(12,.val (.int .u32) (.no)),(13,.val (.int .i64) (.no))])],L_ref15_do_35⟩
def K162_55:MarkK tab:=⟨[(3,.box (.named .TMach) (.no)),(4,.box (.named .TEvent) (.no)),(6,.box (.named .TMach) (.st [.no,.yes 0,.yes 0,.yes 0])),(7,.box (.named .TEvent) (.no))],[(.ret,[(6,.box (.named .TMach) (.no)),(7,.box (.named .TEvent) (.no)),(8,.val (.int .i64) (.no)),(9,.val (.int .u32) (.no))])],L_ref15_do_55⟩
def K162_45:MarkK tab:=⟨[(3,.box (.named .TMach) (.no)),(4,.box (.named .TEvent) (.no)),(5,.box (.named .TInst) (.no)),(6,.box (.named .TMach) (.st [.no,.yes 0,.yes 0,.yes 0])),(7,.box (.named .TEvent) (.no)),(10,.val (.int .u32) (.no)),(12,.val (.int .u32) (.no)),(13,.val (.int .i64) (.no)),(108,.val (.bool) (.no))],[(.ret,[(3,.undef),(4,.undef),(5,.undef),(6,.box (.named .TMach) (.no)),(7,.box (.named .TEvent) (.no)),(8,.val (.int .i64) (.no)),(9,.val (.int .u32) (.no))]),(.normal,[(3,.box (.named .TMach) (.no)),(4,.box (.named .TEvent) (.no)),(5,.box (.named .TInst) (.no)),(6,.box (.named .TMach) (.st [.no,.yes 0,.yes 0,.yes 0])),(7,.box (.named .TEvent) (.no)),(8,.undef),(9,.undef)])],L_ref15_do_45⟩
def K162_59:MarkK tab:=⟨[(3,.box (.named .TMach) (.no)),(4,.box (.named .TEvent) (.no)),(5,.box (.named .TInst) (.no)),(6,.box (.named .TMach) (.st [.no,.yes 0,.yes 0,.yes 0])),(7,.box (.named .TEvent) (.no))],[(.ret,[(6,.box (.named .TMach) (.no)),(7,.box (.named .TEvent) (.no)),(8,.val (.int .i64) (.no)),(9,.val (.int .u32) (.no))])],L_ref15_do_59⟩
def K162_43:MarkK tab:=⟨[(3,.box (.named .TMach) (.no)),(4,.box (.named .TEvent) (.no)),(5,.box (.named .TInst) (.no)),(6,.box (.named .TMach) (.st [.no,.yes 0,.yes 0,.yes 0])),(7,.box (.named .TEvent) (.no)),(10,.val (.int .u32) (.no)),(12,.val (.int .u32) (.no)),(13,.val (.int .i64) (.no))],[(.ret,[(6,.box (.named .TMach) (.no)),(7,.box (.named .TEvent) (.no)),(8,.val (.int .i64) (.no)),(9,.val (.int .u32) (.no))])],L_ref15_do_43⟩
def K162_33:MarkK tab:=⟨[(3,.box (.named .TMach) (.no)),(4,.box (.named .TEvent) (.no)),(5,.box (.named .TInst) (.no)),(6,.box (.named .TMach) (.st [.no,.yes 0,.yes 0,.yes 0])),(7,.box (.named .TEvent) (.no)),(10,.val (.int .u32) (.no)),(11,.val (.int .u32) (.no)),(12,.val (.int .u32) (.no)),(13,.val (.int .i64) (.no))],[(.ret,[(6,.box (.named .TMach) (.no)),(7,.box (.named .TEvent) (.no)),(8,.val (.int .i64) (.no)),(9,.val (.int .u32) (.no))])],L_ref15_do_33⟩
def K162_25:MarkK tab:=⟨[(3,.box (.named .TMach) (.no)),(4,.box (.named .TEvent) (.no)),(5,.box (.named .TInst) (.no)),(6,.box (.named .TMach) (.st [.no,.yes 0,.yes 0,.yes 0])),(7,.box (.named .TEvent) (.no)),(10,.val (.int .u32) (.no)),(11,.val (.int .u32) (.no)),(12,.val (.int .u32) (.no)),(13,.val (.int .i64) (.no))],[(.ret,[(6,.box (.named .TMach) (.no)),(7,.box (.named .TEvent) (.no)),(8,.val (.int .i64) (.no)),(9,.val (.int .u32) (.no))])],L_ref15_do_25⟩
def K162_17:MarkK tab:=⟨[(3,.box (.named .TMach) (.no)),(4,.box (.named .TEvent) (.no)),(5,.box (.named .TInst) (.no)),(6,.box (.named .TMach) (.st [.no,.yes 0,.yes 0,.yes 0])),(7,.box (.named .TEvent) (.no)),(10,.val (.int .u32) (.no)),(11,.val (.int .u32) (.no)),(12,.val (.int .u32) (.no)),(13,.val (.int .i64) (.no))],[(.ret,[(6,.box (.named .TMach) (.no)),(7,.box (.named .TEvent) (.no)),(8,.val (.int .i64) (.no)),(9,.val (.int .u32) (.no))])],L_ref15_do_17⟩
def N162:FnK tab:=⟨[.val (.named .TMach) (.no),.val (.named .TEvent) (.no),.val (.named .TInst) (.no)],TMach×TEvent×W .i64×W .u32,fun a:TMach×TEvent×TInst×Unit=>F_ref15_do a.1 a.2.1 a.2.2.1,fun r:TMach×TEvent×W .i64×W .u32=>(.tup [.val (.named .TMach) r.1 (.no),.val (.named .TEvent) r.2.1 (.no),.val (.int .i64) r.2.2.1 (.no),.val (.int .u32) r.2.2.2 (.no)],[.undef,.undef,.undef])⟩
def t162:Tt:=tbl [(67,N139),(68,N140),(69,N144),(70,N146),(71,N138),(72,N161)]
def q162:Qt:=mtbl [(11,K162_11),(19,K162_19),(39,K162_39),(35,K162_35),(55,K162_55),(45,K162_45),(59,K162_59),(43,K162_43),(33,K162_33),(25,K162_25),(17,K162_17)]
def g163:=gx ⟨[0,1,2,21],[],[true],[]⟩ Tryz.f39
def N163:FnK tab:=⟨[.val (.named .TArch) (.no)],TArch,fun a:TArch×Unit=>F_ref11_Count a.1,fun r:TArch=>(.val (.named .TArch) r (.no),[.undef])⟩
def g164:=gx ⟨[0,1,2,3,4,5,6,7,8,9,10,11,12,13,16,23,35,50,66,82,109,128],[],[true,true,true],[]⟩ Tryz.f9
def N164:FnK tab:=⟨[.val (.named .TMach) (.no)],TMach×TEvent×Bool,fun a:TMach×Unit=>F_ref15_Step a.1,fun r:TMach×TEvent×Bool=>(.tup [.val (.named .TMach) r.1 (.no),.val (.named .TEvent) r.2.1 (.no),.val (.bool) r.2.2 (.no)],[.undef])⟩
def t164:Tt:=tbl [(11,N122),(31,N102),(32,N105),(33,N106),(34,N128),(35,N129),(36,N100),(37,N130),(38,N162),(39,N163),(40,N104)]
def g165:=gx ⟨[0,1,4,5,10,20,31],[],[true],[(11,[(0,.any),(1,.any),(5,.any)]),(12,[(4,.any)]),(13,[(0,.any),(1,.any),(5,.any)])]⟩ Tryz.f18
def K165_11:MarkK tab:=⟨[(0,.val (.slice 1 (.int .u8)) (.no)),(1,.val (.slice 1 (.int .u8)) (.no)),(5,.val (.int .i64) (.no))],[(.ret,[(4,.val (.bool) (.no))]),((.exit 0),[(4,.undef)])],L_same_Bytes_11⟩
def N165:FnK tab:=⟨[.val (.slice 1 (.int .u8)) (.no),.val (.slice 1 (.int .u8)) (.no)],Bool,fun a:Sl 1 (W .u8)×Sl 1 (W .u8)×Unit=>F_same_Bytes a.1 a.2.1,fun r:Bool=>(.val (.bool) r (.no),[.undef,.undef])⟩
def q165:Qt:=mtbl [(11,K165_11)]
def g166:=gx ⟨[0,1,4,5,10,20,31],[],[true],[(11,[(0,.any),(1,.any),(5,.any)]),(12,[(4,.any)]),(13,[(0,.any),(1,.any),(5,.any)])]⟩ Tryz.f19
def K166_11:MarkK tab:=⟨[(0,.val (.slice 4 (.int .u32)) (.no)),(1,.val (.slice 4 (.int .u32)) (.no)),(5,.val (.int .i64) (.no))],[(.ret,[(4,.val (.bool) (.no))]),((.exit 0),[(4,.undef)])],L_same_Words_11⟩
def N166:FnK tab:=⟨[.val (.slice 4 (.int .u32)) (.no),.val (.slice 4 (.int .u32)) (.no)],Bool,fun a:Sl 4 (W .u32)×Sl 4 (W .u32)×Unit=>F_same_Words a.1 a.2.1,fun r:Bool=>(.val (.bool) r (.no),[.undef,.undef])⟩
def q166:Qt:=mtbl [(11,K166_11)]
def g167:=gx ⟨[0,1,2,3,4],[],[true],[]⟩ Tryz.f12
def N167:FnK tab:=⟨[.val (.named .TMach) (.no),.val (.named .TMach) (.no)],Bool,fun a:TMach×TMach×Unit=>F_same_Mach a.1 a.2.1,fun r:Bool=>(.val (.bool) r (.no),[.undef,.undef])⟩
def t167:Tt:=tbl [(18,N165),(19,N166)]
def g168:=gx ⟨[0,1,2,3,4,5,6,7,8,9,10,11,12,15],[],[true],[]⟩ Tryz.f3
def N168:FnK tab:=⟨[.val (.named .TMach) (.no)],Bool,fun a:TMach×Unit=>F_law15_StepDoes a.1,fun r:Bool=>(.val (.bool) r (.no),[.undef])⟩
def t168:Tt:=tbl [(6,N4),(7,N99),(8,N94),(9,N164),(10,N38),(11,N122),(12,N167)]
def g169:=gx ⟨[0,1,2,3,4,5,6,10,15,33,41,44],[],[true],[(13,[(1,.any),(3,.any),(4,.any)]),(14,[(2,.any)]),(15,[(1,.any),(3,.any),(4,.any)])]⟩ Tryz.f83
def K169_13:MarkK tab:=⟨[(1,.box (.named .TImage) (.no)),(3,.val (.int .i64) (.no)),(4,.val (.int .i64) (.no))],[(.ret,[(2,.val (.int .i64) (.no))]),((.exit 0),[(2,.undef)])],L_ref09_Right_13⟩
def N169:FnK tab:=⟨[.val (.named .TImage) (.no)],W .i64,fun a:TImage×Unit=>F_ref09_Right a.1,fun r:W .i64=>(.val (.int .i64) r (.no),[.undef])⟩
def q169:Qt:=mtbl [(13,K169_13)]
def g170:=gx ⟨[0,1,3,4,5,6,7,8,9,10,21,25,33,53,62],[],[true,true],[(21,[(0,.any),(3,.any),(7,.any),(8,.any)]),(22,[(4,.any),(5,.any),(7,.any)]),(23,[(0,.any),(3,.any),(7,.any),(8,.any)]),(38,[(0,.any),(3,.any),(7,.any),(8,.any),(9,.any),(10,.any)]),(39,[(0,.any),(3,.any),(7,.any),(8,.any)]),(40,[(0,.any),(3,.any),(7,.any),(8,.any),(9,.any),(10,.any)])]⟩ Tryz.f46
def K170_38:MarkK tab:=⟨[(0,.val (.int .i64) (.no)),(3,.box (.named .TImage) (.no)),(7,.val (.slice 1 (.int .u8)) (.yes 0)),(8,.val (.int .i64) (.no)),(9,.val (.int .i64) (.no)),(10,.val (.int .i64) (.no))],[((.exit 2),[(0,.val (.int .i64) (.no)),(3,.box (.named .TImage) (.no)),(7,.val (.slice 1 (.int .u8)) (.yes 0)),(8,.val (.int .i64) (.no))])],L_ref09_Load_38⟩
def K170_21:MarkK tab:=⟨[(0,.val (.int .i64) (.no)),(3,.box (.named .TImage) (.no)),(7,.val (.slice 1 (.int .u8)) (.yes 0)),(8,.val (.int .i64) (.no))],[(.ret,[(4,.val (.slice 1 (.int .u8)) (.full)),(5,.val (.int .i64) (.no)),(7,.val (.slice 1 (.int .u8)) (.yes 0))]),((.exit 0),[(4,.undef),(5,.undef),(7,.val (.slice 1 (.int .u8)) (.yes 0))])],L_ref09_Load_21⟩
def N170:FnK tab:=⟨[.val (.int .i64) (.no),.val (.named .TImage) (.no)],Sl 1 (W .u8)×W .i64,fun a:W .i64×TImage×Unit=>F_ref09_Load a.1 a.2.1,fun r:Sl 1 (W .u8)×W .i64=>(.tup [.val (.slice 1 (.int .u8)) r.1 (.no),.val (.int .i64) r.2 (.no)],[.undef,.undef])⟩
def t170:Tt:=tbl [(83,N169)]
def q170:Qt:=mtbl [(38,K170_38),(21,K170_21)]
def g171:=gx ⟨[0,1,2,4,5,6,7,8,16],[],[true,true],[]⟩ Tryz.f14
def N171:FnK tab:=⟨[.val (.named .TImage) (.no),.val (.int .i64) (.no)],TMach×W .i64,fun a:TImage×W .i64×Unit=>F_ref15_New a.1 a.2.1,fun r:TMach×W .i64=>(.tup [.val (.named .TMach) r.1 (.no),.val (.int .i64) r.2 (.no)],[.undef,.undef])⟩
def t171:Tt:=tbl [(46,N170)]
def g172:=gx ⟨[0,1,2,3,5,6,7,8,9,10,11,37,43,53],[],[true],[(11,[(1,.any),(3,.any),(5,.any),(7,.any)]),(12,[(1,.any),(3,.any),(5,.any),(6,.any)]),(13,[(1,.any),(3,.any),(5,.any),(7,.any)])]⟩ Tryz.f4
def K172_11:MarkK tab:=⟨[(1,.val (.int .i64) (.no)),(3,.box (.named .TImage) (.no)),(5,.box (.named .TMach) (.no)),(7,.val (.int .i64) (.no))],[(.ret,[(1,.val (.int .i64) (.no)),(3,.box (.named .TImage) (.no)),(5,.box (.named .TMach) (.no)),(6,.val (.bool) (.no))]),((.exit 0),[(1,.val (.int .i64) (.no)),(3,.box (.named .TImage) (.no)),(5,.box (.named .TMach) (.no)),(6,.undef)])],L_law15_StepNew_11⟩
def N172:FnK tab:=⟨[.val (.named .TImage) (.no),.val (.int .i64) (.no),.val (.named .TMach) (.no)],Bool,fun a:TImage×W .i64×TMach×Unit=>F_law15_StepNew a.1 a.2.1 a.2.2.1,fun r:Bool=>(.val (.bool) r (.no),[.undef,.undef,.undef])⟩
def t172:Tt:=tbl [(7,N99),(12,N167),(13,N9),(14,N171),(15,N97),(16,N98)]
def q172:Qt:=mtbl [(11,K172_11)]
def g173:=gx ⟨[0,1,2,3,4,5,8,58,70],[],[true],[]⟩ Tryz.f5
def N173:FnK tab:=⟨[.val (.named .TMach) (.no)],Bool,fun a:TMach×Unit=>F_law15_StepPrecise a.1,fun r:Bool=>(.val (.bool) r (.no),[.undef])⟩
def t173:Tt:=tbl [(6,N4),(7,N99),(8,N94),(12,N167),(17,N3),(18,N165),(19,N166)]
end
end Go.Proofs.YtiadkommiljbpaaGreatDoor
