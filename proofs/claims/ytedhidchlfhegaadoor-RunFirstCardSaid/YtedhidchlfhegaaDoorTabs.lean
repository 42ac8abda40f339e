/- YtedhidchlfhegaaDoorTabs: the tables of functions and marks. No statement of the seat is proved here. -/
import Derived.Test.YtedhidchlfhegaaDoorTrees
import Derived.Test.YtedhidchlfhegaaDoorChecked
import Derived.Test.YtedhidchlfhegaaDoorA2G
set_option linter.unusedSimpArgs false
set_option linter.unusedVariables false
set_option maxRecDepth 100000
namespace Go.Proofs.YtedhidchlfhegaaDoor
open Go Go.A2
noncomputable section
abbrev Tt:=Nat→List (FnK tab)
abbrev Qt:=Nat→Option (MarkK tab)
def t0:Tt:=tbl []
def q0:Qt:=fun _=>none
def gx (x:FnX) (f:Func):AFn tab:=gOf Tryd.prog cx x f
abbrev OkN:=FnOk (X:=tab) Tryd.prog
abbrev Mo (t:Tt) (q:Qt) (g:AFn tab):=MarkOk (fnsC t) (markL q) g.keep fuel
def g1:=gx ⟨[0,1,2,4],[],[true],[]⟩ Tryd.f13
def N1:FnK tab:=⟨[.val (.named .TArch) (.no),.val (.int .u32) (.no)],TArch,fun a:TArch×W .u32×Unit=>F_csr_Raise a.1 a.2.1,fun r:TArch=>(.val (.named .TArch) r (.no),[.undef,.undef])⟩
def g2:=gx ⟨[0,1,2],[],[true],[]⟩ Tryd.f25
def N2:FnK tab:=⟨[.val (.named .TArch) (.no)],Bool,fun a:TArch×Unit=>F_csr_Kernel a.1,fun r:Bool=>(.val (.bool) r (.no),[.undef])⟩
def g3:=gx ⟨[0],[],[true],[]⟩ Tryd.f30
def N3:FnK tab:=⟨[],Arr 3 (TSource),fun a:Unit=>F_trap_sources,fun r:Arr 3 (TSource)=>(.val (.arr 3 (.named .TSource)) r (.no),[])⟩
def g4:=gx ⟨[0,1,2,3,5,14,22,23,24,30],[],[true],[(13,[(3,.any),(22,.any),(23,.any)]),(14,[(2,.any)]),(15,[(3,.any),(22,.any),(23,.any)])]⟩ Tryd.f19
def K4_13:MarkK tab:=⟨[(3,.val (.int .u32) (.no)),(22,.val (.arr 3 (.named .TSource)) (.no)),(23,.val (.int .i64) (.no))],[(.ret,[(2,.val (.int .i64) (.no))]),((.exit 0),[(2,.undef)])],L_trap_Pending_13⟩
def N4:FnK tab:=⟨[.val (.named .TArch) (.no)],W .i64,fun a:TArch×Unit=>F_trap_Pending a.1,fun r:W .i64=>(.val (.int .i64) r (.no),[.undef])⟩
def t4:Tt:=tbl [(25,N2),(30,N3)]
def q4:Qt:=mtbl [(13,K4_13)]
def g5:=gx ⟨[0,2,3,10],[],[true],[]⟩ Tryd.f43
def N5:FnK tab:=⟨[.val (.int .i64) (.no)],W .u32,fun a:W .i64×Unit=>F_csr_Masked a.1,fun r:W .u32=>(.val (.int .u32) r (.no),[.undef])⟩
def g6:=gx ⟨[0,1,2,6,10],[],[true],[]⟩ Tryd.f44
def N6:FnK tab:=⟨[.val (.int .u32) (.no),.val (.int .u32) (.no),.val (.int .u32) (.no)],W .u32,fun a:W .u32×W .u32×W .u32×Unit=>F_trap_moved a.1 a.2.1 a.2.2.1,fun r:W .u32=>(.val (.int .u32) r (.no),[.undef,.undef,.undef])⟩
def g7:=gx ⟨[0,1,2,3,4,8,9],[],[true],[]⟩ Tryd.f29
def N7:FnK tab:=⟨[.val (.named .TArch) (.no),.val (.int .i64) (.no),.val (.int .u32) (.no),.val (.int .u32) (.no)],TArch,fun a:TArch×W .i64×W .u32×W .u32×Unit=>F_trap_Take a.1 a.2.1 a.2.2.1 a.2.2.2.1,fun r:TArch=>(.val (.named .TArch) r (.no),[.undef,.undef,.undef,.undef])⟩
def t7:Tt:=tbl [(43,N5),(44,N6)]
def g8:=gx ⟨[0,1,2,3,4,8,9,10,11],[],[true,true,true],[]⟩ Tryd.f20
def N8:FnK tab:=⟨[.val (.named .TMach) (.no),.val (.int .u32) (.no),.val (.int .i64) (.no),.val (.int .u32) (.no)],TMach×TEvent×Bool,fun a:TMach×W .u32×W .i64×W .u32×Unit=>F_step_traps a.1 a.2.1 a.2.2.1 a.2.2.2.1,fun r:TMach×TEvent×Bool=>(.tup [.val (.named .TMach) r.1 (.no),.val (.named .TEvent) r.2.1 (.no),.val (.bool) r.2.2 (.no)],[.undef,.undef,.undef,.undef])⟩
def t8:Tt:=tbl [(29,N7)]
def g9:=gx ⟨[0,1,2,4,5],[],[true],[]⟩ Tryd.f21
def N9:FnK tab:=⟨[.val (.named .TArch) (.no),.val (.int .u32) (.no)],Bool,fun a:TArch×W .u32×Unit=>F_trap_Stops a.1 a.2.1,fun r:Bool=>(.val (.bool) r (.no),[.undef,.undef])⟩
def t9:Tt:=tbl [(25,N2)]
def g10:=gx ⟨[0,1,4],[],[true],[]⟩ Tryd.f45
def N10:FnK tab:=⟨[.val (.int .u32) (.no),.val (.int .i64) (.no)],Bool,fun a:W .u32×W .i64×Unit=>F_bits_Aligned a.1 a.2.1,fun r:Bool=>(.val (.bool) r (.no),[.undef,.undef])⟩
def g11:=gx ⟨[0,1,2],[],[true],[]⟩ Tryd.f68
def N11:FnK tab:=⟨[.val (.named .TArch) (.no)],Bool,fun a:TArch×Unit=>F_walk_Paged a.1,fun r:Bool=>(.val (.bool) r (.no),[.undef])⟩
def t11:Tt:=tbl [(25,N2)]
def g12:=gx ⟨[0,2,3,4,6,8],[],[true],[]⟩ Tryd.f69
def N12:FnK tab:=⟨[.val (.int .i64) (.no)],W .i64,fun a:W .i64×Unit=>F_walk_Fault a.1,fun r:W .i64=>(.val (.int .i64) r (.no),[.undef])⟩
def g13:=gx ⟨[0,1,2,6],[],[true],[]⟩ Tryd.f73
def N13:FnK tab:=⟨[.val (.int .i64) (.no),.val (.int .i64) (.no),.val (.int .i64) (.no)],W .i64,fun a:W .i64×W .i64×W .i64×Unit=>F_bits_clamp a.1 a.2.1 a.2.2.1,fun r:W .i64=>(.val (.int .i64) r (.no),[.undef,.undef,.undef])⟩
def g14:=gx ⟨[0,2],[],[true],[]⟩ Tryd.f74
def N14:FnK tab:=⟨[.val (.int .i64) (.no)],W .u32,fun a:W .i64×Unit=>F_bits_ones a.1,fun r:W .u32=>(.val (.int .u32) r (.no),[.undef])⟩
def g15:=gx ⟨[0,1,4,5,12],[],[true,true],[]⟩ Tryd.f49
def N15:FnK tab:=⟨[.val (.int .i64) (.no),.val (.int .i64) (.no)],W .u32×W .i64,fun a:W .i64×W .i64×Unit=>F_bits_mask a.1 a.2.1,fun r:W .u32×W .i64=>(.tup [.val (.int .u32) r.1 (.no),.val (.int .i64) r.2 (.no)],[.undef,.undef])⟩
def t15:Tt:=tbl [(73,N13),(74,N14)]
def g16:=gx ⟨[0,1,2,6,7,8],[],[true],[]⟩ Tryd.f33
def N16:FnK tab:=⟨[.val (.int .u32) (.no),.val (.int .i64) (.no),.val (.int .i64) (.no)],W .u32,fun a:W .u32×W .i64×W .i64×Unit=>F_bits_Field a.1 a.2.1 a.2.2.1,fun r:W .u32=>(.val (.int .u32) r (.no),[.undef,.undef,.undef])⟩
def t16:Tt:=tbl [(49,N15)]
def g17:=gx ⟨[0,1,4,5,6,11],[],[true],[]⟩ Tryd.f88
def N17:FnK tab:=⟨[.val (.int .u32) (.no),.val (.int .i64) (.no)],W .i64,fun a:W .u32×W .i64×Unit=>F_pte_Index a.1 a.2.1,fun r:W .i64=>(.val (.int .i64) r (.no),[.undef,.undef])⟩
def t17:Tt:=tbl [(33,N16)]
def g18:=gx ⟨[0,1,2,6,27],[],[true],[]⟩ Tryd.f47
def N18:FnK tab:=⟨[.val (.slice 1 (.int .u8)) (.no),.val (.int .u32) (.no),.val (.int .i64) (.no)],W .i64,fun a:Sl 1 (W .u8)×W .u32×W .i64×Unit=>F_mem_Check a.1 a.2.1 a.2.2.1,fun r:W .i64=>(.val (.int .i64) r (.no),[.undef,.undef,.undef])⟩
def g19:=gx ⟨[0,2,3,4,5,10,11,12,13],[],[true],[(7,[(3,.any),(10,.any),(11,.any),(12,.any)]),(8,[(3,.any)]),(9,[(3,.any),(10,.any),(11,.any),(12,.any)])]⟩ Tryd.f48
def K19_7:MarkK tab:=⟨[(3,.val (.int .u32) (.no)),(10,.val (.slice 1 (.int .u8)) (.no)),(11,.val (.int .i64) (.no)),(12,.val (.int .i64) (.no))],[((.exit 0),[(3,.val (.int .u32) (.no))])],L_bits_Of_7⟩
def N19:FnK tab:=⟨[.val (.slice 1 (.int .u8)) (.no)],W .u32,fun a:Sl 1 (W .u8)×Unit=>F_bits_Of a.1,fun r:W .u32=>(.val (.int .u32) r (.no),[.undef])⟩
def q19:Qt:=mtbl [(7,K19_7)]
def g20:=gx ⟨[0,1,2,6,7,8,14],[],[true,true],[]⟩ Tryd.f32
def N20:FnK tab:=⟨[.val (.slice 1 (.int .u8)) (.no),.val (.int .u32) (.no),.val (.int .i64) (.no)],W .u32×W .i64,fun a:Sl 1 (W .u8)×W .u32×W .i64×Unit=>F_mem_Read a.1 a.2.1 a.2.2.1,fun r:W .u32×W .i64=>(.tup [.val (.int .u32) r.1 (.no),.val (.int .i64) r.2 (.no)],[.undef,.undef,.undef])⟩
def t20:Tt:=tbl [(47,N18),(48,N19)]
def g21:=gx ⟨[0,2],[],[true],[]⟩ Tryd.f101
def N21:FnK tab:=⟨[.val (.int .u32) (.no)],TPte,fun a:W .u32×Unit=>F_pte_Of a.1,fun r:TPte=>(.val (.named .TPte) r (.no),[.undef])⟩
def t21:Tt:=tbl [(33,N16)]
def g22:=gx ⟨[0,1,4,5,6,7,18],[0],[true,true],[]⟩ Tryd.f87
def N22:FnK tab:=⟨[.box (.named .TWalker) (.st [.no,.yes 0]),.val (.int .u32) (.no)],TPte×Bool×TWalker,fun a:TWalker×W .u32×Unit=>F_walk_walker_entry a.1 a.2.1,fun r:TPte×Bool×TWalker=>(.tup [.val (.named .TPte) r.1 (.no),.val (.bool) r.2.1 (.no)],[.box 0 (.named .TWalker) r.2.2 (.st [.no,.yes 0]),.undef])⟩
def t22:Tt:=tbl [(32,N20),(101,N21)]
def g23:=gx ⟨[0,1,2],[],[true],[]⟩ Tryd.f89
def N23:FnK tab:=⟨[.val (.named .TPte) (.no)],Bool,fun a:TPte×Unit=>F_pte_Leaf a.1,fun r:Bool=>(.val (.bool) r (.no),[.undef])⟩
def g24:=gx ⟨[0,1,2,6,7,8,9,10,11,12,15,17,41,73],[],[true,true,true],[]⟩ Tryd.f70
def N24:FnK tab:=⟨[.val (.slice 1 (.int .u8)) (.no),.val (.int .u32) (.no),.val (.int .u32) (.no)],TPte×Sl 4 (W .u32)×Bool,fun a:Sl 1 (W .u8)×W .u32×W .u32×Unit=>F_walk_Walk a.1 a.2.1 a.2.2.1,fun r:TPte×Sl 4 (W .u32)×Bool=>(.tup [.val (.named .TPte) r.1 (.no),.val (.slice 4 (.int .u32)) r.2.1 (.no),.val (.bool) r.2.2 (.no)],[.undef,.undef,.undef])⟩
def t24:Tt:=tbl [(87,N22),(88,N17),(89,N23)]
def g25:=gx ⟨[0,1,2,3,6,7,9,12,13,17,21],[],[true],[]⟩ Tryd.f71
def N25:FnK tab:=⟨[.val (.named .TPte) (.no),.val (.int .i64) (.no),.val (.bool) (.no)],Bool,fun a:TPte×W .i64×Bool×Unit=>F_pte_Allows a.1 a.2.1 a.2.2.1,fun r:Bool=>(.val (.bool) r (.no),[.undef,.undef,.undef])⟩
def g26:=gx ⟨[0,1,2],[],[true],[]⟩ Tryd.f90
def N26:FnK tab:=⟨[.val (.named .TPte) (.no)],W .u32,fun a:TPte×Unit=>F_pte_page a.1,fun r:W .u32=>(.val (.int .u32) r (.no),[.undef])⟩
def g27:=gx ⟨[0,1,2,4],[],[true],[]⟩ Tryd.f72
def N27:FnK tab:=⟨[.val (.named .TPte) (.no),.val (.int .u32) (.no)],W .u32,fun a:TPte×W .u32×Unit=>F_pte_Addr a.1 a.2.1,fun r:W .u32=>(.val (.int .u32) r (.no),[.undef,.undef])⟩
def t27:Tt:=tbl [(90,N26)]
def g28:=gx ⟨[0,1,2,3,4,8,9,10,11,13,16,21,40],[],[true,true],[]⟩ Tryd.f46
def N28:FnK tab:=⟨[.val (.named .TArch) (.no),.val (.slice 1 (.int .u8)) (.no),.val (.int .u32) (.no),.val (.int .i64) (.no)],W .u32×W .i64,fun a:TArch×Sl 1 (W .u8)×W .u32×W .i64×Unit=>F_walk_Trans a.1 a.2.1 a.2.2.1 a.2.2.2.1,fun r:W .u32×W .i64=>(.tup [.val (.int .u32) r.1 (.no),.val (.int .i64) r.2 (.no)],[.undef,.undef,.undef,.undef])⟩
def t28:Tt:=tbl [(68,N11),(69,N12),(70,N24),(71,N25),(72,N27)]
def g29:=gx ⟨[0,1,2,3,4,5,10,11,12,13,17,29,35],[],[true,true],[]⟩ Tryd.f31
def N29:FnK tab:=⟨[.val (.named .TMach) (.no),.val (.slice 1 (.int .u8)) (.no),.val (.int .u32) (.no),.val (.int .i64) (.no),.val (.int .i64) (.no)],W .u32×W .i64,fun a:TMach×Sl 1 (W .u8)×W .u32×W .i64×W .i64×Unit=>F_step_reach a.1 a.2.1 a.2.2.1 a.2.2.2.1 a.2.2.2.2.1,fun r:W .u32×W .i64=>(.tup [.val (.int .u32) r.1 (.no),.val (.int .i64) r.2 (.no)],[.undef,.undef,.undef,.undef,.undef])⟩
def t29:Tt:=tbl [(45,N10),(46,N28),(47,N18)]
def g30:=gx ⟨[0,1,2,3,4,5,17],[],[true,true],[]⟩ Tryd.f22
def N30:FnK tab:=⟨[.val (.named .TMach) (.no)],W .u32×W .i64,fun a:TMach×Unit=>F_step_Fetch a.1,fun r:W .u32×W .i64=>(.tup [.val (.int .u32) r.1 (.no),.val (.int .i64) r.2 (.no)],[.undef])⟩
def t30:Tt:=tbl [(31,N29),(32,N20)]
def g31:=gx ⟨[0,2,3,10,17,20,27,34,37,40,43,46,49],[],[true],[]⟩ Tryd.f50
def N31:FnK tab:=⟨[.val (.int .i64) (.no)],W .i64,fun a:W .i64×Unit=>F_inst_Form a.1,fun r:W .i64=>(.val (.int .i64) r (.no),[.undef])⟩
def g32:=gx ⟨[0,1,4],[],[true],[]⟩ Tryd.f34
def N32:FnK tab:=⟨[.val (.int .i64) (.no),.val (.int .i64) (.no)],Bool,fun a:W .i64×W .i64×Unit=>F_inst_has a.1 a.2.1,fun r:Bool=>(.val (.bool) r (.no),[.undef,.undef])⟩
def t32:Tt:=tbl [(50,N31)]
def g33:=gx ⟨[0,1,4],[],[true],[]⟩ Tryd.f51
def N33:FnK tab:=⟨[.val (.int .u32) (.no),.val (.int .i64) (.no)],W .u32,fun a:W .u32×W .i64×Unit=>F_bits_Zext a.1 a.2.1,fun r:W .u32=>(.val (.int .u32) r (.no),[.undef,.undef])⟩
def t33:Tt:=tbl [(73,N13),(74,N14)]
def g34:=gx ⟨[0,2,5],[],[true],[]⟩ Tryd.f53
def N34:FnK tab:=⟨[.val (.int .i64) (.no)],W .i64,fun a:W .i64×Unit=>F_inst_width a.1,fun r:W .i64=>(.val (.int .i64) r (.no),[.undef])⟩
def t34:Tt:=tbl [(50,N31)]
def g35:=gx ⟨[0,1,4,5],[],[true],[]⟩ Tryd.f52
def N35:FnK tab:=⟨[.val (.int .u32) (.no),.val (.int .i64) (.no)],W .u32,fun a:W .u32×W .i64×Unit=>F_bits_Sext a.1 a.2.1,fun r:W .u32=>(.val (.int .u32) r (.no),[.undef,.undef])⟩
def t35:Tt:=tbl [(73,N13)]
def g36:=gx ⟨[0,1,4,6],[],[true],[]⟩ Tryd.f35
def N36:FnK tab:=⟨[.val (.int .i64) (.no),.val (.int .u32) (.no)],W .i64,fun a:W .i64×W .u32×Unit=>F_inst_number a.1 a.2.1,fun r:W .i64=>(.val (.int .i64) r (.no),[.undef,.undef])⟩
def t36:Tt:=tbl [(51,N33),(52,N35),(53,N34)]
def g37:=gx ⟨[0,1,4,5,6,16,24],[],[true],[]⟩ Tryd.f75
def N37:FnK tab:=⟨[.val (.int .i64) (.no),.val (.int .i64) (.no)],Bool,fun a:W .i64×W .i64×Unit=>F_inst_within a.1 a.2.1,fun r:Bool=>(.val (.bool) r (.no),[.undef,.undef])⟩
def g38:=gx ⟨[0,1,2,4,8,18,19,20,44,46,56],[],[true],[(11,[(1,.any),(18,.any),(19,.any)]),(12,[(1,.any),(2,.any)]),(13,[(1,.any),(18,.any),(19,.any)])]⟩ Tryd.f54
def K38_11:MarkK tab:=⟨[(1,.box (.named .TInst) (.no)),(18,.val (.arr 3 (.named .TS116)) (.no)),(19,.val (.int .i64) (.no))],[(.ret,[(1,.box (.named .TInst) (.no)),(2,.val (.int .i64) (.no))]),((.exit 0),[(1,.box (.named .TInst) (.no)),(2,.undef)])],L_inst_Right_11⟩
def N38:FnK tab:=⟨[.val (.named .TInst) (.no)],W .i64,fun a:TInst×Unit=>F_inst_Right a.1,fun r:W .i64=>(.val (.int .i64) r (.no),[.undef])⟩
def t38:Tt:=tbl [(34,N32),(50,N31),(75,N37)]
def q38:Qt:=mtbl [(11,K38_11)]
def g39:=gx ⟨[0,1,2,3,8,9,10],[],[true],[]⟩ Tryd.f55
def N39:FnK tab:=⟨[.val (.int .u32) (.no),.val (.int .i64) (.no),.val (.int .i64) (.no),.val (.int .u32) (.no)],W .u32,fun a:W .u32×W .i64×W .i64×W .u32×Unit=>F_bits_Put a.1 a.2.1 a.2.2.1 a.2.2.2.1,fun r:W .u32=>(.val (.int .u32) r (.no),[.undef,.undef,.undef,.undef])⟩
def t39:Tt:=tbl [(49,N15)]
def g40:=gx ⟨[0,1,2,3,4,5,9,32],[],[true,true],[]⟩ Tryd.f36
def N40:FnK tab:=⟨[.val (.named .TInst) (.no)],W .u32×W .i64,fun a:TInst×Unit=>F_inst_Enc a.1,fun r:W .u32×W .i64=>(.tup [.val (.int .u32) r.1 (.no),.val (.int .i64) r.2 (.no)],[.undef])⟩
def t40:Tt:=tbl [(34,N32),(53,N34),(54,N38),(55,N39)]
def g41:=gx ⟨[0,2,3,4,5,6,13,17,24,31,38,55],[],[true,true],[]⟩ Tryd.f23
def N41:FnK tab:=⟨[.val (.int .u32) (.no)],TInst×W .i64,fun a:W .u32×Unit=>F_inst_Dec a.1,fun r:TInst×W .i64=>(.tup [.val (.named .TInst) r.1 (.no),.val (.int .i64) r.2 (.no)],[.undef])⟩
def t41:Tt:=tbl [(33,N16),(34,N32),(35,N36),(36,N40)]
def g42:=gx ⟨[0,2],[],[true],[]⟩ Tryd.f24
def N42:FnK tab:=⟨[.val (.int .i64) (.no)],Bool,fun a:W .i64×Unit=>F_inst_Priv a.1,fun r:Bool=>(.val (.bool) r (.no),[.undef])⟩
def g43:=gx ⟨[0,2,3],[],[true],[]⟩ Tryd.f76
def N43:FnK tab:=⟨[.val (.bool) (.no)],W .u32,fun a:Bool×Unit=>F_alu_one a.1,fun r:W .u32=>(.val (.int .u32) r (.no),[.undef])⟩
def g44:=gx ⟨[0,2,3,5],[],[true],[(5,[(0,.any),(3,.any)]),(6,[(3,.any)]),(7,[(0,.any),(3,.any)])]⟩ Tryd.f91
def K44_5:MarkK tab:=⟨[(0,.val (.int .u32) (.no)),(3,.val (.int .i64) (.no))],[((.exit 0),[(3,.val (.int .i64) (.no))])],L_alu_Clz_5⟩
def N44:FnK tab:=⟨[.val (.int .u32) (.no)],W .i64,fun a:W .u32×Unit=>F_alu_Clz a.1,fun r:W .i64=>(.val (.int .i64) r (.no),[.undef])⟩
def q44:Qt:=mtbl [(5,K44_5)]
def g45:=gx ⟨[0,2,3,5],[],[true],[(5,[(0,.any),(3,.any)]),(6,[(3,.any)]),(7,[(0,.any),(3,.any)])]⟩ Tryd.f92
def K45_5:MarkK tab:=⟨[(0,.val (.int .u32) (.no)),(3,.val (.int .i64) (.no))],[((.exit 0),[(3,.val (.int .i64) (.no))])],L_alu_Pop_5⟩
def N45:FnK tab:=⟨[.val (.int .u32) (.no)],W .i64,fun a:W .u32×Unit=>F_alu_Pop a.1,fun r:W .i64=>(.val (.int .i64) r (.no),[.undef])⟩
def q45:Qt:=mtbl [(5,K45_5)]
def g46:=gx ⟨[0,2],[],[true],[]⟩ Tryd.f93
def N46:FnK tab:=⟨[.val (.int .u32) (.no)],W .u32,fun a:W .u32×Unit=>F_alu_Rev a.1,fun r:W .u32=>(.val (.int .u32) r (.no),[.undef])⟩
def g47:=gx ⟨[0,1,4,5,6,7,12,17],[],[true,true],[]⟩ Tryd.f77
def N47:FnK tab:=⟨[.val (.int .i64) (.no),.val (.int .u32) (.no)],W .u32×Bool,fun a:W .i64×W .u32×Unit=>F_alu_single a.1 a.2.1,fun r:W .u32×Bool=>(.tup [.val (.int .u32) r.1 (.no),.val (.bool) r.2 (.no)],[.undef,.undef])⟩
def t47:Tt:=tbl [(91,N44),(92,N45),(93,N46)]
def g48:=gx ⟨[0,2],[],[true],[]⟩ Tryd.f94
def N48:FnK tab:=⟨[.val (.int .u32) (.no)],W .u32,fun a:W .u32×Unit=>F_alu_low a.1,fun r:W .u32=>(.val (.int .u32) r (.no),[.undef])⟩
def g49:=gx ⟨[0,1,4,5],[],[true],[]⟩ Tryd.f102
def N49:FnK tab:=⟨[.val (.int .u32) (.no),.val (.int .i64) (.no)],W .u32,fun a:W .u32×W .i64×Unit=>F_bits_RotateLeft32 a.1 a.2.1,fun r:W .u32=>(.val (.int .u32) r (.no),[.undef,.undef])⟩
def g50:=gx ⟨[0,1,4],[],[true],[]⟩ Tryd.f95
def N50:FnK tab:=⟨[.val (.int .u32) (.no),.val (.int .i64) (.no)],W .u32,fun a:W .u32×W .i64×Unit=>F_bits_Rot a.1 a.2.1,fun r:W .u32=>(.val (.int .u32) r (.no),[.undef,.undef])⟩
def t50:Tt:=tbl [(102,N49)]
def g51:=gx ⟨[0,1,2,6,7,8,9,15,21,27,34,41,50],[],[true,true],[]⟩ Tryd.f78
def N51:FnK tab:=⟨[.val (.int .i64) (.no),.val (.int .u32) (.no),.val (.int .u32) (.no)],W .u32×Bool,fun a:W .i64×W .u32×W .u32×Unit=>F_alu_logic a.1 a.2.1 a.2.2.1,fun r:W .u32×Bool=>(.tup [.val (.int .u32) r.1 (.no),.val (.bool) r.2 (.no)],[.undef,.undef,.undef])⟩
def t51:Tt:=tbl [(94,N48),(95,N50)]
def g52:=gx ⟨[0,1,2,6,7,8,9,15,20,29,35,43,51,55],[],[true,true],[]⟩ Tryd.f56
def N52:FnK tab:=⟨[.val (.int .i64) (.no),.val (.int .u32) (.no),.val (.int .u32) (.no)],W .u32×Bool,fun a:W .i64×W .u32×W .u32×Unit=>F_alu_Do a.1 a.2.1 a.2.2.1,fun r:W .u32×Bool=>(.tup [.val (.int .u32) r.1 (.no),.val (.bool) r.2 (.no)],[.undef,.undef,.undef])⟩
def t52:Tt:=tbl [(76,N43),(77,N47),(78,N51)]
def g53:=gx ⟨[0,1,4],[],[true],[]⟩ Tryd.f80
def N53:FnK tab:=⟨[.val (.int .u32) (.no),.val (.int .u32) (.no)],TMul,fun a:W .u32×W .u32×Unit=>F_mul_New a.1 a.2.1,fun r:TMul=>(.val (.named .TMul) r (.no),[.undef,.undef])⟩
def g54:=gx ⟨[0,1,2,3,4,7,15],[],[true],[]⟩ Tryd.f96
def N54:FnK tab:=⟨[.val (.named .TMul) (.no)],TMul,fun a:TMul×Unit=>F_mul_Step a.1,fun r:TMul=>(.val (.named .TMul) r (.no),[.undef])⟩
def g55:=gx ⟨[0,1,2,3,10,11,12],[],[true,true],[(7,[(1,.any),(10,.any),(11,.any)]),(8,[(1,.any)]),(9,[(1,.any),(10,.any),(11,.any)])]⟩ Tryd.f79
def K55_7:MarkK tab:=⟨[(1,.box (.named .TMul) (.no)),(10,.val (.int .i64) (.no)),(11,.val (.int .i64) (.no))],[((.exit 0),[(1,.box (.named .TMul) (.no))])],L_mul_Run_7⟩
def N55:FnK tab:=⟨[.val (.named .TMul) (.no)],W .u32×W .u32,fun a:TMul×Unit=>F_mul_Run a.1,fun r:W .u32×W .u32=>(.tup [.val (.int .u32) r.1 (.no),.val (.int .u32) r.2 (.no)],[.undef])⟩
def t55:Tt:=tbl [(96,N54)]
def q55:Qt:=mtbl [(7,K55_7)]
def g56:=gx ⟨[0,1,4,7],[],[true],[]⟩ Tryd.f81
def N56:FnK tab:=⟨[.val (.int .u32) (.no),.val (.int .u32) (.no)],W .u32,fun a:W .u32×W .u32×Unit=>F_mul_less a.1 a.2.1,fun r:W .u32=>(.val (.int .u32) r (.no),[.undef,.undef])⟩
def g57:=gx ⟨[0,1,2,6,7,8,9,17,18,21,24],[],[true,true],[]⟩ Tryd.f57
def N57:FnK tab:=⟨[.val (.int .i64) (.no),.val (.int .u32) (.no),.val (.int .u32) (.no)],W .u32×Bool,fun a:W .i64×W .u32×W .u32×Unit=>F_mul_Do a.1 a.2.1 a.2.2.1,fun r:W .u32×Bool=>(.tup [.val (.int .u32) r.1 (.no),.val (.bool) r.2 (.no)],[.undef,.undef,.undef])⟩
def t57:Tt:=tbl [(79,N55),(80,N53),(81,N56)]
def g58:=gx ⟨[0,1,4],[],[true],[]⟩ Tryd.f83
def N58:FnK tab:=⟨[.val (.int .u32) (.no),.val (.int .u32) (.no)],TDiv,fun a:W .u32×W .u32×Unit=>F_div_New a.1 a.2.1,fun r:TDiv=>(.val (.named .TDiv) r (.no),[.undef,.undef])⟩
def g59:=gx ⟨[0,2],[],[true],[]⟩ Tryd.f97
def N59:FnK tab:=⟨[.val (.int .i64) (.no)],W .i64,fun a:W .i64×Unit=>F_div_left a.1,fun r:W .i64=>(.val (.int .i64) r (.no),[.undef])⟩
def g60:=gx ⟨[0,1,2,3,10,37],[],[true],[]⟩ Tryd.f98
def N60:FnK tab:=⟨[.val (.named .TDiv) (.no)],TDiv,fun a:TDiv×Unit=>F_div_Step a.1,fun r:TDiv=>(.val (.named .TDiv) r (.no),[.undef])⟩
def t60:Tt:=tbl [(97,N59)]
def g61:=gx ⟨[0,1,2,3,6,7,8],[],[true,true],[(5,[(1,.any),(6,.any),(7,.any)]),(6,[(1,.any)]),(7,[(1,.any),(6,.any),(7,.any)])]⟩ Tryd.f82
def K61_5:MarkK tab:=⟨[(1,.box (.named .TDiv) (.no)),(6,.val (.int .i64) (.no)),(7,.val (.int .i64) (.no))],[((.exit 0),[(1,.box (.named .TDiv) (.no))])],L_div_Run_5⟩
def N61:FnK tab:=⟨[.val (.named .TDiv) (.no)],W .u32×W .u32,fun a:TDiv×Unit=>F_div_Run a.1,fun r:W .u32×W .u32=>(.tup [.val (.int .u32) r.1 (.no),.val (.int .u32) r.2 (.no)],[.undef])⟩
def t61:Tt:=tbl [(97,N59),(98,N60)]
def q61:Qt:=mtbl [(5,K61_5)]
def g62:=gx ⟨[0,2,5],[],[true],[]⟩ Tryd.f84
def N62:FnK tab:=⟨[.val (.int .u32) (.no)],W .u32,fun a:W .u32×Unit=>F_div_away a.1,fun r:W .u32=>(.val (.int .u32) r (.no),[.undef])⟩
def g63:=gx ⟨[0,1,2,6,7,8,11,12,13,14,15,25,35,48,58,63,67],[],[true,true],[]⟩ Tryd.f58
def N63:FnK tab:=⟨[.val (.int .i64) (.no),.val (.int .u32) (.no),.val (.int .u32) (.no)],W .u32×Bool,fun a:W .i64×W .u32×W .u32×Unit=>F_div_Do a.1 a.2.1 a.2.2.1,fun r:W .u32×Bool=>(.tup [.val (.int .u32) r.1 (.no),.val (.bool) r.2 (.no)],[.undef,.undef,.undef])⟩
def t63:Tt:=tbl [(82,N61),(83,N58),(84,N62)]
def g64:=gx ⟨[0,1,2,6,8],[],[true],[]⟩ Tryd.f59
def N64:FnK tab:=⟨[.val (.int .u32) (.no),.val (.int .u32) (.no),.val (.int .u32) (.no)],W .u32,fun a:W .u32×W .u32×W .u32×Unit=>F_alu_Cmov a.1 a.2.1 a.2.2.1,fun r:W .u32=>(.val (.int .u32) r (.no),[.undef,.undef,.undef])⟩
def g65:=gx ⟨[0,1,2,7],[0],[],[]⟩ Tryd.f60
def N65:FnK tab:=⟨[.box (.named .TWork) (.no),.val (.int .i64) (.no),.val (.int .u32) (.no)],TWork,fun a:TWork×W .i64×W .u32×Unit=>F_step_work_put a.1 a.2.1 a.2.2.1,fun r:TWork=>(.tup [],[.box 0 (.named .TWork) r (.no),.undef,.undef])⟩
def g66:=gx ⟨[0,1,2,3,5,8,9,17,30,40,55],[0],[],[(3,[(0,.any),(2,.any),(3,.any),(5,.any),(17,.any)]),(4,[(0,.any),(2,.any),(3,.any),(5,.any)]),(5,[(0,.any),(2,.any),(3,.any),(5,.any)]),(6,[(0,.any)]),(11,[(0,.any),(2,.any),(3,.any),(5,.any),(8,.any),(9,.any)]),(12,[(0,.any)]),(15,[(0,.any),(2,.any),(3,.any),(5,.any),(8,.any),(9,.any)]),(16,[(0,.any)]),(17,[(0,.any),(2,.any),(3,.any),(5,.any),(8,.any),(55,.any)]),(18,[(0,.any),(5,.any),(8,.any)]),(19,[(0,.any),(5,.any),(8,.any)]),(20,[(0,.any)])]⟩ Tryd.f37
def K66_3:MarkK tab:=⟨[(0,.box (.named .TWork) (.no)),(2,.val (.int .u32) (.no)),(3,.val (.int .u32) (.no)),(5,.box (.named .TInst) (.no)),(17,.val (.bool) (.no))],[(.normal,[(0,.box (.named .TWork) (.no)),(2,.val (.int .u32) (.no)),(3,.val (.int .u32) (.no)),(5,.box (.named .TInst) (.no))])],L_step_work_reckon_3⟩
def K66_17:MarkK tab:=⟨[(0,.box (.named .TWork) (.no)),(2,.val (.int .u32) (.no)),(3,.val (.int .u32) (.no)),(5,.box (.named .TInst) (.no)),(8,.val (.int .u32) (.no)),(55,.val (.bool) (.no))],[(.normal,[(0,.box (.named .TWork) (.no)),(5,.box (.named .TInst) (.no)),(8,.val (.int .u32) (.no))])],L_step_work_reckon_17⟩
def K66_19:MarkK tab:=⟨[(0,.box (.named .TWork) (.no)),(5,.box (.named .TInst) (.no)),(8,.val (.int .u32) (.no))],[(.normal,[(0,.box (.named .TWork) (.no))])],L_step_work_reckon_19⟩
def K66_15:MarkK tab:=⟨[(0,.box (.named .TWork) (.no)),(2,.val (.int .u32) (.no)),(3,.val (.int .u32) (.no)),(5,.box (.named .TInst) (.no)),(8,.val (.int .u32) (.no)),(9,.val (.bool) (.no))],[(.normal,[(0,.box (.named .TWork) (.no))])],L_step_work_reckon_15⟩
def K66_11:MarkK tab:=⟨[(0,.box (.named .TWork) (.no)),(2,.val (.int .u32) (.no)),(3,.val (.int .u32) (.no)),(5,.box (.named .TInst) (.no)),(8,.val (.int .u32) (.no)),(9,.val (.bool) (.no))],[(.normal,[(0,.box (.named .TWork) (.no))])],L_step_work_reckon_11⟩
def K66_5:MarkK tab:=⟨[(0,.box (.named .TWork) (.no)),(2,.val (.int .u32) (.no)),(3,.val (.int .u32) (.no)),(5,.box (.named .TInst) (.no))],[(.normal,[(0,.box (.named .TWork) (.no))])],L_step_work_reckon_5⟩
def N66:FnK tab:=⟨[.box (.named .TWork) (.no),.val (.named .TInst) (.no),.val (.int .u32) (.no),.val (.int .u32) (.no)],TWork,fun a:TWork×TInst×W .u32×W .u32×Unit=>F_step_work_reckon a.1 a.2.1 a.2.2.1 a.2.2.2.1,fun r:TWork=>(.tup [],[.box 0 (.named .TWork) r (.no),.undef,.undef,.undef])⟩
def t66:Tt:=tbl [(56,N52),(57,N57),(58,N63),(59,N64),(60,N65)]
def q66:Qt:=mtbl [(3,K66_3),(17,K66_17),(19,K66_19),(15,K66_15),(11,K66_11),(5,K66_5)]
def g67:=gx ⟨[0,2,3,4,8],[],[true],[]⟩ Tryd.f61
def N67:FnK tab:=⟨[.val (.int .i64) (.no)],W .i64,fun a:W .i64×Unit=>F_step_sizeOf a.1,fun r:W .i64=>(.val (.int .i64) r (.no),[.undef])⟩
def g68:=gx ⟨[0,1,2],[0],[],[]⟩ Tryd.f62
def N68:FnK tab:=⟨[.box (.named .TWork) (.no),.val (.int .i64) (.no),.val (.int .u32) (.no)],TWork,fun a:TWork×W .i64×W .u32×Unit=>F_step_work_fails a.1 a.2.1 a.2.2.1,fun r:TWork=>(.tup [],[.box 0 (.named .TWork) r (.no),.undef,.undef])⟩
def g69:=gx ⟨[0,1,2,4,6,7,8,9,10,22,40,57,58,65,76],[0],[],[]⟩ Tryd.f38
def N69:FnK tab:=⟨[.box (.named .TWork) (.no),.val (.named .TInst) (.no),.val (.int .u32) (.no)],TWork,fun a:TWork×TInst×W .u32×Unit=>F_step_work_loads a.1 a.2.1 a.2.2.1,fun r:TWork=>(.tup [],[.box 0 (.named .TWork) r (.no),.undef,.undef])⟩
def t69:Tt:=tbl [(31,N29),(32,N20),(52,N35),(60,N65),(61,N67),(62,N68)]
def N70:FnK tab:=cloneK 1 (.int .u8)
def g71:=gx ⟨[0,1,4,5,6,11,12,13],[],[true],[(7,[(0,.any),(5,.any),(11,.any),(12,.any)]),(8,[(5,.any)]),(9,[(0,.any),(5,.any),(11,.any),(12,.any)])]⟩ Tryd.f100
def K71_7:MarkK tab:=⟨[(0,.val (.int .u32) (.no)),(5,.val (.slice 1 (.int .u8)) (.yes 0)),(11,.val (.int .i64) (.no)),(12,.val (.int .i64) (.no))],[((.exit 0),[(5,.val (.slice 1 (.int .u8)) (.yes 0))])],L_bits_Bytes_7⟩
def N71:FnK tab:=⟨[.val (.int .u32) (.no),.val (.int .i64) (.no)],Sl 1 (W .u8),fun a:W .u32×W .i64×Unit=>F_bits_Bytes a.1 a.2.1,fun r:Sl 1 (W .u8)=>(.val (.slice 1 (.int .u8)) r (.no),[.undef,.undef])⟩
def t71:Tt:=tbl [(73,N13)]
def q71:Qt:=mtbl [(7,K71_7)]
def g72:=gx ⟨[0,1,2,3,8,9,10,11,17],[],[true,true],[]⟩ Tryd.f85
def N72:FnK tab:=⟨[.val (.slice 1 (.int .u8)) (.no),.val (.int .u32) (.no),.val (.int .i64) (.no),.val (.int .u32) (.no)],Sl 1 (W .u8)×W .i64,fun a:Sl 1 (W .u8)×W .u32×W .i64×W .u32×Unit=>F_mem_Write a.1 a.2.1 a.2.2.1 a.2.2.2.1,fun r:Sl 1 (W .u8)×W .i64=>(.tup [.val (.slice 1 (.int .u8)) r.1 (.no),.val (.int .i64) r.2 (.no)],[.undef,.undef,.undef,.undef])⟩
def t72:Tt:=tbl [(47,N18),(99,N70),(100,N71)]
def g73:=gx ⟨[0,1,2,3,8,9,23],[0],[],[]⟩ Tryd.f63
def N73:FnK tab:=⟨[.box (.named .TWork) (.no),.val (.int .u32) (.no),.val (.int .i64) (.no),.val (.int .u32) (.no)],TWork,fun a:TWork×W .u32×W .i64×W .u32×Unit=>F_step_work_stores a.1 a.2.1 a.2.2.1 a.2.2.2.1,fun r:TWork=>(.tup [],[.box 0 (.named .TWork) r (.no),.undef,.undef,.undef])⟩
def t73:Tt:=tbl [(51,N33),(85,N72)]
def g74:=gx ⟨[0,1,2,3,5,8,9,10,11,36],[0],[],[]⟩ Tryd.f39
def N74:FnK tab:=⟨[.box (.named .TWork) (.no),.val (.named .TInst) (.no),.val (.int .u32) (.no),.val (.int .u32) (.no)],TWork,fun a:TWork×TInst×W .u32×W .u32×Unit=>F_step_work_keeps a.1 a.2.1 a.2.2.1 a.2.2.2.1,fun r:TWork=>(.tup [],[.box 0 (.named .TWork) r (.no),.undef,.undef,.undef])⟩
def t74:Tt:=tbl [(31,N29),(61,N67),(62,N68),(63,N73)]
def g75:=gx ⟨[0,1,2,6,7,8,13,18,25,32,37],[],[true],[]⟩ Tryd.f64
def N75:FnK tab:=⟨[.val (.int .i64) (.no),.val (.int .u32) (.no),.val (.int .u32) (.no)],Bool,fun a:W .i64×W .u32×W .u32×Unit=>F_alu_Taken a.1 a.2.1 a.2.2.1,fun r:Bool=>(.val (.bool) r (.no),[.undef,.undef,.undef])⟩
def g76:=gx ⟨[0,1,2,3,5,8,9,27,32,37,48],[0],[],[]⟩ Tryd.f40
def N76:FnK tab:=⟨[.box (.named .TWork) (.no),.val (.named .TInst) (.no),.val (.int .u32) (.no),.val (.int .u32) (.no)],TWork,fun a:TWork×TInst×W .u32×W .u32×Unit=>F_step_work_goes a.1 a.2.1 a.2.2.1 a.2.2.2.1,fun r:TWork=>(.tup [],[.box 0 (.named .TWork) r (.no),.undef,.undef,.undef])⟩
def t76:Tt:=tbl [(60,N65),(64,N75)]
def g77:=gx ⟨[0,1,2,3,5,8,9,10,27,42,52],[0],[],[]⟩ Tryd.f41
def N77:FnK tab:=⟨[.box (.named .TWork) (.no),.val (.named .TInst) (.no),.val (.int .u32) (.no),.val (.int .u32) (.no)],TWork,fun a:TWork×TInst×W .u32×W .u32×Unit=>F_step_work_atOnce a.1 a.2.1 a.2.2.1 a.2.2.2.1,fun r:TWork=>(.tup [],[.box 0 (.named .TWork) r (.no),.undef,.undef,.undef])⟩
def t77:Tt:=tbl [(31,N29),(32,N20),(60,N65),(62,N68),(63,N73)]
def g78:=gx ⟨[0,1,2,3,4,7],[],[true,true],[]⟩ Tryd.f65
def N78:FnK tab:=⟨[.val (.named .TArch) (.no)],TArch×W .i64,fun a:TArch×Unit=>F_trap_Return a.1,fun r:TArch×W .i64=>(.tup [.val (.named .TArch) r.1 (.no),.val (.int .i64) r.2 (.no)],[.undef])⟩
def t78:Tt:=tbl [(25,N2),(44,N6)]
def g79:=gx ⟨[0,1,2,3,6,13,19],[],[true],[]⟩ Tryd.f86
def N79:FnK tab:=⟨[.val (.named .TArch) (.no),.val (.int .i64) (.no),.val (.bool) (.no)],W .i64,fun a:TArch×W .i64×Bool×Unit=>F_csr_may a.1 a.2.1 a.2.2.1,fun r:W .i64=>(.val (.int .i64) r (.no),[.undef,.undef,.undef])⟩
def t79:Tt:=tbl [(25,N2)]
def g80:=gx ⟨[0,1,2,4,5,6,13],[],[true,true],[]⟩ Tryd.f66
def N80:FnK tab:=⟨[.val (.named .TArch) (.no),.val (.int .i64) (.no)],W .u32×W .i64,fun a:TArch×W .i64×Unit=>F_csr_Read a.1 a.2.1,fun r:W .u32×W .i64=>(.tup [.val (.int .u32) r.1 (.no),.val (.int .i64) r.2 (.no)],[.undef,.undef])⟩
def t80:Tt:=tbl [(86,N79)]
def g81:=gx ⟨[0,1,2,3,6,7,8,13],[],[true,true],[]⟩ Tryd.f67
def N81:FnK tab:=⟨[.val (.named .TArch) (.no),.val (.int .i64) (.no),.val (.int .u32) (.no)],TArch×W .i64,fun a:TArch×W .i64×W .u32×Unit=>F_csr_Write a.1 a.2.1 a.2.2.1,fun r:TArch×W .i64=>(.tup [.val (.named .TArch) r.1 (.no),.val (.int .i64) r.2 (.no)],[.undef,.undef,.undef])⟩
def t81:Tt:=tbl [(43,N5),(86,N79)]
def g82:=gx ⟨[0,1,2,4,6,7,8,9,10,11,13,14,18,30,49,63,77,92,106,118,150,157],[0],[],[(0,[(0,.fz)])]⟩ Tryd.f42
def N82:FnK tab:=⟨[.box (.named .TWork) (.no),.val (.named .TInst) (.no),.val (.int .u32) (.no)],TWork,fun a:TWork×TInst×W .u32×Unit=>F_step_work_system a.1 a.2.1 a.2.2.1,fun r:TWork=>(.tup [],[.box 0 (.named .TWork) r (.no),.undef,.undef])⟩
def t82:Tt:=tbl [(60,N65),(62,N68),(65,N78),(66,N80),(67,N81)]
def g83:=gx ⟨[0,1,2,3,5,6,7,8,9,10,36,44,51,59,67],[],[true],[]⟩ Tryd.f26
def N83:FnK tab:=⟨[.val (.named .TMach) (.no),.val (.int .u32) (.no),.val (.named .TInst) (.no)],TWork,fun a:TMach×W .u32×TInst×Unit=>F_step_does a.1 a.2.1 a.2.2.1,fun r:TWork=>(.val (.named .TWork) r (.no),[.undef,.undef,.undef])⟩
def t83:Tt:=tbl [(37,N66),(38,N69),(39,N74),(40,N76),(41,N77),(42,N82)]
def g84:=gx ⟨[0,1,2,3,21],[],[true],[]⟩ Tryd.f27
def N84:FnK tab:=⟨[.val (.named .TArch) (.no)],TArch,fun a:TArch×Unit=>F_csr_Count a.1,fun r:TArch=>(.val (.named .TArch) r (.no),[.undef])⟩
def g85:=gx ⟨[0,1,2],[],[true],[]⟩ Tryd.f28
def N85:FnK tab:=⟨[.val (.named .TArch) (.no)],Bool,fun a:TArch×Unit=>F_trap_Single a.1,fun r:Bool=>(.val (.bool) r (.no),[.undef])⟩
def t85:Tt:=tbl [(25,N2)]
def g86:=gx ⟨[0,1,2,3,4,5,6,7,8,9,10,13,20,32,47,63,79,93,124],[],[true,true,true],[]⟩ Tryd.f14
def N86:FnK tab:=⟨[.val (.named .TMach) (.no)],TMach×TEvent×Bool,fun a:TMach×Unit=>F_step_Step a.1,fun r:TMach×TEvent×Bool=>(.tup [.val (.named .TMach) r.1 (.no),.val (.named .TEvent) r.2.1 (.no),.val (.bool) r.2.2 (.no)],[.undef])⟩
def t86:Tt:=tbl [(19,N4),(20,N8),(21,N9),(22,N30),(23,N41),(24,N42),(25,N2),(26,N83),(27,N84),(28,N85),(29,N7)]
def g87:=gx ⟨[0,1,2,3,6,7,8,9,11,12,13,14,17,18,19,21,22,23,24,30,45],[],[true,true],[(7,[(1,.any),(3,.any),(6,.any),(8,.own),(17,.any),(18,.any)]),(8,[(3,.any),(6,.any),(8,.any)]),(9,[(1,.any),(3,.any),(6,.any),(8,.own),(17,.any),(18,.any)]),(18,[(1,.any),(3,.any),(6,.any),(8,.any),(9,.any),(17,.any),(18,.any),(21,.any),(22,.any),(23,.any)]),(19,[(1,.any),(3,.any),(6,.any),(8,.any),(17,.any),(18,.any)]),(20,[(1,.any),(3,.any),(6,.any),(8,.any),(9,.any),(17,.any),(18,.any),(21,.any),(22,.any),(23,.any)])]⟩ Tryd.f9
def K87_18:MarkK tab:=⟨[(1,.val (.slice 16 (.named .TIrq)) (.no)),(3,.box (.named .TMach) (.no)),(6,.box (.named .TMach) (.st [.no,.yes 0,.yes 0,.yes 0])),(8,.val (.slice 72 (.named .TEvent)) (.yes 0)),(9,.val (.int .i64) (.no)),(17,.val (.int .i64) (.no)),(18,.val (.int .i64) (.no)),(21,.val (.slice 16 (.named .TIrq)) (.no)),(22,.val (.int .i64) (.no)),(23,.val (.int .i64) (.no))],[((.exit 2),[(1,.val (.slice 16 (.named .TIrq)) (.no)),(3,.box (.named .TMach) (.no)),(6,.box (.named .TMach) (.st [.no,.yes 0,.yes 0,.yes 0])),(8,.val (.slice 72 (.named .TEvent)) (.yes 0)),(17,.val (.int .i64) (.no)),(18,.val (.int .i64) (.no))])],L_run_Run_18⟩
def K87_7:MarkK tab:=⟨[(1,.val (.slice 16 (.named .TIrq)) (.no)),(3,.box (.named .TMach) (.no)),(6,.box (.named .TMach) (.st [.no,.yes 0,.yes 0,.yes 0])),(8,.val (.slice 72 (.named .TEvent)) (.yes 0)),(17,.val (.int .i64) (.no)),(18,.val (.int .i64) (.no))],[((.exit 0),[(3,.box (.named .TMach) (.no)),(6,.box (.named .TMach) (.st [.no,.yes 0,.yes 0,.yes 0])),(8,.val (.slice 72 (.named .TEvent)) (.yes 0))])],L_run_Run_7⟩
def N87:FnK tab:=⟨[.val (.named .TMach) (.no),.val (.slice 16 (.named .TIrq)) (.no),.val (.int .i64) (.no)],TMach×Sl 72 (TEvent),fun a:TMach×Sl 16 (TIrq)×W .i64×Unit=>F_run_Run a.1 a.2.1 a.2.2.1,fun r:TMach×Sl 72 (TEvent)=>(.tup [.val (.named .TMach) r.1 (.no),.val (.slice 72 (.named .TEvent)) r.2 (.no)],[.undef,.undef,.undef])⟩
def t87:Tt:=tbl [(13,N1),(14,N86)]
def q87:Qt:=mtbl [(18,K87_18),(7,K87_7)]
def g88:=gx ⟨[0,2,3,4,5,6],[],[true],[(7,[(0,.any),(3,.any),(5,.any)]),(8,[(3,.any)]),(9,[(0,.any),(3,.any),(5,.any)])]⟩ Tryd.f15
def K88_7:MarkK tab:=⟨[(0,.val (.int .u32) (.no)),(3,.box (.arr 8 (.int .u8)) (.no)),(5,.val (.int .i64) (.no))],[((.exit 0),[(3,.box (.arr 8 (.int .u8)) (.no))])],L_num_Hex_7⟩
def N88:FnK tab:=⟨[.val (.int .u32) (.no)],Str,fun a:W .u32×Unit=>F_num_Hex a.1,fun r:Str=>(.val (.str) r (.no),[.undef])⟩
def q88:Qt:=mtbl [(7,K88_7)]
def g89:=gx ⟨[0,2,3,4,5,9,13,28],[],[true],[(13,[(0,.any),(3,.any),(4,.any),(5,.any)]),(14,[(0,.any),(3,.any),(4,.any),(5,.any)]),(15,[(0,.any),(3,.any),(4,.any),(5,.any)])]⟩ Tryd.f17
def K89_13:MarkK tab:=⟨[(0,.val (.int .i64) (.no)),(3,.box (.arr 20 (.int .u8)) (.no)),(4,.val (.int .u64) (.no)),(5,.val (.int .i64) (.no))],[((.exit 0),[(0,.val (.int .i64) (.no)),(3,.box (.arr 20 (.int .u8)) (.no)),(4,.val (.int .u64) (.no)),(5,.val (.int .i64) (.no))])],L_num_Dec_13⟩
def N89:FnK tab:=⟨[.val (.int .i64) (.no)],Str,fun a:W .i64×Unit=>F_num_Dec a.1,fun r:Str=>(.val (.str) r (.no),[.undef])⟩
def q89:Qt:=mtbl [(13,K89_13)]
def g90:=gx ⟨[0,1,4,6],[],[true],[]⟩ Tryd.f16
def N90:FnK tab:=⟨[.val (.int .i64) (.no),.val (.int .u32) (.no)],Str,fun a:W .i64×W .u32×Unit=>F_run_register a.1 a.2.1,fun r:Str=>(.val (.str) r (.no),[.undef,.undef])⟩
def t90:Tt:=tbl [(15,N88),(17,N89)]
def g91:=gx ⟨[0,2,3,5,15,18,21],[],[true],[]⟩ Tryd.f18
def N91:FnK tab:=⟨[.val (.int .i64) (.no)],Str,fun a:W .i64×Unit=>F_text_Cause a.1,fun r:Str=>(.val (.str) r (.no),[.undef])⟩
def g92:=gx ⟨[0,1,2,3,4,27,46,55,60],[],[true],[]⟩ Tryd.f10
def N92:FnK tab:=⟨[.val (.named .TEvent) (.no)],Str,fun a:TEvent×Unit=>F_run_Line a.1,fun r:Str=>(.val (.str) r (.no),[.undef])⟩
def t92:Tt:=tbl [(15,N88),(16,N90),(17,N89),(18,N91)]
def g93:=gx ⟨[0,1,2,3,4],[],[true],[]⟩ Tryd.f11
def N93:FnK tab:=⟨[.val (.named .TEvent) (.no),.val (.named .TEvent) (.no)],Bool,fun a:TEvent×TEvent×Unit=>F_run_Same a.1 a.2.1,fun r:Bool=>(.val (.bool) r (.no),[.undef,.undef])⟩
def g94:=gx ⟨[0,1,4,5,10,11,12,35],[],[true],[(5,[(0,.any),(1,.any),(10,.any),(11,.any)]),(6,[(4,.any)]),(7,[(0,.any),(1,.any),(10,.any),(11,.any)])]⟩ Tryd.f5
def K94_5:MarkK tab:=⟨[(0,.val (.slice 72 (.named .TEvent)) (.no)),(1,.val (.slice 72 (.named .TEvent)) (.no)),(10,.val (.int .i64) (.no)),(11,.val (.int .i64) (.no))],[(.ret,[(4,.val (.int .i64) (.no))]),((.exit 0),[(4,.undef)])],L_run_First_5⟩
def N94:FnK tab:=⟨[.val (.slice 72 (.named .TEvent)) (.no),.val (.slice 72 (.named .TEvent)) (.no)],W .i64,fun a:Sl 72 (TEvent)×Sl 72 (TEvent)×Unit=>F_run_First a.1 a.2.1,fun r:W .i64=>(.val (.int .i64) r (.no),[.undef,.undef])⟩
def t94:Tt:=tbl [(11,N93)]
def q94:Qt:=mtbl [(5,K94_5)]
def g95:=gx ⟨[0,1,2,10],[2],[],[]⟩ Tryd.f12
def N95:FnK tab:=⟨[.val (.int .i64) (.no),.val (.int .u32) (.no),.box (.named .TArch) (.no)],TArch,fun a:W .i64×W .u32×TArch×Unit=>F_run_Replay_1 a.1 a.2.1 a.2.2.1,fun r:TArch=>(.tup [],[.undef,.undef,.box 0 (.named .TArch) r (.no)])⟩
def g96:=gx ⟨[0,1,2,4,5,7,9,10,11,12],[],[true],[(7,[(2,.any),(4,.any),(5,.any),(9,.any),(10,.any),(11,.any)]),(8,[(2,.any),(4,.any)]),(9,[(2,.any),(4,.any),(5,.any),(9,.any),(10,.any),(11,.any)])]⟩ Tryd.f7
def K96_7:MarkK tab:=⟨[(2,.box (.named .TArch) (.no)),(4,.box (.named .TArch) (.no)),(5,.fn 12 [] [.ptr 2 []]),(9,.val (.slice 72 (.named .TEvent)) (.no)),(10,.val (.int .i64) (.no)),(11,.val (.int .i64) (.no))],[((.exit 0),[(2,.box (.named .TArch) (.no)),(4,.box (.named .TArch) (.no))])],L_run_Replay_7⟩
def N96:FnK tab:=⟨[.val (.named .TArch) (.no),.val (.slice 72 (.named .TEvent)) (.no)],TArch,fun a:TArch×Sl 72 (TEvent)×Unit=>F_run_Replay a.1 a.2.1,fun r:TArch=>(.val (.named .TArch) r (.no),[.undef,.undef])⟩
def t96:Tt:=tbl [(12,N95)]
def q96:Qt:=mtbl [(7,K96_7)]
def g97:=gx ⟨[0,1,2,3],[],[true],[]⟩ Tryd.f4
def N97:FnK tab:=⟨[],Bool,fun a:Unit=>F_law16_awake,fun r:Bool=>(.val (.bool) r (.no),[])⟩
def t97:Tt:=tbl [(5,N94),(7,N96),(9,N87),(10,N92)]
def g98:=gx ⟨[0,1,4,5,15,38],[],[true],[(5,[(0,.any),(1,.any),(5,.any)]),(6,[(4,.any)]),(7,[(0,.any),(1,.any),(5,.any)])]⟩ Tryd.f6
def K98_5:MarkK tab:=⟨[(0,.val (.slice 72 (.named .TEvent)) (.no)),(1,.val (.slice 72 (.named .TEvent)) (.no)),(5,.val (.int .i64) (.no))],[(.ret,[(4,.val (.int .i64) (.no))]),((.exit 0),[(4,.undef)])],L_ref16_First_5⟩
def N98:FnK tab:=⟨[.val (.slice 72 (.named .TEvent)) (.no),.val (.slice 72 (.named .TEvent)) (.no)],W .i64,fun a:Sl 72 (TEvent)×Sl 72 (TEvent)×Unit=>F_ref16_First a.1 a.2.1,fun r:W .i64=>(.val (.int .i64) r (.no),[.undef,.undef])⟩
def q98:Qt:=mtbl [(5,K98_5)]
def g99:=gx ⟨[0,1,2,4,5,9,25,51],[],[true],[(5,[(1,.any),(2,.any),(4,.any),(5,.any)]),(6,[(2,.any),(4,.any)]),(7,[(1,.any),(2,.any),(4,.any),(5,.any)])]⟩ Tryd.f8
def K99_5:MarkK tab:=⟨[(1,.val (.slice 72 (.named .TEvent)) (.no)),(2,.box (.named .TArch) (.no)),(4,.box (.named .TArch) (.no)),(5,.val (.int .i64) (.no))],[((.exit 0),[(2,.box (.named .TArch) (.no)),(4,.box (.named .TArch) (.no))])],L_ref16_Replay_5⟩
def N99:FnK tab:=⟨[.val (.named .TArch) (.no),.val (.slice 72 (.named .TEvent)) (.no)],TArch,fun a:TArch×Sl 72 (TEvent)×Unit=>F_ref16_Replay a.1 a.2.1,fun r:TArch=>(.val (.named .TArch) r (.no),[.undef,.undef])⟩
def q99:Qt:=mtbl [(5,K99_5)]
def g100:=gx ⟨[0,1,2,5,6,14],[],[true],[]⟩ Tryd.f3
def N100:FnK tab:=⟨[.val (.slice 72 (.named .TEvent)) (.no),.val (.slice 72 (.named .TEvent)) (.no),.val (.named .TArch) (.no)],Bool,fun a:Sl 72 (TEvent)×Sl 72 (TEvent)×TArch×Unit=>F_law16_RunFirst a.1 a.2.1 a.2.2.1,fun r:Bool=>(.val (.bool) r (.no),[.undef,.undef,.undef])⟩
def t100:Tt:=tbl [(4,N97),(5,N94),(6,N98),(7,N96),(8,N99)]
end
end Go.Proofs.YtedhidchlfhegaaDoor
