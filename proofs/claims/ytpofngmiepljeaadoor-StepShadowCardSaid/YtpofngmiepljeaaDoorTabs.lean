/- YtpofngmiepljeaaDoorTabs: the tables of functions and marks. No statement of the seat is proved here. -/
import Derived.Test.YtpofngmiepljeaaDoorTrees
import Derived.Test.YtpofngmiepljeaaDoorChecked
import Derived.Test.YtpofngmiepljeaaDoorA2G
set_option linter.unusedSimpArgs false
set_option linter.unusedVariables false
set_option maxRecDepth 100000
namespace Go.Proofs.YtpofngmiepljeaaDoor
open Go Go.A2
noncomputable section
abbrev Tt:=Nat→List (FnK tab)
abbrev Qt:=Nat→Option (MarkK tab)
def t0:Tt:=tbl []
def q0:Qt:=fun _=>none
def gx (x:FnX) (f:Func):AFn tab:=gOf Tryd.prog cx x f
abbrev OkN:=FnOk (X:=tab) Tryd.prog
abbrev Mo (t:Tt) (q:Qt) (g:AFn tab):=MarkOk (fnsC t) (markL q) g.keep fuel
def g1:=gx ⟨[0,2],[],[true],[]⟩ Tryd.f26
def N1:FnK tab:=⟨[.val (.slice 1 (.int .u8)) (.no)],Bool,fun a:Sl 1 (W .u8)×Unit=>F_ref10_Right a.1,fun r:Bool=>(.val (.bool) r (.no),[.undef])⟩
def g2:=gx ⟨[0,2,3,4,6,8,11,18],[],[true],[]⟩ Tryd.f27
def N2:FnK tab:=⟨[.val (.int .i64) (.no)],W .u32,fun a:W .i64×Unit=>F_ref11_Masked a.1,fun r:W .u32=>(.val (.int .u32) r (.no),[.undef])⟩
def g3:=gx ⟨[0,1,2,3,23,25,41],[],[true],[(11,[(1,.any),(3,.any)]),(12,[(2,.any)]),(13,[(1,.any),(3,.any)])]⟩ Tryd.f9
def K3_11:MarkK tab:=⟨[(1,.box (.named .TMach) (.no)),(3,.val (.int .i64) (.no))],[(.ret,[(2,.val (.bool) (.no))]),((.exit 0),[(2,.undef)])],L_ref15_Right_11⟩
def N3:FnK tab:=⟨[.val (.named .TMach) (.no)],Bool,fun a:TMach×Unit=>F_ref15_Right a.1,fun r:Bool=>(.val (.bool) r (.no),[.undef])⟩
def t3:Tt:=tbl [(26,N1),(27,N2)]
def q3:Qt:=mtbl [(11,K3_11)]
def g4:=gx ⟨[0,1,2],[],[true],[]⟩ Tryd.f5
def N4:FnK tab:=⟨[.val (.named .TMach) (.no)],Bool,fun a:TMach×Unit=>F_law15_Light a.1,fun r:Bool=>(.val (.bool) r (.no),[.undef])⟩
def t4:Tt:=tbl [(9,N3)]
def g5:=gx ⟨[0],[],[true],[]⟩ Tryd.f11
def N5:FnK tab:=⟨[],Sl 1 (W .u8),fun a:Unit=>F_law15_word,fun r:Sl 1 (W .u8)=>(.val (.slice 1 (.int .u8)) r (.no),[])⟩
def g6:=gx ⟨[0,1,2],[],[true],[]⟩ Tryd.f49
def N6:FnK tab:=⟨[.val (.named .TSeg) (.no)],W .i64,fun a:TSeg×Unit=>F_rom_end a.1,fun r:W .i64=>(.val (.int .i64) r (.no),[.undef])⟩
def g7:=gx ⟨[0,1,2,3,5,9,11,12,13,14,17,22,26],[],[true],[(13,[(3,.any),(11,.any),(12,.any),(13,.any)]),(14,[(2,.any)]),(15,[(3,.any),(11,.any),(12,.any),(13,.any)])]⟩ Tryd.f48
def K7_13:MarkK tab:=⟨[(3,.val (.int .i64) (.no)),(11,.val (.slice 32 (.named .TSeg)) (.no)),(12,.val (.int .i64) (.no)),(13,.val (.int .i64) (.no))],[(.ret,[(2,.val (.int .i64) (.no))]),((.exit 0),[(2,.undef)])],L_rom_Right_13⟩
def N7:FnK tab:=⟨[.val (.named .TImage) (.no)],W .i64,fun a:TImage×Unit=>F_rom_Right a.1,fun r:W .i64=>(.val (.int .i64) r (.no),[.undef])⟩
def t7:Tt:=tbl [(49,N6)]
def q7:Qt:=mtbl [(13,K7_13)]
def g8:=gx ⟨[0,1,3,4,5,6,7,9,20,24,29,30,31,32,38],[],[true,true],[(21,[(0,.any),(7,.any),(29,.any),(30,.any),(31,.any)]),(22,[(4,.any),(5,.any),(7,.any)]),(23,[(0,.any),(7,.any),(29,.any),(30,.any),(31,.any)])]⟩ Tryd.f28
def K8_21:MarkK tab:=⟨[(0,.val (.int .i64) (.no)),(7,.val (.slice 1 (.int .u8)) (.yes 0)),(29,.val (.slice 32 (.named .TSeg)) (.no)),(30,.val (.int .i64) (.no)),(31,.val (.int .i64) (.no))],[(.ret,[(4,.val (.slice 1 (.int .u8)) (.full)),(5,.val (.int .i64) (.no)),(7,.val (.slice 1 (.int .u8)) (.yes 0))]),((.exit 0),[(4,.undef),(5,.undef),(7,.val (.slice 1 (.int .u8)) (.yes 0))])],L_rom_Load_21⟩
def N8:FnK tab:=⟨[.val (.int .i64) (.no),.val (.named .TImage) (.no)],Sl 1 (W .u8)×W .i64,fun a:W .i64×TImage×Unit=>F_rom_Load a.1 a.2.1,fun r:Sl 1 (W .u8)×W .i64=>(.tup [.val (.slice 1 (.int .u8)) r.1 (.no),.val (.int .i64) r.2 (.no)],[.undef,.undef])⟩
def t8:Tt:=tbl [(48,N7),(49,N6)]
def q8:Qt:=mtbl [(21,K8_21)]
def g9:=gx ⟨[0,1,2,4,5,6,7,8,16],[],[true,true],[]⟩ Tryd.f10
def N9:FnK tab:=⟨[.val (.named .TImage) (.no),.val (.int .i64) (.no)],TMach×W .i64,fun a:TImage×W .i64×Unit=>F_step_New a.1 a.2.1,fun r:TMach×W .i64=>(.tup [.val (.named .TMach) r.1 (.no),.val (.int .i64) r.2 (.no)],[.undef,.undef])⟩
def t9:Tt:=tbl [(28,N8)]
def g10:=gx ⟨[0,1,2],[],[true],[]⟩ Tryd.f19
def N10:FnK tab:=⟨[.val (.named .TArch) (.no)],Bool,fun a:TArch×Unit=>F_csr_Kernel a.1,fun r:Bool=>(.val (.bool) r (.no),[.undef])⟩
def g11:=gx ⟨[0],[],[true],[]⟩ Tryd.f31
def N11:FnK tab:=⟨[],Arr 3 (TSource),fun a:Unit=>F_trap_sources,fun r:Arr 3 (TSource)=>(.val (.arr 3 (.named .TSource)) r (.no),[])⟩
def g12:=gx ⟨[0,1,2,3,5,14,22,23,24,30],[],[true],[(13,[(3,.any),(22,.any),(23,.any)]),(14,[(2,.any)]),(15,[(3,.any),(22,.any),(23,.any)])]⟩ Tryd.f14
def K12_13:MarkK tab:=⟨[(3,.val (.int .u32) (.no)),(22,.val (.arr 3 (.named .TSource)) (.no)),(23,.val (.int .i64) (.no))],[(.ret,[(2,.val (.int .i64) (.no))]),((.exit 0),[(2,.undef)])],L_trap_Pending_13⟩
def N12:FnK tab:=⟨[.val (.named .TArch) (.no)],W .i64,fun a:TArch×Unit=>F_trap_Pending a.1,fun r:W .i64=>(.val (.int .i64) r (.no),[.undef])⟩
def t12:Tt:=tbl [(19,N10),(31,N11)]
def q12:Qt:=mtbl [(13,K12_13)]
def g13:=gx ⟨[0,2,3,10],[],[true],[]⟩ Tryd.f42
def N13:FnK tab:=⟨[.val (.int .i64) (.no)],W .u32,fun a:W .i64×Unit=>F_csr_Masked a.1,fun r:W .u32=>(.val (.int .u32) r (.no),[.undef])⟩
def g14:=gx ⟨[0,1,2,6,10],[],[true],[]⟩ Tryd.f43
def N14:FnK tab:=⟨[.val (.int .u32) (.no),.val (.int .u32) (.no),.val (.int .u32) (.no)],W .u32,fun a:W .u32×W .u32×W .u32×Unit=>F_trap_moved a.1 a.2.1 a.2.2.1,fun r:W .u32=>(.val (.int .u32) r (.no),[.undef,.undef,.undef])⟩
def g15:=gx ⟨[0,1,2,3,4,8,9],[],[true],[]⟩ Tryd.f23
def N15:FnK tab:=⟨[.val (.named .TArch) (.no),.val (.int .i64) (.no),.val (.int .u32) (.no),.val (.int .u32) (.no)],TArch,fun a:TArch×W .i64×W .u32×W .u32×Unit=>F_trap_Take a.1 a.2.1 a.2.2.1 a.2.2.2.1,fun r:TArch=>(.val (.named .TArch) r (.no),[.undef,.undef,.undef,.undef])⟩
def t15:Tt:=tbl [(42,N13),(43,N14)]
def g16:=gx ⟨[0,1,2,3,4,8,9,10,11],[],[true,true,true],[]⟩ Tryd.f15
def N16:FnK tab:=⟨[.val (.named .TMach) (.no),.val (.int .u32) (.no),.val (.int .i64) (.no),.val (.int .u32) (.no)],TMach×TEvent×Bool,fun a:TMach×W .u32×W .i64×W .u32×Unit=>F_step_traps a.1 a.2.1 a.2.2.1 a.2.2.2.1,fun r:TMach×TEvent×Bool=>(.tup [.val (.named .TMach) r.1 (.no),.val (.named .TEvent) r.2.1 (.no),.val (.bool) r.2.2 (.no)],[.undef,.undef,.undef,.undef])⟩
def t16:Tt:=tbl [(23,N15)]
def g17:=gx ⟨[0,1,2,4,5],[],[true],[]⟩ Tryd.f16
def N17:FnK tab:=⟨[.val (.named .TArch) (.no),.val (.int .u32) (.no)],Bool,fun a:TArch×W .u32×Unit=>F_trap_Stops a.1 a.2.1,fun r:Bool=>(.val (.bool) r (.no),[.undef,.undef])⟩
def t17:Tt:=tbl [(19,N10)]
def g18:=gx ⟨[0,1,4],[],[true],[]⟩ Tryd.f44
def N18:FnK tab:=⟨[.val (.int .u32) (.no),.val (.int .i64) (.no)],Bool,fun a:W .u32×W .i64×Unit=>F_bits_Aligned a.1 a.2.1,fun r:Bool=>(.val (.bool) r (.no),[.undef,.undef])⟩
def g19:=gx ⟨[0,1,2],[],[true],[]⟩ Tryd.f69
def N19:FnK tab:=⟨[.val (.named .TArch) (.no)],Bool,fun a:TArch×Unit=>F_walk_Paged a.1,fun r:Bool=>(.val (.bool) r (.no),[.undef])⟩
def t19:Tt:=tbl [(19,N10)]
def g20:=gx ⟨[0,2,3,4,6,8],[],[true],[]⟩ Tryd.f70
def N20:FnK tab:=⟨[.val (.int .i64) (.no)],W .i64,fun a:W .i64×Unit=>F_walk_Fault a.1,fun r:W .i64=>(.val (.int .i64) r (.no),[.undef])⟩
def g21:=gx ⟨[0,1,2,6],[],[true],[]⟩ Tryd.f74
def N21:FnK tab:=⟨[.val (.int .i64) (.no),.val (.int .i64) (.no),.val (.int .i64) (.no)],W .i64,fun a:W .i64×W .i64×W .i64×Unit=>F_bits_clamp a.1 a.2.1 a.2.2.1,fun r:W .i64=>(.val (.int .i64) r (.no),[.undef,.undef,.undef])⟩
def g22:=gx ⟨[0,2],[],[true],[]⟩ Tryd.f75
def N22:FnK tab:=⟨[.val (.int .i64) (.no)],W .u32,fun a:W .i64×Unit=>F_bits_ones a.1,fun r:W .u32=>(.val (.int .u32) r (.no),[.undef])⟩
def g23:=gx ⟨[0,1,4,5,12],[],[true,true],[]⟩ Tryd.f50
def N23:FnK tab:=⟨[.val (.int .i64) (.no),.val (.int .i64) (.no)],W .u32×W .i64,fun a:W .i64×W .i64×Unit=>F_bits_mask a.1 a.2.1,fun r:W .u32×W .i64=>(.tup [.val (.int .u32) r.1 (.no),.val (.int .i64) r.2 (.no)],[.undef,.undef])⟩
def t23:Tt:=tbl [(74,N21),(75,N22)]
def g24:=gx ⟨[0,1,2,6,7,8],[],[true],[]⟩ Tryd.f32
def N24:FnK tab:=⟨[.val (.int .u32) (.no),.val (.int .i64) (.no),.val (.int .i64) (.no)],W .u32,fun a:W .u32×W .i64×W .i64×Unit=>F_bits_Field a.1 a.2.1 a.2.2.1,fun r:W .u32=>(.val (.int .u32) r (.no),[.undef,.undef,.undef])⟩
def t24:Tt:=tbl [(50,N23)]
def g25:=gx ⟨[0,1,4,5,6,11],[],[true],[]⟩ Tryd.f89
def N25:FnK tab:=⟨[.val (.int .u32) (.no),.val (.int .i64) (.no)],W .i64,fun a:W .u32×W .i64×Unit=>F_pte_Index a.1 a.2.1,fun r:W .i64=>(.val (.int .i64) r (.no),[.undef,.undef])⟩
def t25:Tt:=tbl [(32,N24)]
def g26:=gx ⟨[0,1,2,6,27],[],[true],[]⟩ Tryd.f46
def N26:FnK tab:=⟨[.val (.slice 1 (.int .u8)) (.no),.val (.int .u32) (.no),.val (.int .i64) (.no)],W .i64,fun a:Sl 1 (W .u8)×W .u32×W .i64×Unit=>F_mem_Check a.1 a.2.1 a.2.2.1,fun r:W .i64=>(.val (.int .i64) r (.no),[.undef,.undef,.undef])⟩
def g27:=gx ⟨[0,2,3,4,5,10,11,12,13],[],[true],[(7,[(3,.any),(10,.any),(11,.any),(12,.any)]),(8,[(3,.any)]),(9,[(3,.any),(10,.any),(11,.any),(12,.any)])]⟩ Tryd.f47
def K27_7:MarkK tab:=⟨[(3,.val (.int .u32) (.no)),(10,.val (.slice 1 (.int .u8)) (.no)),(11,.val (.int .i64) (.no)),(12,.val (.int .i64) (.no))],[((.exit 0),[(3,.val (.int .u32) (.no))])],L_bits_Of_7⟩
def N27:FnK tab:=⟨[.val (.slice 1 (.int .u8)) (.no)],W .u32,fun a:Sl 1 (W .u8)×Unit=>F_bits_Of a.1,fun r:W .u32=>(.val (.int .u32) r (.no),[.undef])⟩
def q27:Qt:=mtbl [(7,K27_7)]
def g28:=gx ⟨[0,1,2,6,7,8,14],[],[true,true],[]⟩ Tryd.f25
def N28:FnK tab:=⟨[.val (.slice 1 (.int .u8)) (.no),.val (.int .u32) (.no),.val (.int .i64) (.no)],W .u32×W .i64,fun a:Sl 1 (W .u8)×W .u32×W .i64×Unit=>F_mem_Read a.1 a.2.1 a.2.2.1,fun r:W .u32×W .i64=>(.tup [.val (.int .u32) r.1 (.no),.val (.int .i64) r.2 (.no)],[.undef,.undef,.undef])⟩
def t28:Tt:=tbl [(46,N26),(47,N27)]
def g29:=gx ⟨[0,2],[],[true],[]⟩ Tryd.f102
def N29:FnK tab:=⟨[.val (.int .u32) (.no)],TPte,fun a:W .u32×Unit=>F_pte_Of a.1,fun r:TPte=>(.val (.named .TPte) r (.no),[.undef])⟩
def t29:Tt:=tbl [(32,N24)]
def g30:=gx ⟨[0,1,4,5,6,7,18],[0],[true,true],[]⟩ Tryd.f88
def N30:FnK tab:=⟨[.box (.named .TWalker) (.st [.no,.yes 0]),.val (.int .u32) (.no)],TPte×Bool×TWalker,fun a:TWalker×W .u32×Unit=>F_walk_walker_entry a.1 a.2.1,fun r:TPte×Bool×TWalker=>(.tup [.val (.named .TPte) r.1 (.no),.val (.bool) r.2.1 (.no)],[.box 0 (.named .TWalker) r.2.2 (.st [.no,.yes 0]),.undef])⟩
def t30:Tt:=tbl [(25,N28),(102,N29)]
def g31:=gx ⟨[0,1,2],[],[true],[]⟩ Tryd.f90
def N31:FnK tab:=⟨[.val (.named .TPte) (.no)],Bool,fun a:TPte×Unit=>F_pte_Leaf a.1,fun r:Bool=>(.val (.bool) r (.no),[.undef])⟩
def g32:=gx ⟨[0,1,2,6,7,8,9,10,11,12,15,17,41,73],[],[true,true,true],[]⟩ Tryd.f71
def N32:FnK tab:=⟨[.val (.slice 1 (.int .u8)) (.no),.val (.int .u32) (.no),.val (.int .u32) (.no)],TPte×Sl 4 (W .u32)×Bool,fun a:Sl 1 (W .u8)×W .u32×W .u32×Unit=>F_walk_Walk a.1 a.2.1 a.2.2.1,fun r:TPte×Sl 4 (W .u32)×Bool=>(.tup [.val (.named .TPte) r.1 (.no),.val (.slice 4 (.int .u32)) r.2.1 (.no),.val (.bool) r.2.2 (.no)],[.undef,.undef,.undef])⟩
def t32:Tt:=tbl [(88,N30),(89,N25),(90,N31)]
def g33:=gx ⟨[0,1,2,3,6,7,9,12,13,17,21],[],[true],[]⟩ Tryd.f72
def N33:FnK tab:=⟨[.val (.named .TPte) (.no),.val (.int .i64) (.no),.val (.bool) (.no)],Bool,fun a:TPte×W .i64×Bool×Unit=>F_pte_Allows a.1 a.2.1 a.2.2.1,fun r:Bool=>(.val (.bool) r (.no),[.undef,.undef,.undef])⟩
def g34:=gx ⟨[0,1,2],[],[true],[]⟩ Tryd.f91
def N34:FnK tab:=⟨[.val (.named .TPte) (.no)],W .u32,fun a:TPte×Unit=>F_pte_page a.1,fun r:W .u32=>(.val (.int .u32) r (.no),[.undef])⟩
def g35:=gx ⟨[0,1,2,4],[],[true],[]⟩ Tryd.f73
def N35:FnK tab:=⟨[.val (.named .TPte) (.no),.val (.int .u32) (.no)],W .u32,fun a:TPte×W .u32×Unit=>F_pte_Addr a.1 a.2.1,fun r:W .u32=>(.val (.int .u32) r (.no),[.undef,.undef])⟩
def t35:Tt:=tbl [(91,N34)]
def g36:=gx ⟨[0,1,2,3,4,8,9,10,11,13,16,21,40],[],[true,true],[]⟩ Tryd.f45
def N36:FnK tab:=⟨[.val (.named .TArch) (.no),.val (.slice 1 (.int .u8)) (.no),.val (.int .u32) (.no),.val (.int .i64) (.no)],W .u32×W .i64,fun a:TArch×Sl 1 (W .u8)×W .u32×W .i64×Unit=>F_walk_Trans a.1 a.2.1 a.2.2.1 a.2.2.2.1,fun r:W .u32×W .i64=>(.tup [.val (.int .u32) r.1 (.no),.val (.int .i64) r.2 (.no)],[.undef,.undef,.undef,.undef])⟩
def t36:Tt:=tbl [(69,N19),(70,N20),(71,N32),(72,N33),(73,N35)]
def g37:=gx ⟨[0,1,2,3,4,5,10,11,12,13,17,29,35],[],[true,true],[]⟩ Tryd.f24
def N37:FnK tab:=⟨[.val (.named .TMach) (.no),.val (.slice 1 (.int .u8)) (.no),.val (.int .u32) (.no),.val (.int .i64) (.no),.val (.int .i64) (.no)],W .u32×W .i64,fun a:TMach×Sl 1 (W .u8)×W .u32×W .i64×W .i64×Unit=>F_step_reach a.1 a.2.1 a.2.2.1 a.2.2.2.1 a.2.2.2.2.1,fun r:W .u32×W .i64=>(.tup [.val (.int .u32) r.1 (.no),.val (.int .i64) r.2 (.no)],[.undef,.undef,.undef,.undef,.undef])⟩
def t37:Tt:=tbl [(44,N18),(45,N36),(46,N26)]
def g38:=gx ⟨[0,1,2,3,4,5,17],[],[true,true],[]⟩ Tryd.f8
def N38:FnK tab:=⟨[.val (.named .TMach) (.no)],W .u32×W .i64,fun a:TMach×Unit=>F_step_Fetch a.1,fun r:W .u32×W .i64=>(.tup [.val (.int .u32) r.1 (.no),.val (.int .i64) r.2 (.no)],[.undef])⟩
def t38:Tt:=tbl [(24,N37),(25,N28)]
def g39:=gx ⟨[0,2,3,10,17,20,27,34,37,40,43,46,49],[],[true],[]⟩ Tryd.f51
def N39:FnK tab:=⟨[.val (.int .i64) (.no)],W .i64,fun a:W .i64×Unit=>F_inst_Form a.1,fun r:W .i64=>(.val (.int .i64) r (.no),[.undef])⟩
def g40:=gx ⟨[0,1,4],[],[true],[]⟩ Tryd.f33
def N40:FnK tab:=⟨[.val (.int .i64) (.no),.val (.int .i64) (.no)],Bool,fun a:W .i64×W .i64×Unit=>F_inst_has a.1 a.2.1,fun r:Bool=>(.val (.bool) r (.no),[.undef,.undef])⟩
def t40:Tt:=tbl [(51,N39)]
def g41:=gx ⟨[0,1,4],[],[true],[]⟩ Tryd.f52
def N41:FnK tab:=⟨[.val (.int .u32) (.no),.val (.int .i64) (.no)],W .u32,fun a:W .u32×W .i64×Unit=>F_bits_Zext a.1 a.2.1,fun r:W .u32=>(.val (.int .u32) r (.no),[.undef,.undef])⟩
def t41:Tt:=tbl [(74,N21),(75,N22)]
def g42:=gx ⟨[0,2,5],[],[true],[]⟩ Tryd.f54
def N42:FnK tab:=⟨[.val (.int .i64) (.no)],W .i64,fun a:W .i64×Unit=>F_inst_width a.1,fun r:W .i64=>(.val (.int .i64) r (.no),[.undef])⟩
def t42:Tt:=tbl [(51,N39)]
def g43:=gx ⟨[0,1,4,5],[],[true],[]⟩ Tryd.f53
def N43:FnK tab:=⟨[.val (.int .u32) (.no),.val (.int .i64) (.no)],W .u32,fun a:W .u32×W .i64×Unit=>F_bits_Sext a.1 a.2.1,fun r:W .u32=>(.val (.int .u32) r (.no),[.undef,.undef])⟩
def t43:Tt:=tbl [(74,N21)]
def g44:=gx ⟨[0,1,4,6],[],[true],[]⟩ Tryd.f34
def N44:FnK tab:=⟨[.val (.int .i64) (.no),.val (.int .u32) (.no)],W .i64,fun a:W .i64×W .u32×Unit=>F_inst_number a.1 a.2.1,fun r:W .i64=>(.val (.int .i64) r (.no),[.undef,.undef])⟩
def t44:Tt:=tbl [(52,N41),(53,N43),(54,N42)]
def g45:=gx ⟨[0,1,4,5,6,16,24],[],[true],[]⟩ Tryd.f76
def N45:FnK tab:=⟨[.val (.int .i64) (.no),.val (.int .i64) (.no)],Bool,fun a:W .i64×W .i64×Unit=>F_inst_within a.1 a.2.1,fun r:Bool=>(.val (.bool) r (.no),[.undef,.undef])⟩
def g46:=gx ⟨[0,1,2,4,8,18,19,20,44,46,56],[],[true],[(11,[(1,.any),(18,.any),(19,.any)]),(12,[(1,.any),(2,.any)]),(13,[(1,.any),(18,.any),(19,.any)])]⟩ Tryd.f55
def K46_11:MarkK tab:=⟨[(1,.box (.named .TInst) (.no)),(18,.val (.arr 3 (.named .TS116)) (.no)),(19,.val (.int .i64) (.no))],[(.ret,[(1,.box (.named .TInst) (.no)),(2,.val (.int .i64) (.no))]),((.exit 0),[(1,.box (.named .TInst) (.no)),(2,.undef)])],L_inst_Right_11⟩
def N46:FnK tab:=⟨[.val (.named .TInst) (.no)],W .i64,fun a:TInst×Unit=>F_inst_Right a.1,fun r:W .i64=>(.val (.int .i64) r (.no),[.undef])⟩
def t46:Tt:=tbl [(33,N40),(51,N39),(76,N45)]
def q46:Qt:=mtbl [(11,K46_11)]
def g47:=gx ⟨[0,1,2,3,8,9,10],[],[true],[]⟩ Tryd.f56
def N47:FnK tab:=⟨[.val (.int .u32) (.no),.val (.int .i64) (.no),.val (.int .i64) (.no),.val (.int .u32) (.no)],W .u32,fun a:W .u32×W .i64×W .i64×W .u32×Unit=>F_bits_Put a.1 a.2.1 a.2.2.1 a.2.2.2.1,fun r:W .u32=>(.val (.int .u32) r (.no),[.undef,.undef,.undef,.undef])⟩
def t47:Tt:=tbl [(50,N23)]
def g48:=gx ⟨[0,1,2,3,4,5,9,32],[],[true,true],[]⟩ Tryd.f35
def N48:FnK tab:=⟨[.val (.named .TInst) (.no)],W .u32×W .i64,fun a:TInst×Unit=>F_inst_Enc a.1,fun r:W .u32×W .i64=>(.tup [.val (.int .u32) r.1 (.no),.val (.int .i64) r.2 (.no)],[.undef])⟩
def t48:Tt:=tbl [(33,N40),(54,N42),(55,N46),(56,N47)]
def g49:=gx ⟨[0,2,3,4,5,6,13,17,24,31,38,55],[],[true,true],[]⟩ Tryd.f17
def N49:FnK tab:=⟨[.val (.int .u32) (.no)],TInst×W .i64,fun a:W .u32×Unit=>F_inst_Dec a.1,fun r:TInst×W .i64=>(.tup [.val (.named .TInst) r.1 (.no),.val (.int .i64) r.2 (.no)],[.undef])⟩
def t49:Tt:=tbl [(32,N24),(33,N40),(34,N44),(35,N48)]
def g50:=gx ⟨[0,2],[],[true],[]⟩ Tryd.f18
def N50:FnK tab:=⟨[.val (.int .i64) (.no)],Bool,fun a:W .i64×Unit=>F_inst_Priv a.1,fun r:Bool=>(.val (.bool) r (.no),[.undef])⟩
def g51:=gx ⟨[0,2,3],[],[true],[]⟩ Tryd.f77
def N51:FnK tab:=⟨[.val (.bool) (.no)],W .u32,fun a:Bool×Unit=>F_alu_one a.1,fun r:W .u32=>(.val (.int .u32) r (.no),[.undef])⟩
def g52:=gx ⟨[0,2,3,5],[],[true],[(5,[(0,.any),(3,.any)]),(6,[(3,.any)]),(7,[(0,.any),(3,.any)])]⟩ Tryd.f92
def K52_5:MarkK tab:=⟨[(0,.val (.int .u32) (.no)),(3,.val (.int .i64) (.no))],[((.exit 0),[(3,.val (.int .i64) (.no))])],L_alu_Clz_5⟩
def N52:FnK tab:=⟨[.val (.int .u32) (.no)],W .i64,fun a:W .u32×Unit=>F_alu_Clz a.1,fun r:W .i64=>(.val (.int .i64) r (.no),[.undef])⟩
def q52:Qt:=mtbl [(5,K52_5)]
def g53:=gx ⟨[0,2,3,5],[],[true],[(5,[(0,.any),(3,.any)]),(6,[(3,.any)]),(7,[(0,.any),(3,.any)])]⟩ Tryd.f93
def K53_5:MarkK tab:=⟨[(0,.val (.int .u32) (.no)),(3,.val (.int .i64) (.no))],[((.exit 0),[(3,.val (.int .i64) (.no))])],L_alu_Pop_5⟩
def N53:FnK tab:=⟨[.val (.int .u32) (.no)],W .i64,fun a:W .u32×Unit=>F_alu_Pop a.1,fun r:W .i64=>(.val (.int .i64) r (.no),[.undef])⟩
def q53:Qt:=mtbl [(5,K53_5)]
def g54:=gx ⟨[0,2],[],[true],[]⟩ Tryd.f94
def N54:FnK tab:=⟨[.val (.int .u32) (.no)],W .u32,fun a:W .u32×Unit=>F_alu_Rev a.1,fun r:W .u32=>(.val (.int .u32) r (.no),[.undef])⟩
def g55:=gx ⟨[0,1,4,5,6,7,12,17],[],[true,true],[]⟩ Tryd.f78
def N55:FnK tab:=⟨[.val (.int .i64) (.no),.val (.int .u32) (.no)],W .u32×Bool,fun a:W .i64×W .u32×Unit=>F_alu_single a.1 a.2.1,fun r:W .u32×Bool=>(.tup [.val (.int .u32) r.1 (.no),.val (.bool) r.2 (.no)],[.undef,.undef])⟩
def t55:Tt:=tbl [(92,N52),(93,N53),(94,N54)]
def g56:=gx ⟨[0,2],[],[true],[]⟩ Tryd.f95
def N56:FnK tab:=⟨[.val (.int .u32) (.no)],W .u32,fun a:W .u32×Unit=>F_alu_low a.1,fun r:W .u32=>(.val (.int .u32) r (.no),[.undef])⟩
def g57:=gx ⟨[0,1,4,5],[],[true],[]⟩ Tryd.f103
def N57:FnK tab:=⟨[.val (.int .u32) (.no),.val (.int .i64) (.no)],W .u32,fun a:W .u32×W .i64×Unit=>F_bits_RotateLeft32 a.1 a.2.1,fun r:W .u32=>(.val (.int .u32) r (.no),[.undef,.undef])⟩
def g58:=gx ⟨[0,1,4],[],[true],[]⟩ Tryd.f96
def N58:FnK tab:=⟨[.val (.int .u32) (.no),.val (.int .i64) (.no)],W .u32,fun a:W .u32×W .i64×Unit=>F_bits_Rot a.1 a.2.1,fun r:W .u32=>(.val (.int .u32) r (.no),[.undef,.undef])⟩
def t58:Tt:=tbl [(103,N57)]
def g59:=gx ⟨[0,1,2,6,7,8,9,15,21,27,34,41,50],[],[true,true],[]⟩ Tryd.f79
def N59:FnK tab:=⟨[.val (.int .i64) (.no),.val (.int .u32) (.no),.val (.int .u32) (.no)],W .u32×Bool,fun a:W .i64×W .u32×W .u32×Unit=>F_alu_logic a.1 a.2.1 a.2.2.1,fun r:W .u32×Bool=>(.tup [.val (.int .u32) r.1 (.no),.val (.bool) r.2 (.no)],[.undef,.undef,.undef])⟩
def t59:Tt:=tbl [(95,N56),(96,N58)]
def g60:=gx ⟨[0,1,2,6,7,8,9,15,20,29,35,43,51,55],[],[true,true],[]⟩ Tryd.f57
def N60:FnK tab:=⟨[.val (.int .i64) (.no),.val (.int .u32) (.no),.val (.int .u32) (.no)],W .u32×Bool,fun a:W .i64×W .u32×W .u32×Unit=>F_alu_Do a.1 a.2.1 a.2.2.1,fun r:W .u32×Bool=>(.tup [.val (.int .u32) r.1 (.no),.val (.bool) r.2 (.no)],[.undef,.undef,.undef])⟩
def t60:Tt:=tbl [(77,N51),(78,N55),(79,N59)]
def g61:=gx ⟨[0,1,4],[],[true],[]⟩ Tryd.f81
def N61:FnK tab:=⟨[.val (.int .u32) (.no),.val (.int .u32) (.no)],TMul,fun a:W .u32×W .u32×Unit=>F_mul_New a.1 a.2.1,fun r:TMul=>(.val (.named .TMul) r (.no),[.undef,.undef])⟩
def g62:=gx ⟨[0,1,2,3,4,7,15],[],[true],[]⟩ Tryd.f97
def N62:FnK tab:=⟨[.val (.named .TMul) (.no)],TMul,fun a:TMul×Unit=>F_mul_Step a.1,fun r:TMul=>(.val (.named .TMul) r (.no),[.undef])⟩
def g63:=gx ⟨[0,1,2,3,10,11,12],[],[true,true],[(7,[(1,.any),(10,.any),(11,.any)]),(8,[(1,.any)]),(9,[(1,.any),(10,.any),(11,.any)])]⟩ Tryd.f80
def K63_7:MarkK tab:=⟨[(1,.box (.named .TMul) (.no)),(10,.val (.int .i64) (.no)),(11,.val (.int .i64) (.no))],[((.exit 0),[(1,.box (.named .TMul) (.no))])],L_mul_Run_7⟩
def N63:FnK tab:=⟨[.val (.named .TMul) (.no)],W .u32×W .u32,fun a:TMul×Unit=>F_mul_Run a.1,fun r:W .u32×W .u32=>(.tup [.val (.int .u32) r.1 (.no),.val (.int .u32) r.2 (.no)],[.undef])⟩
def t63:Tt:=tbl [(97,N62)]
def q63:Qt:=mtbl [(7,K63_7)]
def g64:=gx ⟨[0,1,4,7],[],[true],[]⟩ Tryd.f82
def N64:FnK tab:=⟨[.val (.int .u32) (.no),.val (.int .u32) (.no)],W .u32,fun a:W .u32×W .u32×Unit=>F_mul_less a.1 a.2.1,fun r:W .u32=>(.val (.int .u32) r (.no),[.undef,.undef])⟩
def g65:=gx ⟨[0,1,2,6,7,8,9,17,18,21,24],[],[true,true],[]⟩ Tryd.f58
def N65:FnK tab:=⟨[.val (.int .i64) (.no),.val (.int .u32) (.no),.val (.int .u32) (.no)],W .u32×Bool,fun a:W .i64×W .u32×W .u32×Unit=>F_mul_Do a.1 a.2.1 a.2.2.1,fun r:W .u32×Bool=>(.tup [.val (.int .u32) r.1 (.no),.val (.bool) r.2 (.no)],[.undef,.undef,.undef])⟩
def t65:Tt:=tbl [(80,N63),(81,N61),(82,N64)]
def g66:=gx ⟨[0,1,4],[],[true],[]⟩ Tryd.f84
def N66:FnK tab:=⟨[.val (.int .u32) (.no),.val (.int .u32) (.no)],TDiv,fun a:W .u32×W .u32×Unit=>F_div_New a.1 a.2.1,fun r:TDiv=>(.val (.named .TDiv) r (.no),[.undef,.undef])⟩
def g67:=gx ⟨[0,2],[],[true],[]⟩ Tryd.f98
def N67:FnK tab:=⟨[.val (.int .i64) (.no)],W .i64,fun a:W .i64×Unit=>F_div_left a.1,fun r:W .i64=>(.val (.int .i64) r (.no),[.undef])⟩
def g68:=gx ⟨[0,1,2,3,10,37],[],[true],[]⟩ Tryd.f99
def N68:FnK tab:=⟨[.val (.named .TDiv) (.no)],TDiv,fun a:TDiv×Unit=>F_div_Step a.1,fun r:TDiv=>(.val (.named .TDiv) r (.no),[.undef])⟩
def t68:Tt:=tbl [(98,N67)]
def g69:=gx ⟨[0,1,2,3,6,7,8],[],[true,true],[(5,[(1,.any),(6,.any),(7,.any)]),(6,[(1,.any)]),(7,[(1,.any),(6,.any),(7,.any)])]⟩ Tryd.f83
def K69_5:MarkK tab:=⟨[(1,.box (.named .TDiv) (.no)),(6,.val (.int .i64) (.no)),(7,.val (.int .i64) (.no))],[((.exit 0),[(1,.box (.named .TDiv) (.no))])],L_div_Run_5⟩
def N69:FnK tab:=⟨[.val (.named .TDiv) (.no)],W .u32×W .u32,fun a:TDiv×Unit=>F_div_Run a.1,fun r:W .u32×W .u32=>(.tup [.val (.int .u32) r.1 (.no),.val (.int .u32) r.2 (.no)],[.undef])⟩
def t69:Tt:=tbl [(98,N67),(99,N68)]
def q69:Qt:=mtbl [(5,K69_5)]
def g70:=gx ⟨[0,2,5],[],[true],[]⟩ Tryd.f85
def N70:FnK tab:=⟨[.val (.int .u32) (.no)],W .u32,fun a:W .u32×Unit=>F_div_away a.1,fun r:W .u32=>(.val (.int .u32) r (.no),[.undef])⟩
def g71:=gx ⟨[0,1,2,6,7,8,11,12,13,14,15,25,35,48,58,63,67],[],[true,true],[]⟩ Tryd.f59
def N71:FnK tab:=⟨[.val (.int .i64) (.no),.val (.int .u32) (.no),.val (.int .u32) (.no)],W .u32×Bool,fun a:W .i64×W .u32×W .u32×Unit=>F_div_Do a.1 a.2.1 a.2.2.1,fun r:W .u32×Bool=>(.tup [.val (.int .u32) r.1 (.no),.val (.bool) r.2 (.no)],[.undef,.undef,.undef])⟩
def t71:Tt:=tbl [(83,N69),(84,N66),(85,N70)]
def g72:=gx ⟨[0,1,2,6,8],[],[true],[]⟩ Tryd.f60
def N72:FnK tab:=⟨[.val (.int .u32) (.no),.val (.int .u32) (.no),.val (.int .u32) (.no)],W .u32,fun a:W .u32×W .u32×W .u32×Unit=>F_alu_Cmov a.1 a.2.1 a.2.2.1,fun r:W .u32=>(.val (.int .u32) r (.no),[.undef,.undef,.undef])⟩
def g73:=gx ⟨[0,1,2,7],[0],[],[]⟩ Tryd.f61
def N73:FnK tab:=⟨[.box (.named .TWork) (.no),.val (.int .i64) (.no),.val (.int .u32) (.no)],TWork,fun a:TWork×W .i64×W .u32×Unit=>F_step_work_put a.1 a.2.1 a.2.2.1,fun r:TWork=>(.tup [],[.box 0 (.named .TWork) r (.no),.undef,.undef])⟩
def g74:=gx ⟨[0,1,2,3,5,8,9,17,30,40,55],[0],[],[(3,[(0,.any),(2,.any),(3,.any),(5,.any),(17,.any)]),(4,[(0,.any),(2,.any),(3,.any),(5,.any)]),(5,[(0,.any),(2,.any),(3,.any),(5,.any)]),(6,[(0,.any)]),(11,[(0,.any),(2,.any),(3,.any),(5,.any),(8,.any),(9,.any)]),(12,[(0,.any)]),(15,[(0,.any),(2,.any),(3,.any),(5,.any),(8,.any),(9,.any)]),(16,[(0,.any)]),(17,[(0,.any),(2,.any),(3,.any),(5,.any),(8,.any),(55,.any)]),(18,[(0,.any),(5,.any),(8,.any)]),(19,[(0,.any),(5,.any),(8,.any)]),(20,[(0,.any)])]⟩ Tryd.f36
def K74_3:MarkK tab:=⟨[(0,.box (.named .TWork) (.no)),(2,.val (.int .u32) (.no)),(3,.val (.int .u32) (.no)),(5,.box (.named .TInst) (.no)),(17,.val (.bool) (.no))],[(.normal,[(0,.box (.named .TWork) (.no)),(2,.val (.int .u32) (.no)),(3,.val (.int .u32) (.no)),(5,.box (.named .TInst) (.no))])],L_step_work_reckon_3⟩
def K74_17:MarkK tab:=⟨[(0,.box (.named .TWork) (.no)),(2,.val (.int .u32) (.no)),(3,.val (.int .u32) (.no)),(5,.box (.named .TInst) (.no)),(8,.val (.int .u32) (.no)),(55,.val (.bool) (.no))],[(.normal,[(0,.box (.named .TWork) (.no)),(5,.box (.named .TInst) (.no)),(8,.val (.int .u32) (.no))])],L_step_work_reckon_17⟩
def K74_19:MarkK tab:=⟨[(0,.box (.named .TWork) (.no)),(5,.box (.named .TInst) (.no)),(8,.val (.int .u32) (.no))],[(.normal,[(0,.box (.named .TWork) (.no))])],L_step_work_reckon_19⟩
def K74_15:MarkK tab:=⟨[(0,.box (.named .TWork) (.no)),(2,.val (.int .u32) (.no)),(3,.val (.int .u32) (.no)),(5,.box (.named .TInst) (.no)),(8,.val (.int .u32) (.no)),(9,.val (.bool) (.no))],[(.normal,[(0,.box (.named .TWork) (.no))])],L_step_work_reckon_15⟩
def K74_11:MarkK tab:=⟨[(0,.box (.named .TWork) (.no)),(2,.val (.int .u32) (.no)),(3,.val (.int .u32) (.no)),(5,.box (.named .TInst) (.no)),(8,.val (.int .u32) (.no)),(9,.val (.bool) (.no))],[(.normal,[(0,.box (.named .TWork) (.no))])],L_step_work_reckon_11⟩
def K74_5:MarkK tab:=⟨[(0,.box (.named .TWork) (.no)),(2,.val (.int .u32) (.no)),(3,.val (.int .u32) (.no)),(5,.box (.named .TInst) (.no))],[(.normal,[(0,.box (.named .TWork) (.no))])],L_step_work_reckon_5⟩
def N74:FnK tab:=⟨[.box (.named .TWork) (.no),.val (.named .TInst) (.no),.val (.int .u32) (.no),.val (.int .u32) (.no)],TWork,fun a:TWork×TInst×W .u32×W .u32×Unit=>F_step_work_reckon a.1 a.2.1 a.2.2.1 a.2.2.2.1,fun r:TWork=>(.tup [],[.box 0 (.named .TWork) r (.no),.undef,.undef,.undef])⟩
def t74:Tt:=tbl [(57,N60),(58,N65),(59,N71),(60,N72),(61,N73)]
def q74:Qt:=mtbl [(3,K74_3),(17,K74_17),(19,K74_19),(15,K74_15),(11,K74_11),(5,K74_5)]
def g75:=gx ⟨[0,2,3,4,8],[],[true],[]⟩ Tryd.f62
def N75:FnK tab:=⟨[.val (.int .i64) (.no)],W .i64,fun a:W .i64×Unit=>F_step_sizeOf a.1,fun r:W .i64=>(.val (.int .i64) r (.no),[.undef])⟩
def g76:=gx ⟨[0,1,2],[0],[],[]⟩ Tryd.f63
def N76:FnK tab:=⟨[.box (.named .TWork) (.no),.val (.int .i64) (.no),.val (.int .u32) (.no)],TWork,fun a:TWork×W .i64×W .u32×Unit=>F_step_work_fails a.1 a.2.1 a.2.2.1,fun r:TWork=>(.tup [],[.box 0 (.named .TWork) r (.no),.undef,.undef])⟩
def g77:=gx ⟨[0,1,2,4,6,7,8,9,10,22,40,57,58,65,76],[0],[],[]⟩ Tryd.f37
def N77:FnK tab:=⟨[.box (.named .TWork) (.no),.val (.named .TInst) (.no),.val (.int .u32) (.no)],TWork,fun a:TWork×TInst×W .u32×Unit=>F_step_work_loads a.1 a.2.1 a.2.2.1,fun r:TWork=>(.tup [],[.box 0 (.named .TWork) r (.no),.undef,.undef])⟩
def t77:Tt:=tbl [(24,N37),(25,N28),(53,N43),(61,N73),(62,N75),(63,N76)]
def N78:FnK tab:=cloneK 1 (.int .u8)
def g79:=gx ⟨[0,1,4,5,6,11,12,13],[],[true],[(7,[(0,.any),(5,.any),(11,.any),(12,.any)]),(8,[(5,.any)]),(9,[(0,.any),(5,.any),(11,.any),(12,.any)])]⟩ Tryd.f101
def K79_7:MarkK tab:=⟨[(0,.val (.int .u32) (.no)),(5,.val (.slice 1 (.int .u8)) (.yes 0)),(11,.val (.int .i64) (.no)),(12,.val (.int .i64) (.no))],[((.exit 0),[(5,.val (.slice 1 (.int .u8)) (.yes 0))])],L_bits_Bytes_7⟩
def N79:FnK tab:=⟨[.val (.int .u32) (.no),.val (.int .i64) (.no)],Sl 1 (W .u8),fun a:W .u32×W .i64×Unit=>F_bits_Bytes a.1 a.2.1,fun r:Sl 1 (W .u8)=>(.val (.slice 1 (.int .u8)) r (.no),[.undef,.undef])⟩
def t79:Tt:=tbl [(74,N21)]
def q79:Qt:=mtbl [(7,K79_7)]
def g80:=gx ⟨[0,1,2,3,8,9,10,11,17],[],[true,true],[]⟩ Tryd.f86
def N80:FnK tab:=⟨[.val (.slice 1 (.int .u8)) (.no),.val (.int .u32) (.no),.val (.int .i64) (.no),.val (.int .u32) (.no)],Sl 1 (W .u8)×W .i64,fun a:Sl 1 (W .u8)×W .u32×W .i64×W .u32×Unit=>F_mem_Write a.1 a.2.1 a.2.2.1 a.2.2.2.1,fun r:Sl 1 (W .u8)×W .i64=>(.tup [.val (.slice 1 (.int .u8)) r.1 (.no),.val (.int .i64) r.2 (.no)],[.undef,.undef,.undef,.undef])⟩
def t80:Tt:=tbl [(46,N26),(100,N78),(101,N79)]
def g81:=gx ⟨[0,1,2,3,8,9,23],[0],[],[]⟩ Tryd.f64
def N81:FnK tab:=⟨[.box (.named .TWork) (.no),.val (.int .u32) (.no),.val (.int .i64) (.no),.val (.int .u32) (.no)],TWork,fun a:TWork×W .u32×W .i64×W .u32×Unit=>F_step_work_stores a.1 a.2.1 a.2.2.1 a.2.2.2.1,fun r:TWork=>(.tup [],[.box 0 (.named .TWork) r (.no),.undef,.undef,.undef])⟩
def t81:Tt:=tbl [(52,N41),(86,N80)]
def g82:=gx ⟨[0,1,2,3,5,8,9,10,11,36],[0],[],[]⟩ Tryd.f38
def N82:FnK tab:=⟨[.box (.named .TWork) (.no),.val (.named .TInst) (.no),.val (.int .u32) (.no),.val (.int .u32) (.no)],TWork,fun a:TWork×TInst×W .u32×W .u32×Unit=>F_step_work_keeps a.1 a.2.1 a.2.2.1 a.2.2.2.1,fun r:TWork=>(.tup [],[.box 0 (.named .TWork) r (.no),.undef,.undef,.undef])⟩
def t82:Tt:=tbl [(24,N37),(62,N75),(63,N76),(64,N81)]
def g83:=gx ⟨[0,1,2,6,7,8,13,18,25,32,37],[],[true],[]⟩ Tryd.f65
def N83:FnK tab:=⟨[.val (.int .i64) (.no),.val (.int .u32) (.no),.val (.int .u32) (.no)],Bool,fun a:W .i64×W .u32×W .u32×Unit=>F_alu_Taken a.1 a.2.1 a.2.2.1,fun r:Bool=>(.val (.bool) r (.no),[.undef,.undef,.undef])⟩
def g84:=gx ⟨[0,1,2,3,5,8,9,27,32,37,48],[0],[],[]⟩ Tryd.f39
def N84:FnK tab:=⟨[.box (.named .TWork) (.no),.val (.named .TInst) (.no),.val (.int .u32) (.no),.val (.int .u32) (.no)],TWork,fun a:TWork×TInst×W .u32×W .u32×Unit=>F_step_work_goes a.1 a.2.1 a.2.2.1 a.2.2.2.1,fun r:TWork=>(.tup [],[.box 0 (.named .TWork) r (.no),.undef,.undef,.undef])⟩
def t84:Tt:=tbl [(61,N73),(65,N83)]
def g85:=gx ⟨[0,1,2,3,5,8,9,10,27,42,52],[0],[],[]⟩ Tryd.f40
def N85:FnK tab:=⟨[.box (.named .TWork) (.no),.val (.named .TInst) (.no),.val (.int .u32) (.no),.val (.int .u32) (.no)],TWork,fun a:TWork×TInst×W .u32×W .u32×Unit=>F_step_work_atOnce a.1 a.2.1 a.2.2.1 a.2.2.2.1,fun r:TWork=>(.tup [],[.box 0 (.named .TWork) r (.no),.undef,.undef,.undef])⟩
def t85:Tt:=tbl [(24,N37),(25,N28),(61,N73),(63,N76),(64,N81)]
def g86:=gx ⟨[0,1,2,3,4,7],[],[true,true],[]⟩ Tryd.f66
def N86:FnK tab:=⟨[.val (.named .TArch) (.no)],TArch×W .i64,fun a:TArch×Unit=>F_trap_Return a.1,fun r:TArch×W .i64=>(.tup [.val (.named .TArch) r.1 (.no),.val (.int .i64) r.2 (.no)],[.undef])⟩
def t86:Tt:=tbl [(19,N10),(43,N14)]
def g87:=gx ⟨[0,1,2,3,6,13,19],[],[true],[]⟩ Tryd.f87
def N87:FnK tab:=⟨[.val (.named .TArch) (.no),.val (.int .i64) (.no),.val (.bool) (.no)],W .i64,fun a:TArch×W .i64×Bool×Unit=>F_csr_may a.1 a.2.1 a.2.2.1,fun r:W .i64=>(.val (.int .i64) r (.no),[.undef,.undef,.undef])⟩
def t87:Tt:=tbl [(19,N10)]
def g88:=gx ⟨[0,1,2,4,5,6,13],[],[true,true],[]⟩ Tryd.f67
def N88:FnK tab:=⟨[.val (.named .TArch) (.no),.val (.int .i64) (.no)],W .u32×W .i64,fun a:TArch×W .i64×Unit=>F_csr_Read a.1 a.2.1,fun r:W .u32×W .i64=>(.tup [.val (.int .u32) r.1 (.no),.val (.int .i64) r.2 (.no)],[.undef,.undef])⟩
def t88:Tt:=tbl [(87,N87)]
def g89:=gx ⟨[0,1,2,3,6,7,8,13],[],[true,true],[]⟩ Tryd.f68
def N89:FnK tab:=⟨[.val (.named .TArch) (.no),.val (.int .i64) (.no),.val (.int .u32) (.no)],TArch×W .i64,fun a:TArch×W .i64×W .u32×Unit=>F_csr_Write a.1 a.2.1 a.2.2.1,fun r:TArch×W .i64=>(.tup [.val (.named .TArch) r.1 (.no),.val (.int .i64) r.2 (.no)],[.undef,.undef,.undef])⟩
def t89:Tt:=tbl [(42,N13),(87,N87)]
def g90:=gx ⟨[0,1,2,4,6,7,8,9,10,11,13,14,18,30,49,63,77,92,106,118,150,157],[0],[],[(0,[(0,.fz)])]⟩ Tryd.f41
def N90:FnK tab:=⟨[.box (.named .TWork) (.no),.val (.named .TInst) (.no),.val (.int .u32) (.no)],TWork,fun a:TWork×TInst×W .u32×Unit=>F_step_work_system a.1 a.2.1 a.2.2.1,fun r:TWork=>(.tup [],[.box 0 (.named .TWork) r (.no),.undef,.undef])⟩
def t90:Tt:=tbl [(61,N73),(63,N76),(66,N86),(67,N88),(68,N89)]
def g91:=gx ⟨[0,1,2,3,5,6,7,8,9,10,36,44,51,59,67],[],[true],[]⟩ Tryd.f20
def N91:FnK tab:=⟨[.val (.named .TMach) (.no),.val (.int .u32) (.no),.val (.named .TInst) (.no)],TWork,fun a:TMach×W .u32×TInst×Unit=>F_step_does a.1 a.2.1 a.2.2.1,fun r:TWork=>(.val (.named .TWork) r (.no),[.undef,.undef,.undef])⟩
def t91:Tt:=tbl [(36,N74),(37,N77),(38,N82),(39,N84),(40,N85),(41,N90)]
def g92:=gx ⟨[0,1,2,3,21],[],[true],[]⟩ Tryd.f21
def N92:FnK tab:=⟨[.val (.named .TArch) (.no)],TArch,fun a:TArch×Unit=>F_csr_Count a.1,fun r:TArch=>(.val (.named .TArch) r (.no),[.undef])⟩
def g93:=gx ⟨[0,1,2],[],[true],[]⟩ Tryd.f22
def N93:FnK tab:=⟨[.val (.named .TArch) (.no)],Bool,fun a:TArch×Unit=>F_trap_Single a.1,fun r:Bool=>(.val (.bool) r (.no),[.undef])⟩
def t93:Tt:=tbl [(19,N10)]
def g94:=gx ⟨[0,1,2,3,4,5,6,7,8,9,10,13,20,32,47,63,79,93,124],[],[true,true,true],[]⟩ Tryd.f7
def N94:FnK tab:=⟨[.val (.named .TMach) (.no)],TMach×TEvent×Bool,fun a:TMach×Unit=>F_step_Step a.1,fun r:TMach×TEvent×Bool=>(.tup [.val (.named .TMach) r.1 (.no),.val (.named .TEvent) r.2.1 (.no),.val (.bool) r.2.2 (.no)],[.undef])⟩
def t94:Tt:=tbl [(8,N38),(14,N12),(15,N16),(16,N17),(17,N49),(18,N50),(19,N10),(20,N91),(21,N92),(22,N93),(23,N15)]
def g95:=gx ⟨[0,1,4,5,10,12,13,14,24],[],[true],[(11,[(0,.any),(1,.any),(12,.any),(13,.any)]),(12,[(4,.any)]),(13,[(0,.any),(1,.any),(12,.any),(13,.any)])]⟩ Tryd.f29
def K95_11:MarkK tab:=⟨[(0,.val (.slice 1 (.int .u8)) (.no)),(1,.val (.slice 1 (.int .u8)) (.no)),(12,.val (.int .i64) (.no)),(13,.val (.int .i64) (.no))],[(.ret,[(4,.val (.bool) (.no))]),((.exit 0),[(4,.undef)])],L_step_alike_byte_11⟩
def N95:FnK tab:=⟨[.val (.slice 1 (.int .u8)) (.no),.val (.slice 1 (.int .u8)) (.no)],Bool,fun a:Sl 1 (W .u8)×Sl 1 (W .u8)×Unit=>F_step_alike_byte a.1 a.2.1,fun r:Bool=>(.val (.bool) r (.no),[.undef,.undef])⟩
def q95:Qt:=mtbl [(11,K95_11)]
def g96:=gx ⟨[0,1,4,5,10,12,13,14,24],[],[true],[(11,[(0,.any),(1,.any),(12,.any),(13,.any)]),(12,[(4,.any)]),(13,[(0,.any),(1,.any),(12,.any),(13,.any)])]⟩ Tryd.f30
def K96_11:MarkK tab:=⟨[(0,.val (.slice 4 (.int .u32)) (.no)),(1,.val (.slice 4 (.int .u32)) (.no)),(12,.val (.int .i64) (.no)),(13,.val (.int .i64) (.no))],[(.ret,[(4,.val (.bool) (.no))]),((.exit 0),[(4,.undef)])],L_step_alike_uint32_11⟩
def N96:FnK tab:=⟨[.val (.slice 4 (.int .u32)) (.no),.val (.slice 4 (.int .u32)) (.no)],Bool,fun a:Sl 4 (W .u32)×Sl 4 (W .u32)×Unit=>F_step_alike_uint32 a.1 a.2.1,fun r:Bool=>(.val (.bool) r (.no),[.undef,.undef])⟩
def q96:Qt:=mtbl [(11,K96_11)]
def g97:=gx ⟨[0,1,2,3,4],[],[true],[]⟩ Tryd.f12
def N97:FnK tab:=⟨[.val (.named .TMach) (.no),.val (.named .TMach) (.no)],Bool,fun a:TMach×TMach×Unit=>F_step_Same a.1 a.2.1,fun r:Bool=>(.val (.bool) r (.no),[.undef,.undef])⟩
def t97:Tt:=tbl [(29,N95),(30,N96)]
def g98:=gx ⟨[0,1,2],[],[true],[]⟩ Tryd.f13
def N98:FnK tab:=⟨[.val (.named .TMach) (.no)],TMach,fun a:TMach×Unit=>F_step_Copy a.1,fun r:TMach=>(.val (.named .TMach) r (.no),[.undef])⟩
def g99:=gx ⟨[0,1,2,3,4,5,15],[],[true],[]⟩ Tryd.f6
def N99:FnK tab:=⟨[],Bool,fun a:Unit=>F_law15_awake,fun r:Bool=>(.val (.bool) r (.no),[])⟩
def t99:Tt:=tbl [(7,N94),(10,N9),(11,N5),(12,N97),(13,N98)]
def g100:=gx ⟨[0,1,2,3,4,6,7,8,9,12,21,36,46,55,82,94,147],[],[true],[(13,[(1,.any),(3,.any),(4,.any),(6,.any)]),(14,[(1,.any),(2,.any),(3,.any),(4,.any)]),(15,[(1,.any),(3,.any),(4,.any),(6,.any)]),(46,[(1,.any),(3,.any),(4,.any),(8,.any)]),(47,[(2,.any)]),(48,[(1,.any),(3,.any),(4,.any),(8,.any)])]⟩ Tryd.f3
def K100_13:MarkK tab:=⟨[(1,.box (.named .TMach) (.no)),(3,.box (.named .TMach) (.no)),(4,.box (.named .TEvent) (.no)),(6,.val (.int .i64) (.no))],[(.ret,[(1,.box (.named .TMach) (.no)),(2,.val (.bool) (.no)),(3,.box (.named .TMach) (.no)),(4,.box (.named .TEvent) (.no))]),((.exit 0),[(1,.box (.named .TMach) (.no)),(2,.undef),(3,.box (.named .TMach) (.no)),(4,.box (.named .TEvent) (.no))])],L_law15_StepChanges_13⟩
def K100_46:MarkK tab:=⟨[(1,.box (.named .TMach) (.no)),(3,.box (.named .TMach) (.no)),(4,.box (.named .TEvent) (.no)),(8,.val (.int .i64) (.no))],[(.ret,[(2,.val (.bool) (.no))]),((.exit 2),[(2,.undef)])],L_law15_StepChanges_46⟩
def N100:FnK tab:=⟨[.val (.named .TMach) (.no)],Bool,fun a:TMach×Unit=>F_law15_StepChanges a.1,fun r:Bool=>(.val (.bool) r (.no),[.undef])⟩
def t100:Tt:=tbl [(5,N4),(6,N99),(7,N94)]
def q100:Qt:=mtbl [(13,K100_13),(46,K100_46)]
def g101:=gx ⟨[0,1,2,4,5,6,7,8,10,11,12,13,25],[],[true],[]⟩ Tryd.f4
def N101:FnK tab:=⟨[.val (.named .TMach) (.no),.val (.slice 1 (.int .u8)) (.no)],Bool,fun a:TMach×Sl 1 (W .u8)×Unit=>F_law15_StepShadow a.1 a.2.1,fun r:Bool=>(.val (.bool) r (.no),[.undef,.undef])⟩
def t101:Tt:=tbl [(5,N4),(6,N99),(7,N94),(8,N38)]
end
end Go.Proofs.YtpofngmiepljeaaDoor
