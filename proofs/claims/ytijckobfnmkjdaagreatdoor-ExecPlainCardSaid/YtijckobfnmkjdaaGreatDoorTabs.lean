/- YtijckobfnmkjdaaGreatDoorTabs: the tables of functions and marks. No statement of the seat is proved here. -/
import Derived.Test.YtijckobfnmkjdaaGreatDoorTrees
import Derived.Test.YtijckobfnmkjdaaGreatDoorChecked
import Derived.Test.YtijckobfnmkjdaaGreatDoorA2G
set_option linter.unusedSimpArgs false
set_option linter.unusedVariables false
set_option maxRecDepth 100000
namespace Go.Proofs.YtijckobfnmkjdaaGreatDoor
open Go Go.A2
noncomputable section
abbrev Tt:=Nat→List (FnK tab)
abbrev Qt:=Nat→Option (MarkK tab)
def t0:Tt:=tbl []
def q0:Qt:=fun _=>none
def gx (x:FnX) (f:Func):AFn tab:=gOf Tryz.prog cx x f
abbrev OkN:=FnOk (X:=tab) Tryz.prog
abbrev Mo (t:Tt) (q:Qt) (g:AFn tab):=MarkOk (fnsC t) (markL q) g.keep fuel
def g1:=gx ⟨[0,2,3,10,17,20,27,34,37,40,43,46,49],[],[true],[]⟩ Tryz.f39
def N1:FnK tab:=⟨[.val (.int .i64) (.no)],W .i64,fun a:W .i64×Unit=>F_inst_Form a.1,fun r:W .i64=>(.val (.int .i64) r (.no),[.undef])⟩
def g2:=gx ⟨[0,1,4],[],[true],[]⟩ Tryz.f14
def N2:FnK tab:=⟨[.val (.int .i64) (.no),.val (.int .i64) (.no)],Bool,fun a:W .i64×W .i64×Unit=>F_inst_has a.1 a.2.1,fun r:Bool=>(.val (.bool) r (.no),[.undef,.undef])⟩
def t2:Tt:=tbl [(39,N1)]
def g3:=gx ⟨[0,1,4,5,6,16,24],[],[true],[]⟩ Tryz.f40
def N3:FnK tab:=⟨[.val (.int .i64) (.no),.val (.int .i64) (.no)],Bool,fun a:W .i64×W .i64×Unit=>F_inst_within a.1 a.2.1,fun r:Bool=>(.val (.bool) r (.no),[.undef,.undef])⟩
def g4:=gx ⟨[0,1,2,4,8,18,19,20,44,46,56],[],[true],[(11,[(1,.any),(18,.any),(19,.any)]),(12,[(1,.any),(2,.any)]),(13,[(1,.any),(18,.any),(19,.any)])]⟩ Tryz.f12
def K4_11:MarkK tab:=⟨[(1,.box (.named .TInst) (.no)),(18,.val (.arr 3 (.named .TS94)) (.no)),(19,.val (.int .i64) (.no))],[(.ret,[(1,.box (.named .TInst) (.no)),(2,.val (.int .i64) (.no))]),((.exit 0),[(1,.box (.named .TInst) (.no)),(2,.undef)])],L_inst_Right_11⟩
def N4:FnK tab:=⟨[.val (.named .TInst) (.no)],W .i64,fun a:TInst×Unit=>F_inst_Right a.1,fun r:W .i64=>(.val (.int .i64) r (.no),[.undef])⟩
def t4:Tt:=tbl [(14,N2),(39,N1),(40,N3)]
def q4:Qt:=mtbl [(11,K4_11)]
def g5:=gx ⟨[0,1,2,6],[],[true],[]⟩ Tryz.f65
def N5:FnK tab:=⟨[.val (.int .i64) (.no),.val (.int .i64) (.no),.val (.int .i64) (.no)],W .i64,fun a:W .i64×W .i64×W .i64×Unit=>F_bits_clamp a.1 a.2.1 a.2.2.1,fun r:W .i64=>(.val (.int .i64) r (.no),[.undef,.undef,.undef])⟩
def g6:=gx ⟨[0,2],[],[true],[]⟩ Tryz.f66
def N6:FnK tab:=⟨[.val (.int .i64) (.no)],W .u32,fun a:W .i64×Unit=>F_bits_ones a.1,fun r:W .u32=>(.val (.int .u32) r (.no),[.undef])⟩
def g7:=gx ⟨[0,1,4,5,12],[],[true,true],[]⟩ Tryz.f41
def N7:FnK tab:=⟨[.val (.int .i64) (.no),.val (.int .i64) (.no)],W .u32×W .i64,fun a:W .i64×W .i64×Unit=>F_bits_mask a.1 a.2.1,fun r:W .u32×W .i64=>(.tup [.val (.int .u32) r.1 (.no),.val (.int .i64) r.2 (.no)],[.undef,.undef])⟩
def t7:Tt:=tbl [(65,N5),(66,N6)]
def g8:=gx ⟨[0,1,2,3,8,9,10],[],[true],[]⟩ Tryz.f13
def N8:FnK tab:=⟨[.val (.int .u32) (.no),.val (.int .i64) (.no),.val (.int .i64) (.no),.val (.int .u32) (.no)],W .u32,fun a:W .u32×W .i64×W .i64×W .u32×Unit=>F_bits_Put a.1 a.2.1 a.2.2.1 a.2.2.2.1,fun r:W .u32=>(.val (.int .u32) r (.no),[.undef,.undef,.undef,.undef])⟩
def t8:Tt:=tbl [(41,N7)]
def g9:=gx ⟨[0,2,5],[],[true],[]⟩ Tryz.f15
def N9:FnK tab:=⟨[.val (.int .i64) (.no)],W .i64,fun a:W .i64×Unit=>F_inst_width a.1,fun r:W .i64=>(.val (.int .i64) r (.no),[.undef])⟩
def t9:Tt:=tbl [(39,N1)]
def g10:=gx ⟨[0,1,2,3,4,5,9,32],[],[true,true],[]⟩ Tryz.f4
def N10:FnK tab:=⟨[.val (.named .TInst) (.no)],W .u32×W .i64,fun a:TInst×Unit=>F_inst_Enc a.1,fun r:W .u32×W .i64=>(.tup [.val (.int .u32) r.1 (.no),.val (.int .i64) r.2 (.no)],[.undef])⟩
def t10:Tt:=tbl [(12,N4),(13,N8),(14,N2),(15,N9)]
def g11:=gx ⟨[0,2],[],[true],[]⟩ Tryz.f16
def N11:FnK tab:=⟨[.val (.int .i64) (.no)],Bool,fun a:W .i64×Unit=>F_crack_Serial a.1,fun r:Bool=>(.val (.bool) r (.no),[.undef])⟩
def g12:=gx ⟨[0,2,3,10,17,24,31,38,45],[],[true],[]⟩ Tryz.f5
def N12:FnK tab:=⟨[.val (.int .i64) (.no)],W .i64,fun a:W .i64×Unit=>F_crack_Unit a.1,fun r:W .i64=>(.val (.int .i64) r (.no),[.undef])⟩
def t12:Tt:=tbl [(16,N11)]
def g13:=gx ⟨[0,1,2],[],[true],[]⟩ Tryz.f23
def N13:FnK tab:=⟨[.val (.named .TUop) (.no)],W .u32,fun a:TUop×Unit=>F_exec_behind a.1,fun r:W .u32=>(.val (.int .u32) r (.no),[.undef])⟩
def g14:=gx ⟨[0,1,2,6],[],[true],[]⟩ Tryz.f24
def N14:FnK tab:=⟨[.val (.int .i64) (.no),.val (.int .i64) (.no),.val (.int .i64) (.no)],Bool,fun a:W .i64×W .i64×W .i64×Unit=>F_exec_between a.1 a.2.1 a.2.2.1,fun r:Bool=>(.val (.bool) r (.no),[.undef,.undef,.undef])⟩
def g15:=gx ⟨[0,1,4],[],[true],[]⟩ Tryz.f69
def N15:FnK tab:=⟨[.val (.int .u32) (.no),.val (.int .u32) (.no)],TMul,fun a:W .u32×W .u32×Unit=>F_mul_New a.1 a.2.1,fun r:TMul=>(.val (.named .TMul) r (.no),[.undef,.undef])⟩
def g16:=gx ⟨[0,1,2,3,4,7,15],[],[true],[]⟩ Tryz.f88
def N16:FnK tab:=⟨[.val (.named .TMul) (.no)],TMul,fun a:TMul×Unit=>F_mul_Step a.1,fun r:TMul=>(.val (.named .TMul) r (.no),[.undef])⟩
def g17:=gx ⟨[0,1,2,3,10,11,12],[],[true,true],[(7,[(1,.any),(10,.any),(11,.any)]),(8,[(1,.any)]),(9,[(1,.any),(10,.any),(11,.any)])]⟩ Tryz.f68
def K17_7:MarkK tab:=⟨[(1,.box (.named .TMul) (.no)),(10,.val (.int .i64) (.no)),(11,.val (.int .i64) (.no))],[((.exit 0),[(1,.box (.named .TMul) (.no))])],L_mul_Run_7⟩
def N17:FnK tab:=⟨[.val (.named .TMul) (.no)],W .u32×W .u32,fun a:TMul×Unit=>F_mul_Run a.1,fun r:W .u32×W .u32=>(.tup [.val (.int .u32) r.1 (.no),.val (.int .u32) r.2 (.no)],[.undef])⟩
def t17:Tt:=tbl [(88,N16)]
def q17:Qt:=mtbl [(7,K17_7)]
def g18:=gx ⟨[0,1,4,7],[],[true],[]⟩ Tryz.f70
def N18:FnK tab:=⟨[.val (.int .u32) (.no),.val (.int .u32) (.no)],W .u32,fun a:W .u32×W .u32×Unit=>F_mul_less a.1 a.2.1,fun r:W .u32=>(.val (.int .u32) r (.no),[.undef,.undef])⟩
def g19:=gx ⟨[0,1,2,6,7,8,9,17,18,21,24],[],[true,true],[]⟩ Tryz.f51
def N19:FnK tab:=⟨[.val (.int .i64) (.no),.val (.int .u32) (.no),.val (.int .u32) (.no)],W .u32×Bool,fun a:W .i64×W .u32×W .u32×Unit=>F_mul_Do a.1 a.2.1 a.2.2.1,fun r:W .u32×Bool=>(.tup [.val (.int .u32) r.1 (.no),.val (.bool) r.2 (.no)],[.undef,.undef,.undef])⟩
def t19:Tt:=tbl [(68,N17),(69,N15),(70,N18)]
def g20:=gx ⟨[0,1,4],[],[true],[]⟩ Tryz.f72
def N20:FnK tab:=⟨[.val (.int .u32) (.no),.val (.int .u32) (.no)],TDiv,fun a:W .u32×W .u32×Unit=>F_div_New a.1 a.2.1,fun r:TDiv=>(.val (.named .TDiv) r (.no),[.undef,.undef])⟩
def g21:=gx ⟨[0,2],[],[true],[]⟩ Tryz.f89
def N21:FnK tab:=⟨[.val (.int .i64) (.no)],W .i64,fun a:W .i64×Unit=>F_div_left a.1,fun r:W .i64=>(.val (.int .i64) r (.no),[.undef])⟩
def g22:=gx ⟨[0,1,2,3,10,37],[],[true],[]⟩ Tryz.f90
def N22:FnK tab:=⟨[.val (.named .TDiv) (.no)],TDiv,fun a:TDiv×Unit=>F_div_Step a.1,fun r:TDiv=>(.val (.named .TDiv) r (.no),[.undef])⟩
def t22:Tt:=tbl [(89,N21)]
def g23:=gx ⟨[0,1,2,3,6,7,8],[],[true,true],[(5,[(1,.any),(6,.any),(7,.any)]),(6,[(1,.any)]),(7,[(1,.any),(6,.any),(7,.any)])]⟩ Tryz.f71
def K23_5:MarkK tab:=⟨[(1,.box (.named .TDiv) (.no)),(6,.val (.int .i64) (.no)),(7,.val (.int .i64) (.no))],[((.exit 0),[(1,.box (.named .TDiv) (.no))])],L_div_Run_5⟩
def N23:FnK tab:=⟨[.val (.named .TDiv) (.no)],W .u32×W .u32,fun a:TDiv×Unit=>F_div_Run a.1,fun r:W .u32×W .u32=>(.tup [.val (.int .u32) r.1 (.no),.val (.int .u32) r.2 (.no)],[.undef])⟩
def t23:Tt:=tbl [(89,N21),(90,N22)]
def q23:Qt:=mtbl [(5,K23_5)]
def g24:=gx ⟨[0,2,5],[],[true],[]⟩ Tryz.f73
def N24:FnK tab:=⟨[.val (.int .u32) (.no)],W .u32,fun a:W .u32×Unit=>F_div_away a.1,fun r:W .u32=>(.val (.int .u32) r (.no),[.undef])⟩
def g25:=gx ⟨[0,1,2,6,7,8,11,12,13,14,15,25,35,48,58,63,67],[],[true,true],[]⟩ Tryz.f52
def N25:FnK tab:=⟨[.val (.int .i64) (.no),.val (.int .u32) (.no),.val (.int .u32) (.no)],W .u32×Bool,fun a:W .i64×W .u32×W .u32×Unit=>F_div_Do a.1 a.2.1 a.2.2.1,fun r:W .u32×Bool=>(.tup [.val (.int .u32) r.1 (.no),.val (.bool) r.2 (.no)],[.undef,.undef,.undef])⟩
def t25:Tt:=tbl [(71,N23),(72,N20),(73,N24)]
def g26:=gx ⟨[0,2,3],[],[true],[]⟩ Tryz.f74
def N26:FnK tab:=⟨[.val (.bool) (.no)],W .u32,fun a:Bool×Unit=>F_alu_one a.1,fun r:W .u32=>(.val (.int .u32) r (.no),[.undef])⟩
def g27:=gx ⟨[0,2,3,5],[],[true],[(5,[(0,.any),(3,.any)]),(6,[(3,.any)]),(7,[(0,.any),(3,.any)])]⟩ Tryz.f91
def K27_5:MarkK tab:=⟨[(0,.val (.int .u32) (.no)),(3,.val (.int .i64) (.no))],[((.exit 0),[(3,.val (.int .i64) (.no))])],L_alu_Clz_5⟩
def N27:FnK tab:=⟨[.val (.int .u32) (.no)],W .i64,fun a:W .u32×Unit=>F_alu_Clz a.1,fun r:W .i64=>(.val (.int .i64) r (.no),[.undef])⟩
def q27:Qt:=mtbl [(5,K27_5)]
def g28:=gx ⟨[0,2,3,5],[],[true],[(5,[(0,.any),(3,.any)]),(6,[(3,.any)]),(7,[(0,.any),(3,.any)])]⟩ Tryz.f92
def K28_5:MarkK tab:=⟨[(0,.val (.int .u32) (.no)),(3,.val (.int .i64) (.no))],[((.exit 0),[(3,.val (.int .i64) (.no))])],L_alu_Pop_5⟩
def N28:FnK tab:=⟨[.val (.int .u32) (.no)],W .i64,fun a:W .u32×Unit=>F_alu_Pop a.1,fun r:W .i64=>(.val (.int .i64) r (.no),[.undef])⟩
def q28:Qt:=mtbl [(5,K28_5)]
def g29:=gx ⟨[0,2],[],[true],[]⟩ Tryz.f93
def N29:FnK tab:=⟨[.val (.int .u32) (.no)],W .u32,fun a:W .u32×Unit=>F_alu_Rev a.1,fun r:W .u32=>(.val (.int .u32) r (.no),[.undef])⟩
def g30:=gx ⟨[0,1,4,5,6,7,12,17],[],[true,true],[]⟩ Tryz.f75
def N30:FnK tab:=⟨[.val (.int .i64) (.no),.val (.int .u32) (.no)],W .u32×Bool,fun a:W .i64×W .u32×Unit=>F_alu_single a.1 a.2.1,fun r:W .u32×Bool=>(.tup [.val (.int .u32) r.1 (.no),.val (.bool) r.2 (.no)],[.undef,.undef])⟩
def t30:Tt:=tbl [(91,N27),(92,N28),(93,N29)]
def g31:=gx ⟨[0,2],[],[true],[]⟩ Tryz.f94
def N31:FnK tab:=⟨[.val (.int .u32) (.no)],W .u32,fun a:W .u32×Unit=>F_alu_low a.1,fun r:W .u32=>(.val (.int .u32) r (.no),[.undef])⟩
def g32:=gx ⟨[0,1,4,5],[],[true],[]⟩ Tryz.f103
def N32:FnK tab:=⟨[.val (.int .u32) (.no),.val (.int .i64) (.no)],W .u32,fun a:W .u32×W .i64×Unit=>F_bits_RotateLeft32 a.1 a.2.1,fun r:W .u32=>(.val (.int .u32) r (.no),[.undef,.undef])⟩
def g33:=gx ⟨[0,1,4],[],[true],[]⟩ Tryz.f95
def N33:FnK tab:=⟨[.val (.int .u32) (.no),.val (.int .i64) (.no)],W .u32,fun a:W .u32×W .i64×Unit=>F_bits_Rot a.1 a.2.1,fun r:W .u32=>(.val (.int .u32) r (.no),[.undef,.undef])⟩
def t33:Tt:=tbl [(103,N32)]
def g34:=gx ⟨[0,1,2,6,7,8,9,15,21,27,34,41,50],[],[true,true],[]⟩ Tryz.f76
def N34:FnK tab:=⟨[.val (.int .i64) (.no),.val (.int .u32) (.no),.val (.int .u32) (.no)],W .u32×Bool,fun a:W .i64×W .u32×W .u32×Unit=>F_alu_logic a.1 a.2.1 a.2.2.1,fun r:W .u32×Bool=>(.tup [.val (.int .u32) r.1 (.no),.val (.bool) r.2 (.no)],[.undef,.undef,.undef])⟩
def t34:Tt:=tbl [(94,N31),(95,N33)]
def g35:=gx ⟨[0,1,2,6,7,8,9,15,20,29,35,43,51,55],[],[true,true],[]⟩ Tryz.f53
def N35:FnK tab:=⟨[.val (.int .i64) (.no),.val (.int .u32) (.no),.val (.int .u32) (.no)],W .u32×Bool,fun a:W .i64×W .u32×W .u32×Unit=>F_alu_Do a.1 a.2.1 a.2.2.1,fun r:W .u32×Bool=>(.tup [.val (.int .u32) r.1 (.no),.val (.bool) r.2 (.no)],[.undef,.undef,.undef])⟩
def t35:Tt:=tbl [(74,N26),(75,N30),(76,N34)]
def g36:=gx ⟨[0,1,2,6,7,8,9,10,11,20,29],[],[true],[]⟩ Tryz.f25
def N36:FnK tab:=⟨[.val (.int .i64) (.no),.val (.int .u32) (.no),.val (.int .u32) (.no)],W .u32,fun a:W .i64×W .u32×W .u32×Unit=>F_exec_two a.1 a.2.1 a.2.2.1,fun r:W .u32=>(.val (.int .u32) r (.no),[.undef,.undef,.undef])⟩
def t36:Tt:=tbl [(51,N19),(52,N25),(53,N35)]
def g37:=gx ⟨[0,1,2,6,8],[],[true],[]⟩ Tryz.f26
def N37:FnK tab:=⟨[.val (.int .u32) (.no),.val (.int .u32) (.no),.val (.int .u32) (.no)],W .u32,fun a:W .u32×W .u32×W .u32×Unit=>F_alu_Cmov a.1 a.2.1 a.2.2.1,fun r:W .u32=>(.val (.int .u32) r (.no),[.undef,.undef,.undef])⟩
def g38:=gx ⟨[0,1,2,6,7,8,13,18,25,32,37],[],[true],[]⟩ Tryz.f27
def N38:FnK tab:=⟨[.val (.int .i64) (.no),.val (.int .u32) (.no),.val (.int .u32) (.no)],Bool,fun a:W .i64×W .u32×W .u32×Unit=>F_alu_Taken a.1 a.2.1 a.2.2.1,fun r:Bool=>(.val (.bool) r (.no),[.undef,.undef,.undef])⟩
def g39:=gx ⟨[0,1,2],[],[true],[]⟩ Tryz.f28
def N39:FnK tab:=⟨[.val (.named .TUop) (.no)],W .u32,fun a:TUop×Unit=>F_exec_ahead a.1,fun r:W .u32=>(.val (.int .u32) r (.no),[.undef])⟩
def g40:=gx ⟨[0,1,2,3,4,5,6,7,8,14,23,32,42,53,61,64,70],[],[true,true,true,true],[]⟩ Tryz.f10
def N40:FnK tab:=⟨[.val (.named .TUop) (.no),.val (.arr 3 (.int .u32)) (.no)],W .u32×W .u32×W .i64×W .u32,fun a:TUop×Arr 3 (W .u32)×Unit=>F_exec_Do a.1 a.2.1,fun r:W .u32×W .u32×W .i64×W .u32=>(.tup [.val (.int .u32) r.1 (.no),.val (.int .u32) r.2.1 (.no),.val (.int .i64) r.2.2.1 (.no),.val (.int .u32) r.2.2.2 (.no)],[.undef,.undef])⟩
def t40:Tt:=tbl [(23,N13),(24,N14),(25,N36),(26,N37),(27,N38),(28,N39)]
def g41:=gx ⟨[0,1,4,5],[],[true],[]⟩ Tryz.f42
def N41:FnK tab:=⟨[.val (.int .u32) (.no),.val (.int .i64) (.no)],W .u32,fun a:W .u32×W .i64×Unit=>F_bits_Sext a.1 a.2.1,fun r:W .u32=>(.val (.int .u32) r (.no),[.undef,.undef])⟩
def t41:Tt:=tbl [(65,N5)]
def g42:=gx ⟨[0,1,4],[],[true],[]⟩ Tryz.f43
def N42:FnK tab:=⟨[.val (.int .u32) (.no),.val (.int .i64) (.no)],W .u32,fun a:W .u32×W .i64×Unit=>F_bits_Zext a.1 a.2.1,fun r:W .u32=>(.val (.int .u32) r (.no),[.undef,.undef])⟩
def t42:Tt:=tbl [(65,N5),(66,N6)]
def g43:=gx ⟨[0,1,4,5,6,10,14,18],[],[true],[]⟩ Tryz.f17
def N43:FnK tab:=⟨[.val (.int .i64) (.no),.val (.int .u32) (.no)],W .u32,fun a:W .i64×W .u32×Unit=>F_exec_Ext a.1 a.2.1,fun r:W .u32=>(.val (.int .u32) r (.no),[.undef,.undef])⟩
def t43:Tt:=tbl [(42,N41),(43,N42)]
def g44:=gx ⟨[0,1,2,4,8],[],[true],[]⟩ Tryz.f18
def N44:FnK tab:=⟨[.val (.named .TUop) (.no),.val (.int .u32) (.no)],Bool,fun a:TUop×W .u32×Unit=>F_exec_Wrong a.1 a.2.1,fun r:Bool=>(.val (.bool) r (.no),[.undef,.undef])⟩
def t44:Tt:=tbl [(23,N13)]
def g45:=gx ⟨[0,1,2,3,4],[],[true],[]⟩ Tryz.f6
def N45:FnK tab:=⟨[],Bool,fun a:Unit=>F_law32_awake,fun r:Bool=>(.val (.bool) r (.no),[])⟩
def t45:Tt:=tbl [(10,N40),(17,N43),(18,N44)]
def g46:=gx ⟨[0,2],[],[true],[]⟩ Tryz.f8
def N46:FnK tab:=⟨[.val (.int .u32) (.no)],Sl 1 (W .u8),fun a:W .u32×Unit=>F_law32_word a.1,fun r:Sl 1 (W .u8)=>(.val (.slice 1 (.int .u8)) r (.no),[.undef])⟩
def g47:=gx ⟨[0,1,2],[],[true],[]⟩ Tryz.f45
def N47:FnK tab:=⟨[.val (.named .TSeg) (.no)],W .i64,fun a:TSeg×Unit=>F_rom_end a.1,fun r:W .i64=>(.val (.int .i64) r (.no),[.undef])⟩
def g48:=gx ⟨[0,1,2,3,5,9,11,12,13,14,17,22,26],[],[true],[(13,[(3,.any),(11,.any),(12,.any),(13,.any)]),(14,[(2,.any)]),(15,[(3,.any),(11,.any),(12,.any),(13,.any)])]⟩ Tryz.f44
def K48_13:MarkK tab:=⟨[(3,.val (.int .i64) (.no)),(11,.val (.slice 32 (.named .TSeg)) (.no)),(12,.val (.int .i64) (.no)),(13,.val (.int .i64) (.no))],[(.ret,[(2,.val (.int .i64) (.no))]),((.exit 0),[(2,.undef)])],L_rom_Right_13⟩
def N48:FnK tab:=⟨[.val (.named .TImage) (.no)],W .i64,fun a:TImage×Unit=>F_rom_Right a.1,fun r:W .i64=>(.val (.int .i64) r (.no),[.undef])⟩
def t48:Tt:=tbl [(45,N47)]
def q48:Qt:=mtbl [(13,K48_13)]
def g49:=gx ⟨[0,1,3,4,5,6,7,9,20,24,29,30,31,32,38],[],[true,true],[(21,[(0,.any),(7,.any),(29,.any),(30,.any),(31,.any)]),(22,[(4,.any),(5,.any),(7,.any)]),(23,[(0,.any),(7,.any),(29,.any),(30,.any),(31,.any)])]⟩ Tryz.f19
def K49_21:MarkK tab:=⟨[(0,.val (.int .i64) (.no)),(7,.val (.slice 1 (.int .u8)) (.yes 0)),(29,.val (.slice 32 (.named .TSeg)) (.no)),(30,.val (.int .i64) (.no)),(31,.val (.int .i64) (.no))],[(.ret,[(4,.val (.slice 1 (.int .u8)) (.full)),(5,.val (.int .i64) (.no)),(7,.val (.slice 1 (.int .u8)) (.yes 0))]),((.exit 0),[(4,.undef),(5,.undef),(7,.val (.slice 1 (.int .u8)) (.yes 0))])],L_rom_Load_21⟩
def N49:FnK tab:=⟨[.val (.int .i64) (.no),.val (.named .TImage) (.no)],Sl 1 (W .u8)×W .i64,fun a:W .i64×TImage×Unit=>F_rom_Load a.1 a.2.1,fun r:Sl 1 (W .u8)×W .i64=>(.tup [.val (.slice 1 (.int .u8)) r.1 (.no),.val (.int .i64) r.2 (.no)],[.undef,.undef])⟩
def t49:Tt:=tbl [(44,N48),(45,N47)]
def q49:Qt:=mtbl [(21,K49_21)]
def g50:=gx ⟨[0,1,2,4,5,6,7,8,16],[],[true,true],[]⟩ Tryz.f7
def N50:FnK tab:=⟨[.val (.named .TImage) (.no),.val (.int .i64) (.no)],TMach×W .i64,fun a:TImage×W .i64×Unit=>F_step_New a.1 a.2.1,fun r:TMach×W .i64=>(.tup [.val (.named .TMach) r.1 (.no),.val (.int .i64) r.2 (.no)],[.undef,.undef])⟩
def t50:Tt:=tbl [(19,N49)]
def g51:=gx ⟨[0],[],[true],[]⟩ Tryz.f46
def N51:FnK tab:=⟨[],Arr 3 (W .i64),fun a:Unit=>F_crack_none,fun r:Arr 3 (W .i64)=>(.val (.arr 3 (.int .i64)) r (.no),[])⟩
def g52:=gx ⟨[0,1,2,3,6],[],[true],[]⟩ Tryz.f20
def N52:FnK tab:=⟨[.val (.named .TSlot) (.no),.val (.int .i64) (.no),.val (.int .u32) (.no)],Sl 168 (TUop),fun a:TSlot×W .i64×W .u32×Unit=>F_crack_trap a.1 a.2.1 a.2.2.1,fun r:Sl 168 (TUop)=>(.val (.slice 168 (.named .TUop)) r (.no),[.undef,.undef,.undef])⟩
def t52:Tt:=tbl [(46,N51)]
def g53:=gx ⟨[0,1,2,6,7,8],[],[true],[]⟩ Tryz.f47
def N53:FnK tab:=⟨[.val (.int .u32) (.no),.val (.int .i64) (.no),.val (.int .i64) (.no)],W .u32,fun a:W .u32×W .i64×W .i64×Unit=>F_bits_Field a.1 a.2.1 a.2.2.1,fun r:W .u32=>(.val (.int .u32) r (.no),[.undef,.undef,.undef])⟩
def t53:Tt:=tbl [(41,N7)]
def g54:=gx ⟨[0,1,4,6],[],[true],[]⟩ Tryz.f48
def N54:FnK tab:=⟨[.val (.int .i64) (.no),.val (.int .u32) (.no)],W .i64,fun a:W .i64×W .u32×Unit=>F_inst_number a.1 a.2.1,fun r:W .i64=>(.val (.int .i64) r (.no),[.undef,.undef])⟩
def t54:Tt:=tbl [(15,N9),(42,N41),(43,N42)]
def g55:=gx ⟨[0,2,3,4,5,6,13,17,24,31,38,55],[],[true,true],[]⟩ Tryz.f21
def N55:FnK tab:=⟨[.val (.int .u32) (.no)],TInst×W .i64,fun a:W .u32×Unit=>F_inst_Dec a.1,fun r:TInst×W .i64=>(.tup [.val (.named .TInst) r.1 (.no),.val (.int .i64) r.2 (.no)],[.undef])⟩
def t55:Tt:=tbl [(4,N10),(14,N2),(47,N53),(48,N54)]
def g56:=gx ⟨[0,2,4],[],[true],[]⟩ Tryz.f67
def N56:FnK tab:=⟨[.val (.int .i64) (.no)],W .i64,fun a:W .i64×Unit=>F_crack_reg a.1,fun r:W .i64=>(.val (.int .i64) r (.no),[.undef])⟩
def g57:=gx ⟨[0,1,2,3,7,11,12,24,33],[],[true],[]⟩ Tryz.f49
def N57:FnK tab:=⟨[.val (.named .TInst) (.no)],Arr 3 (W .i64),fun a:TInst×Unit=>F_crack_sources a.1,fun r:Arr 3 (W .i64)=>(.val (.arr 3 (.int .i64)) r (.no),[.undef])⟩
def t57:Tt:=tbl [(16,N11),(39,N1),(46,N51),(67,N56)]
def g58:=gx ⟨[0,1,2,5,6],[],[true],[]⟩ Tryz.f50
def N58:FnK tab:=⟨[.val (.named .TInst) (.no)],W .i64,fun a:TInst×Unit=>F_crack_target a.1,fun r:W .i64=>(.val (.int .i64) r (.no),[.undef])⟩
def t58:Tt:=tbl [(39,N1),(67,N56)]
def g59:=gx ⟨[0,1,2,3,4,5,8],[],[true],[]⟩ Tryz.f22
def N59:FnK tab:=⟨[.val (.named .TSlot) (.no),.val (.named .TInst) (.no),.val (.int .i64) (.no),.val (.bool) (.no)],TUop,fun a:TSlot×TInst×W .i64×Bool×Unit=>F_crack_part a.1 a.2.1 a.2.2.1 a.2.2.2.1,fun r:TUop=>(.val (.named .TUop) r (.no),[.undef,.undef,.undef,.undef])⟩
def t59:Tt:=tbl [(5,N12),(49,N57),(50,N58)]
def g60:=gx ⟨[0,1,2,3,4,5,8,22,29,48],[],[true],[]⟩ Tryz.f9
def N60:FnK tab:=⟨[.val (.named .TSlot) (.no)],Sl 168 (TUop),fun a:TSlot×Unit=>F_crack_Uops a.1,fun r:Sl 168 (TUop)=>(.val (.slice 168 (.named .TUop)) r (.no),[.undef])⟩
def t60:Tt:=tbl [(20,N52),(21,N55),(22,N59)]
def g61:=gx ⟨[0,1,2],[],[true],[]⟩ Tryz.f34
def N61:FnK tab:=⟨[.val (.named .TArch) (.no)],Bool,fun a:TArch×Unit=>F_csr_Kernel a.1,fun r:Bool=>(.val (.bool) r (.no),[.undef])⟩
def g62:=gx ⟨[0],[],[true],[]⟩ Tryz.f54
def N62:FnK tab:=⟨[],Arr 3 (TSource),fun a:Unit=>F_trap_sources,fun r:Arr 3 (TSource)=>(.val (.arr 3 (.named .TSource)) r (.no),[])⟩
def g63:=gx ⟨[0,1,2,3,5,14,22,23,24,30],[],[true],[(13,[(3,.any),(22,.any),(23,.any)]),(14,[(2,.any)]),(15,[(3,.any),(22,.any),(23,.any)])]⟩ Tryz.f29
def K63_13:MarkK tab:=⟨[(3,.val (.int .u32) (.no)),(22,.val (.arr 3 (.named .TSource)) (.no)),(23,.val (.int .i64) (.no))],[(.ret,[(2,.val (.int .i64) (.no))]),((.exit 0),[(2,.undef)])],L_trap_Pending_13⟩
def N63:FnK tab:=⟨[.val (.named .TArch) (.no)],W .i64,fun a:TArch×Unit=>F_trap_Pending a.1,fun r:W .i64=>(.val (.int .i64) r (.no),[.undef])⟩
def t63:Tt:=tbl [(34,N61),(54,N62)]
def q63:Qt:=mtbl [(13,K63_13)]
def g64:=gx ⟨[0,2,3,10],[],[true],[]⟩ Tryz.f63
def N64:FnK tab:=⟨[.val (.int .i64) (.no)],W .u32,fun a:W .i64×Unit=>F_csr_Masked a.1,fun r:W .u32=>(.val (.int .u32) r (.no),[.undef])⟩
def g65:=gx ⟨[0,1,2,6,10],[],[true],[]⟩ Tryz.f64
def N65:FnK tab:=⟨[.val (.int .u32) (.no),.val (.int .u32) (.no),.val (.int .u32) (.no)],W .u32,fun a:W .u32×W .u32×W .u32×Unit=>F_trap_moved a.1 a.2.1 a.2.2.1,fun r:W .u32=>(.val (.int .u32) r (.no),[.undef,.undef,.undef])⟩
def g66:=gx ⟨[0,1,2,3,4,8,9],[],[true],[]⟩ Tryz.f38
def N66:FnK tab:=⟨[.val (.named .TArch) (.no),.val (.int .i64) (.no),.val (.int .u32) (.no),.val (.int .u32) (.no)],TArch,fun a:TArch×W .i64×W .u32×W .u32×Unit=>F_trap_Take a.1 a.2.1 a.2.2.1 a.2.2.2.1,fun r:TArch=>(.val (.named .TArch) r (.no),[.undef,.undef,.undef,.undef])⟩
def t66:Tt:=tbl [(63,N64),(64,N65)]
def g67:=gx ⟨[0,1,2,3,4,8,9,10,11],[],[true,true,true],[]⟩ Tryz.f30
def N67:FnK tab:=⟨[.val (.named .TMach) (.no),.val (.int .u32) (.no),.val (.int .i64) (.no),.val (.int .u32) (.no)],TMach×TEvent×Bool,fun a:TMach×W .u32×W .i64×W .u32×Unit=>F_step_traps a.1 a.2.1 a.2.2.1 a.2.2.2.1,fun r:TMach×TEvent×Bool=>(.tup [.val (.named .TMach) r.1 (.no),.val (.named .TEvent) r.2.1 (.no),.val (.bool) r.2.2 (.no)],[.undef,.undef,.undef,.undef])⟩
def t67:Tt:=tbl [(38,N66)]
def g68:=gx ⟨[0,1,2,4,5],[],[true],[]⟩ Tryz.f31
def N68:FnK tab:=⟨[.val (.named .TArch) (.no),.val (.int .u32) (.no)],Bool,fun a:TArch×W .u32×Unit=>F_trap_Stops a.1 a.2.1,fun r:Bool=>(.val (.bool) r (.no),[.undef,.undef])⟩
def t68:Tt:=tbl [(34,N61)]
def g69:=gx ⟨[0,1,4],[],[true],[]⟩ Tryz.f77
def N69:FnK tab:=⟨[.val (.int .u32) (.no),.val (.int .i64) (.no)],Bool,fun a:W .u32×W .i64×Unit=>F_bits_Aligned a.1 a.2.1,fun r:Bool=>(.val (.bool) r (.no),[.undef,.undef])⟩
def g70:=gx ⟨[0,1,2],[],[true],[]⟩ Tryz.f96
def N70:FnK tab:=⟨[.val (.named .TArch) (.no)],Bool,fun a:TArch×Unit=>F_walk_Paged a.1,fun r:Bool=>(.val (.bool) r (.no),[.undef])⟩
def t70:Tt:=tbl [(34,N61)]
def g71:=gx ⟨[0,2,3,4,6,8],[],[true],[]⟩ Tryz.f97
def N71:FnK tab:=⟨[.val (.int .i64) (.no)],W .i64,fun a:W .i64×Unit=>F_walk_Fault a.1,fun r:W .i64=>(.val (.int .i64) r (.no),[.undef])⟩
def g72:=gx ⟨[0,1,4,5,6,11],[],[true],[]⟩ Tryz.f105
def N72:FnK tab:=⟨[.val (.int .u32) (.no),.val (.int .i64) (.no)],W .i64,fun a:W .u32×W .i64×Unit=>F_pte_Index a.1 a.2.1,fun r:W .i64=>(.val (.int .i64) r (.no),[.undef,.undef])⟩
def t72:Tt:=tbl [(47,N53)]
def g73:=gx ⟨[0,1,2,6,27],[],[true],[]⟩ Tryz.f79
def N73:FnK tab:=⟨[.val (.slice 1 (.int .u8)) (.no),.val (.int .u32) (.no),.val (.int .i64) (.no)],W .i64,fun a:Sl 1 (W .u8)×W .u32×W .i64×Unit=>F_mem_Check a.1 a.2.1 a.2.2.1,fun r:W .i64=>(.val (.int .i64) r (.no),[.undef,.undef,.undef])⟩
def g74:=gx ⟨[0,2,3,4,5,10,11,12,13],[],[true],[(7,[(3,.any),(10,.any),(11,.any),(12,.any)]),(8,[(3,.any)]),(9,[(3,.any),(10,.any),(11,.any),(12,.any)])]⟩ Tryz.f80
def K74_7:MarkK tab:=⟨[(3,.val (.int .u32) (.no)),(10,.val (.slice 1 (.int .u8)) (.no)),(11,.val (.int .i64) (.no)),(12,.val (.int .i64) (.no))],[((.exit 0),[(3,.val (.int .u32) (.no))])],L_bits_Of_7⟩
def N74:FnK tab:=⟨[.val (.slice 1 (.int .u8)) (.no)],W .u32,fun a:Sl 1 (W .u8)×Unit=>F_bits_Of a.1,fun r:W .u32=>(.val (.int .u32) r (.no),[.undef])⟩
def q74:Qt:=mtbl [(7,K74_7)]
def g75:=gx ⟨[0,1,2,6,7,8,14],[],[true,true],[]⟩ Tryz.f56
def N75:FnK tab:=⟨[.val (.slice 1 (.int .u8)) (.no),.val (.int .u32) (.no),.val (.int .i64) (.no)],W .u32×W .i64,fun a:Sl 1 (W .u8)×W .u32×W .i64×Unit=>F_mem_Read a.1 a.2.1 a.2.2.1,fun r:W .u32×W .i64=>(.tup [.val (.int .u32) r.1 (.no),.val (.int .i64) r.2 (.no)],[.undef,.undef,.undef])⟩
def t75:Tt:=tbl [(79,N73),(80,N74)]
def g76:=gx ⟨[0,2],[],[true],[]⟩ Tryz.f110
def N76:FnK tab:=⟨[.val (.int .u32) (.no)],TPte,fun a:W .u32×Unit=>F_pte_Of a.1,fun r:TPte=>(.val (.named .TPte) r (.no),[.undef])⟩
def t76:Tt:=tbl [(47,N53)]
def g77:=gx ⟨[0,1,4,5,6,7,18],[0],[true,true],[]⟩ Tryz.f104
def N77:FnK tab:=⟨[.box (.named .TWalker) (.st [.no,.yes 0]),.val (.int .u32) (.no)],TPte×Bool×TWalker,fun a:TWalker×W .u32×Unit=>F_walk_walker_entry a.1 a.2.1,fun r:TPte×Bool×TWalker=>(.tup [.val (.named .TPte) r.1 (.no),.val (.bool) r.2.1 (.no)],[.box 0 (.named .TWalker) r.2.2 (.st [.no,.yes 0]),.undef])⟩
def t77:Tt:=tbl [(56,N75),(110,N76)]
def g78:=gx ⟨[0,1,2],[],[true],[]⟩ Tryz.f106
def N78:FnK tab:=⟨[.val (.named .TPte) (.no)],Bool,fun a:TPte×Unit=>F_pte_Leaf a.1,fun r:Bool=>(.val (.bool) r (.no),[.undef])⟩
def g79:=gx ⟨[0,1,2,6,7,8,9,10,11,12,15,17,41,73],[],[true,true,true],[]⟩ Tryz.f98
def N79:FnK tab:=⟨[.val (.slice 1 (.int .u8)) (.no),.val (.int .u32) (.no),.val (.int .u32) (.no)],TPte×Sl 4 (W .u32)×Bool,fun a:Sl 1 (W .u8)×W .u32×W .u32×Unit=>F_walk_Walk a.1 a.2.1 a.2.2.1,fun r:TPte×Sl 4 (W .u32)×Bool=>(.tup [.val (.named .TPte) r.1 (.no),.val (.slice 4 (.int .u32)) r.2.1 (.no),.val (.bool) r.2.2 (.no)],[.undef,.undef,.undef])⟩
def t79:Tt:=tbl [(104,N77),(105,N72),(106,N78)]
def g80:=gx ⟨[0,1,2,3,6,7,9,12,13,17,21],[],[true],[]⟩ Tryz.f99
def N80:FnK tab:=⟨[.val (.named .TPte) (.no),.val (.int .i64) (.no),.val (.bool) (.no)],Bool,fun a:TPte×W .i64×Bool×Unit=>F_pte_Allows a.1 a.2.1 a.2.2.1,fun r:Bool=>(.val (.bool) r (.no),[.undef,.undef,.undef])⟩
def g81:=gx ⟨[0,1,2],[],[true],[]⟩ Tryz.f107
def N81:FnK tab:=⟨[.val (.named .TPte) (.no)],W .u32,fun a:TPte×Unit=>F_pte_page a.1,fun r:W .u32=>(.val (.int .u32) r (.no),[.undef])⟩
def g82:=gx ⟨[0,1,2,4],[],[true],[]⟩ Tryz.f100
def N82:FnK tab:=⟨[.val (.named .TPte) (.no),.val (.int .u32) (.no)],W .u32,fun a:TPte×W .u32×Unit=>F_pte_Addr a.1 a.2.1,fun r:W .u32=>(.val (.int .u32) r (.no),[.undef,.undef])⟩
def t82:Tt:=tbl [(107,N81)]
def g83:=gx ⟨[0,1,2,3,4,8,9,10,11,13,16,21,40],[],[true,true],[]⟩ Tryz.f78
def N83:FnK tab:=⟨[.val (.named .TArch) (.no),.val (.slice 1 (.int .u8)) (.no),.val (.int .u32) (.no),.val (.int .i64) (.no)],W .u32×W .i64,fun a:TArch×Sl 1 (W .u8)×W .u32×W .i64×Unit=>F_walk_Trans a.1 a.2.1 a.2.2.1 a.2.2.2.1,fun r:W .u32×W .i64=>(.tup [.val (.int .u32) r.1 (.no),.val (.int .i64) r.2 (.no)],[.undef,.undef,.undef,.undef])⟩
def t83:Tt:=tbl [(96,N70),(97,N71),(98,N79),(99,N80),(100,N82)]
def g84:=gx ⟨[0,1,2,3,4,5,10,11,12,13,17,29,35],[],[true,true],[]⟩ Tryz.f55
def N84:FnK tab:=⟨[.val (.named .TMach) (.no),.val (.slice 1 (.int .u8)) (.no),.val (.int .u32) (.no),.val (.int .i64) (.no),.val (.int .i64) (.no)],W .u32×W .i64,fun a:TMach×Sl 1 (W .u8)×W .u32×W .i64×W .i64×Unit=>F_step_reach a.1 a.2.1 a.2.2.1 a.2.2.2.1 a.2.2.2.2.1,fun r:W .u32×W .i64=>(.tup [.val (.int .u32) r.1 (.no),.val (.int .i64) r.2 (.no)],[.undef,.undef,.undef,.undef,.undef])⟩
def t84:Tt:=tbl [(77,N69),(78,N83),(79,N73)]
def g85:=gx ⟨[0,1,2,3,4,5,17],[],[true,true],[]⟩ Tryz.f32
def N85:FnK tab:=⟨[.val (.named .TMach) (.no)],W .u32×W .i64,fun a:TMach×Unit=>F_step_Fetch a.1,fun r:W .u32×W .i64=>(.tup [.val (.int .u32) r.1 (.no),.val (.int .i64) r.2 (.no)],[.undef])⟩
def t85:Tt:=tbl [(55,N84),(56,N75)]
def g86:=gx ⟨[0,2],[],[true],[]⟩ Tryz.f33
def N86:FnK tab:=⟨[.val (.int .i64) (.no)],Bool,fun a:W .i64×Unit=>F_inst_Priv a.1,fun r:Bool=>(.val (.bool) r (.no),[.undef])⟩
def g87:=gx ⟨[0,1,2,7],[0],[],[]⟩ Tryz.f81
def N87:FnK tab:=⟨[.box (.named .TWork) (.no),.val (.int .i64) (.no),.val (.int .u32) (.no)],TWork,fun a:TWork×W .i64×W .u32×Unit=>F_step_work_put a.1 a.2.1 a.2.2.1,fun r:TWork=>(.tup [],[.box 0 (.named .TWork) r (.no),.undef,.undef])⟩
def g88:=gx ⟨[0,1,2,3,5,8,9,17,30,40,55],[0],[],[(3,[(0,.any),(2,.any),(3,.any),(5,.any),(17,.any)]),(4,[(0,.any),(2,.any),(3,.any),(5,.any)]),(5,[(0,.any),(2,.any),(3,.any),(5,.any)]),(6,[(0,.any)]),(11,[(0,.any),(2,.any),(3,.any),(5,.any),(8,.any),(9,.any)]),(12,[(0,.any)]),(15,[(0,.any),(2,.any),(3,.any),(5,.any),(8,.any),(9,.any)]),(16,[(0,.any)]),(17,[(0,.any),(2,.any),(3,.any),(5,.any),(8,.any),(55,.any)]),(18,[(0,.any),(5,.any),(8,.any)]),(19,[(0,.any),(5,.any),(8,.any)]),(20,[(0,.any)])]⟩ Tryz.f57
def K88_3:MarkK tab:=⟨[(0,.box (.named .TWork) (.no)),(2,.val (.int .u32) (.no)),(3,.val (.int .u32) (.no)),(5,.box (.named .TInst) (.no)),(17,.val (.bool) (.no))],[(.normal,[(0,.box (.named .TWork) (.no)),(2,.val (.int .u32) (.no)),(3,.val (.int .u32) (.no)),(5,.box (.named .TInst) (.no))])],L_step_work_reckon_3⟩
def K88_17:MarkK tab:=⟨[(0,.box (.named .TWork) (.no)),(2,.val (.int .u32) (.no)),(3,.val (.int .u32) (.no)),(5,.box (.named .TInst) (.no)),(8,.val (.int .u32) (.no)),(55,.val (.bool) (.no))],[(.normal,[(0,.box (.named .TWork) (.no)),(5,.box (.named .TInst) (.no)),(8,.val (.int .u32) (.no))])],L_step_work_reckon_17⟩
def K88_19:MarkK tab:=⟨[(0,.box (.named .TWork) (.no)),(5,.box (.named .TInst) (.no)),(8,.val (.int .u32) (.no))],[(.normal,[(0,.box (.named .TWork) (.no))])],L_step_work_reckon_19⟩
def K88_15:MarkK tab:=⟨[(0,.box (.named .TWork) (.no)),(2,.val (.int .u32) (.no)),(3,.val (.int .u32) (.no)),(5,.box (.named .TInst) (.no)),(8,.val (.int .u32) (.no)),(9,.val (.bool) (.no))],[(.normal,[(0,.box (.named .TWork) (.no))])],L_step_work_reckon_15⟩
def K88_11:MarkK tab:=⟨[(0,.box (.named .TWork) (.no)),(2,.val (.int .u32) (.no)),(3,.val (.int .u32) (.no)),(5,.box (.named .TInst) (.no)),(8,.val (.int .u32) (.no)),(9,.val (.bool) (.no))],[(.normal,[(0,.box (.named .TWork) (.no))])],L_step_work_reckon_11⟩
def K88_5:MarkK tab:=⟨[(0,.box (.named .TWork) (.no)),(2,.val (.int .u32) (.no)),(3,.val (.int .u32) (.no)),(5,.box (.named .TInst) (.no))],[(.normal,[(0,.box (.named .TWork) (.no))])],L_step_work_reckon_5⟩
def N88:FnK tab:=⟨[.box (.named .TWork) (.no),.val (.named .TInst) (.no),.val (.int .u32) (.no),.val (.int .u32) (.no)],TWork,fun a:TWork×TInst×W .u32×W .u32×Unit=>F_step_work_reckon a.1 a.2.1 a.2.2.1 a.2.2.2.1,fun r:TWork=>(.tup [],[.box 0 (.named .TWork) r (.no),.undef,.undef,.undef])⟩
def t88:Tt:=tbl [(26,N37),(51,N19),(52,N25),(53,N35),(81,N87)]
def q88:Qt:=mtbl [(3,K88_3),(17,K88_17),(19,K88_19),(15,K88_15),(11,K88_11),(5,K88_5)]
def g89:=gx ⟨[0,2,3,4,8],[],[true],[]⟩ Tryz.f82
def N89:FnK tab:=⟨[.val (.int .i64) (.no)],W .i64,fun a:W .i64×Unit=>F_step_sizeOf a.1,fun r:W .i64=>(.val (.int .i64) r (.no),[.undef])⟩
def g90:=gx ⟨[0,1,2],[0],[],[]⟩ Tryz.f83
def N90:FnK tab:=⟨[.box (.named .TWork) (.no),.val (.int .i64) (.no),.val (.int .u32) (.no)],TWork,fun a:TWork×W .i64×W .u32×Unit=>F_step_work_fails a.1 a.2.1 a.2.2.1,fun r:TWork=>(.tup [],[.box 0 (.named .TWork) r (.no),.undef,.undef])⟩
def g91:=gx ⟨[0,1,2,4,6,7,8,9,10,22,40,57,58,65,76],[0],[],[]⟩ Tryz.f58
def N91:FnK tab:=⟨[.box (.named .TWork) (.no),.val (.named .TInst) (.no),.val (.int .u32) (.no)],TWork,fun a:TWork×TInst×W .u32×Unit=>F_step_work_loads a.1 a.2.1 a.2.2.1,fun r:TWork=>(.tup [],[.box 0 (.named .TWork) r (.no),.undef,.undef])⟩
def t91:Tt:=tbl [(42,N41),(55,N84),(56,N75),(81,N87),(82,N89),(83,N90)]
def N92:FnK tab:=cloneK 1 (.int .u8)
def g93:=gx ⟨[0,1,4,5,6,11,12,13],[],[true],[(7,[(0,.any),(5,.any),(11,.any),(12,.any)]),(8,[(5,.any)]),(9,[(0,.any),(5,.any),(11,.any),(12,.any)])]⟩ Tryz.f109
def K93_7:MarkK tab:=⟨[(0,.val (.int .u32) (.no)),(5,.val (.slice 1 (.int .u8)) (.yes 0)),(11,.val (.int .i64) (.no)),(12,.val (.int .i64) (.no))],[((.exit 0),[(5,.val (.slice 1 (.int .u8)) (.yes 0))])],L_bits_Bytes_7⟩
def N93:FnK tab:=⟨[.val (.int .u32) (.no),.val (.int .i64) (.no)],Sl 1 (W .u8),fun a:W .u32×W .i64×Unit=>F_bits_Bytes a.1 a.2.1,fun r:Sl 1 (W .u8)=>(.val (.slice 1 (.int .u8)) r (.no),[.undef,.undef])⟩
def t93:Tt:=tbl [(65,N5)]
def q93:Qt:=mtbl [(7,K93_7)]
def g94:=gx ⟨[0,1,2,3,8,9,10,11,17],[],[true,true],[]⟩ Tryz.f101
def N94:FnK tab:=⟨[.val (.slice 1 (.int .u8)) (.no),.val (.int .u32) (.no),.val (.int .i64) (.no),.val (.int .u32) (.no)],Sl 1 (W .u8)×W .i64,fun a:Sl 1 (W .u8)×W .u32×W .i64×W .u32×Unit=>F_mem_Write a.1 a.2.1 a.2.2.1 a.2.2.2.1,fun r:Sl 1 (W .u8)×W .i64=>(.tup [.val (.slice 1 (.int .u8)) r.1 (.no),.val (.int .i64) r.2 (.no)],[.undef,.undef,.undef,.undef])⟩
def t94:Tt:=tbl [(79,N73),(108,N92),(109,N93)]
def g95:=gx ⟨[0,1,2,3,8,9,23],[0],[],[]⟩ Tryz.f84
def N95:FnK tab:=⟨[.box (.named .TWork) (.no),.val (.int .u32) (.no),.val (.int .i64) (.no),.val (.int .u32) (.no)],TWork,fun a:TWork×W .u32×W .i64×W .u32×Unit=>F_step_work_stores a.1 a.2.1 a.2.2.1 a.2.2.2.1,fun r:TWork=>(.tup [],[.box 0 (.named .TWork) r (.no),.undef,.undef,.undef])⟩
def t95:Tt:=tbl [(43,N42),(101,N94)]
def g96:=gx ⟨[0,1,2,3,5,8,9,10,11,36],[0],[],[]⟩ Tryz.f59
def N96:FnK tab:=⟨[.box (.named .TWork) (.no),.val (.named .TInst) (.no),.val (.int .u32) (.no),.val (.int .u32) (.no)],TWork,fun a:TWork×TInst×W .u32×W .u32×Unit=>F_step_work_keeps a.1 a.2.1 a.2.2.1 a.2.2.2.1,fun r:TWork=>(.tup [],[.box 0 (.named .TWork) r (.no),.undef,.undef,.undef])⟩
def t96:Tt:=tbl [(55,N84),(82,N89),(83,N90),(84,N95)]
def g97:=gx ⟨[0,1,2,3,5,8,9,27,32,37,48],[0],[],[]⟩ Tryz.f60
def N97:FnK tab:=⟨[.box (.named .TWork) (.no),.val (.named .TInst) (.no),.val (.int .u32) (.no),.val (.int .u32) (.no)],TWork,fun a:TWork×TInst×W .u32×W .u32×Unit=>F_step_work_goes a.1 a.2.1 a.2.2.1 a.2.2.2.1,fun r:TWork=>(.tup [],[.box 0 (.named .TWork) r (.no),.undef,.undef,.undef])⟩
def t97:Tt:=tbl [(27,N38),(81,N87)]
def g98:=gx ⟨[0,1,2,3,5,8,9,10,27,42,52],[0],[],[]⟩ Tryz.f61
def N98:FnK tab:=⟨[.box (.named .TWork) (.no),.val (.named .TInst) (.no),.val (.int .u32) (.no),.val (.int .u32) (.no)],TWork,fun a:TWork×TInst×W .u32×W .u32×Unit=>F_step_work_atOnce a.1 a.2.1 a.2.2.1 a.2.2.2.1,fun r:TWork=>(.tup [],[.box 0 (.named .TWork) r (.no),.undef,.undef,.undef])⟩
def t98:Tt:=tbl [(55,N84),(56,N75),(81,N87),(83,N90),(84,N95)]
def g99:=gx ⟨[0,1,2,3,4,7],[],[true,true],[]⟩ Tryz.f85
def N99:FnK tab:=⟨[.val (.named .TArch) (.no)],TArch×W .i64,fun a:TArch×Unit=>F_trap_Return a.1,fun r:TArch×W .i64=>(.tup [.val (.named .TArch) r.1 (.no),.val (.int .i64) r.2 (.no)],[.undef])⟩
def t99:Tt:=tbl [(34,N61),(64,N65)]
def g100:=gx ⟨[0,1,2,3,6,13,19],[],[true],[]⟩ Tryz.f102
def N100:FnK tab:=⟨[.val (.named .TArch) (.no),.val (.int .i64) (.no),.val (.bool) (.no)],W .i64,fun a:TArch×W .i64×Bool×Unit=>F_csr_may a.1 a.2.1 a.2.2.1,fun r:W .i64=>(.val (.int .i64) r (.no),[.undef,.undef,.undef])⟩
def t100:Tt:=tbl [(34,N61)]
def g101:=gx ⟨[0,1,2,4,5,6,13],[],[true,true],[]⟩ Tryz.f86
def N101:FnK tab:=⟨[.val (.named .TArch) (.no),.val (.int .i64) (.no)],W .u32×W .i64,fun a:TArch×W .i64×Unit=>F_csr_Read a.1 a.2.1,fun r:W .u32×W .i64=>(.tup [.val (.int .u32) r.1 (.no),.val (.int .i64) r.2 (.no)],[.undef,.undef])⟩
def t101:Tt:=tbl [(102,N100)]
def g102:=gx ⟨[0,1,2,3,6,7,8,13],[],[true,true],[]⟩ Tryz.f87
def N102:FnK tab:=⟨[.val (.named .TArch) (.no),.val (.int .i64) (.no),.val (.int .u32) (.no)],TArch×W .i64,fun a:TArch×W .i64×W .u32×Unit=>F_csr_Write a.1 a.2.1 a.2.2.1,fun r:TArch×W .i64=>(.tup [.val (.named .TArch) r.1 (.no),.val (.int .i64) r.2 (.no)],[.undef,.undef,.undef])⟩
def t102:Tt:=tbl [(63,N64),(102,N100)]
def g103:=gx ⟨[0,1,2,4,6,7,8,9,10,11,13,14,18,30,49,63,77,92,106,118,150,157],[0],[],[(0,[(0,.fz)])]⟩ Tryz.f62
def N103:FnK tab:=⟨[.box (.named .TWork) (.no),.val (.named .TInst) (.no),.val (.int .u32) (.no)],TWork,fun a:TWork×TInst×W .u32×Unit=>F_step_work_system a.1 a.2.1 a.2.2.1,fun r:TWork=>(.tup [],[.box 0 (.named .TWork) r (.no),.undef,.undef])⟩
def t103:Tt:=tbl [(81,N87),(83,N90),(85,N99),(86,N101),(87,N102)]
def g104:=gx ⟨[0,1,2,3,5,6,7,8,9,10,36,44,51,59,67],[],[true],[]⟩ Tryz.f35
def N104:FnK tab:=⟨[.val (.named .TMach) (.no),.val (.int .u32) (.no),.val (.named .TInst) (.no)],TWork,fun a:TMach×W .u32×TInst×Unit=>F_step_does a.1 a.2.1 a.2.2.1,fun r:TWork=>(.val (.named .TWork) r (.no),[.undef,.undef,.undef])⟩
def t104:Tt:=tbl [(57,N88),(58,N91),(59,N96),(60,N97),(61,N98),(62,N103)]
def g105:=gx ⟨[0,1,2,3,21],[],[true],[]⟩ Tryz.f36
def N105:FnK tab:=⟨[.val (.named .TArch) (.no)],TArch,fun a:TArch×Unit=>F_csr_Count a.1,fun r:TArch=>(.val (.named .TArch) r (.no),[.undef])⟩
def g106:=gx ⟨[0,1,2],[],[true],[]⟩ Tryz.f37
def N106:FnK tab:=⟨[.val (.named .TArch) (.no)],Bool,fun a:TArch×Unit=>F_trap_Single a.1,fun r:Bool=>(.val (.bool) r (.no),[.undef])⟩
def t106:Tt:=tbl [(34,N61)]
def g107:=gx ⟨[0,1,2,3,4,5,6,7,8,9,10,13,20,32,47,63,79,93,124],[],[true,true,true],[]⟩ Tryz.f11
def N107:FnK tab:=⟨[.val (.named .TMach) (.no)],TMach×TEvent×Bool,fun a:TMach×Unit=>F_step_Step a.1,fun r:TMach×TEvent×Bool=>(.tup [.val (.named .TMach) r.1 (.no),.val (.named .TEvent) r.2.1 (.no),.val (.bool) r.2.2 (.no)],[.undef])⟩
def t107:Tt:=tbl [(21,N55),(29,N63),(30,N67),(31,N68),(32,N85),(33,N86),(34,N61),(35,N104),(36,N105),(37,N106),(38,N66)]
def g108:=gx ⟨[0,1,2,3,4,6,7,8,9,10,11,12,13,14,15,16,17,18,20,21,22,48,75,82,100,170],[],[true],[(33,[(4,.any),(11,.any),(13,.any),(14,.any),(15,.any)]),(34,[(11,.any),(13,.any),(14,.any)]),(35,[(4,.any),(11,.any),(13,.any),(14,.any),(15,.any)])]⟩ Tryz.f3
def K108_33:MarkK tab:=⟨[(4,.box (.arr 16 (.int .u32)) (.no)),(11,.box (.named .TMach) (.no)),(13,.val (.slice 168 (.named .TUop)) (.no)),(14,.box (.arr 3 (.int .u32)) (.no)),(15,.val (.int .i64) (.no))],[((.exit 0),[(11,.box (.named .TMach) (.no)),(13,.val (.slice 168 (.named .TUop)) (.no)),(14,.box (.arr 3 (.int .u32)) (.no))])],L_law32_ExecPlain_33⟩
def N108:FnK tab:=⟨[.val (.named .TInst) (.no),.val (.arr 16 (.int .u32)) (.no),.val (.int .u8) (.no)],Bool,fun a:TInst×Arr 16 (W .u32)×W .u8×Unit=>F_law32_ExecPlain a.1 a.2.1 a.2.2.1,fun r:Bool=>(.val (.bool) r (.no),[.undef,.undef,.undef])⟩
def t108:Tt:=tbl [(4,N10),(5,N12),(6,N45),(7,N50),(8,N46),(9,N60),(10,N40),(11,N107)]
def q108:Qt:=mtbl [(33,K108_33)]
end
end Go.Proofs.YtijckobfnmkjdaaGreatDoor
