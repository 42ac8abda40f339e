/- YtnpgljilkkipkaaGreatTabs: the tables of functions and marks. No statement of the seat is proved here. -/
import Derived.Test.YtnpgljilkkipkaaGreatTrees
import Derived.Test.YtnpgljilkkipkaaGreatChecked
import Derived.Test.YtnpgljilkkipkaaGreatA2G
set_option linter.unusedSimpArgs false
set_option linter.unusedVariables false
set_option maxRecDepth 100000
namespace Go.Proofs.YtnpgljilkkipkaaGreat
open Go Go.A2
noncomputable section
abbrev Tt:=Nat→List (FnK ab)
abbrev Qt:=Nat→Option (MarkK ab)
def t0:Tt:=tbl []
def q0:Qt:=fun _=>none
def gx (x:FnX) (f:Func):AFn ab:=gOf Tryz.prog cx x f
abbrev ar:=dX (X:=ab) Tryz.prog
abbrev Mo (t:Tt) (q:Qt) (g:AFn ab):=dY (ic t) (dS q) g.keep aa
def g1:=gx ⟨[0,1,2],[],[true],[]⟩ Tryz.f12
def N1:FnK ab:=⟨[.val (.named .TCore) (.no)],Bool,fun a:Y0=>sK a.1,fun r:Bool=>(.val (.bool) r (.no),[.undef])⟩
def g2:=gx ⟨[0,1,2,3,4,5,6,21,26,36,45,58],[],[true],[(11,[(3,.any),(5,.any)]),(12,[(4,.any)]),(13,[(3,.any),(5,.any)]),(26,[(3,.any),(5,.any),(6,.any)]),(27,[(3,.any),(4,.any),(5,.any)]),(28,[(3,.any),(5,.any),(6,.any)])]⟩ Tryz.f5
def Ld:MarkK ab:=⟨[(3,.box (.named .TCoh) (.no)),(5,.val (.int .i64) (.no)),(6,.val (.int .i64) (.no))],[(.ret,[(3,.box (.named .TCoh) (.no)),(4,.val (.bool) (.no)),(5,.val (.int .i64) (.no))]),((.exit 2),[(3,.box (.named .TCoh) (.no)),(4,.undef),(5,.val (.int .i64) (.no))])],tX⟩
def Lc:MarkK ab:=⟨[(3,.box (.named .TCoh) (.no)),(5,.val (.int .i64) (.no))],[(.ret,[(4,.val (.bool) (.no))]),((.exit 0),[(4,.undef)])],tW⟩
def N2:FnK ab:=⟨[.val (.named .TCore) (.no),.val (.named .TCoh) (.no)],Bool,fun a:gN=>mf a.1 a.2.1,fun r:Bool=>(.val (.bool) r (.no),[.undef,.undef])⟩
def t2:Tt:=tbl [(12,N1)]
def q2:Qt:=aG [(26,Ld),(11,Lc)]
def g3:=gx ⟨[0],[],[true],[]⟩ Tryz.f14
def N3:FnK ab:=⟨[],TConf,fun a:Unit=>JB,fun r:TConf=>(.val (.named .TConf) r (.no),[])⟩
def g4:=gx ⟨[0,1,2,6],[],[true],[]⟩ Tryz.f81
def N4:FnK ab:=⟨[.val (.int .i64) (.no),.val (.int .i64) (.no),.val (.int .i64) (.no)],Bool,fun a:Y6=>bW a.1 a.2.1 a.2.2.1,fun r:Bool=>(.val (.bool) r (.no),[.undef,.undef,.undef])⟩
def g5:=gx ⟨[0,1,2,3,4,5,6,113],[],[true],[(3,[(1,.any),(3,.any)]),(4,[(2,.any)]),(5,[(1,.any),(3,.any),(4,.any)]),(6,[(2,.any)]),(7,[(1,.any),(3,.any),(4,.any),(5,.any)]),(8,[(2,.any)]),(9,[(3,.any),(4,.any),(5,.any),(6,.any)]),(10,[(2,.any)]),(11,[(113,.any)]),(12,[(2,.any)]),(15,[]),(16,[(2,.any)])]⟩ Tryz.f31
def Ly:MarkK ab:=⟨[(113,.val (.bool) (.no))],[(.ret,[(2,.val (.int .i64) (.no))]),(.normal,[(2,.undef)])],ku⟩
def Lz:MarkK ab:=⟨[],[(.ret,[(2,.val (.int .i64) (.no))])],kv⟩
def LD:MarkK ab:=⟨[(3,.val (.bool) (.no)),(4,.val (.bool) (.no)),(5,.val (.bool) (.no)),(6,.val (.bool) (.no))],[(.ret,[(2,.val (.int .i64) (.no))])],gG⟩
def LC:MarkK ab:=⟨[(1,.box (.named .TConf) (.no)),(3,.val (.bool) (.no)),(4,.val (.bool) (.no)),(5,.val (.bool) (.no))],[(.ret,[(2,.val (.int .i64) (.no))])],gF⟩
def LB:MarkK ab:=⟨[(1,.box (.named .TConf) (.no)),(3,.val (.bool) (.no)),(4,.val (.bool) (.no))],[(.ret,[(2,.val (.int .i64) (.no))])],fq⟩
def LA:MarkK ab:=⟨[(1,.box (.named .TConf) (.no)),(3,.val (.bool) (.no))],[(.ret,[(2,.val (.int .i64) (.no))])],iP⟩
def N5:FnK ab:=⟨[.val (.named .TConf) (.no)],W .i64,fun a:Y5=>mE a.1,fun r:W .i64=>(.val (.int .i64) r (.no),[.undef])⟩
def t5:Tt:=tbl [(81,N4)]
def q5:Qt:=aG [(11,Ly),(15,Lz),(9,LD),(7,LC),(5,LB),(3,LA)]
def g6:=gx ⟨[0,2],[],[true],[]⟩ Tryz.f75
def N6:FnK ab:=⟨[.val (.slice 1 (.int .u8)) (.no)],Bool,fun a:cU=>mj a.1,fun r:Bool=>(.val (.bool) r (.no),[.undef])⟩
def g7:=gx ⟨[0,2,3,4,6,8,11,18],[],[true],[]⟩ Tryz.f82
def N7:FnK ab:=⟨[.val (.int .i64) (.no)],W .u32,fun a:Y7=>ml a.1,fun r:W .u32=>(.val (.int .u32) r (.no),[.undef])⟩
def g8:=gx ⟨[0,1,2,3,23,25,41],[],[true],[(11,[(1,.any),(3,.any)]),(12,[(2,.any)]),(13,[(1,.any),(3,.any)])]⟩ Tryz.f32
def LR:MarkK ab:=⟨[(1,.box (.named .TMach) (.no)),(3,.val (.int .i64) (.no))],[(.ret,[(2,.val (.bool) (.no))]),((.exit 0),[(2,.undef)])],L2⟩
def N8:FnK ab:=⟨[.val (.named .TMach) (.no)],Bool,fun a:TMach×Unit=>Jo a.1,fun r:Bool=>(.val (.bool) r (.no),[.undef])⟩
def t8:Tt:=tbl [(75,N6),(82,N7)]
def q8:Qt:=aG [(11,LR)]
def g9:=gx ⟨[0,1,2],[],[true],[]⟩ Tryz.f84
def N9:FnK ab:=⟨[.val (.named .TConf) (.no)],W .i64,fun a:Y5=>AG a.1,fun r:W .i64=>(.val (.int .i64) r (.no),[.undef])⟩
def WM:=gx ⟨[0,2],[],[true],[]⟩ Tryz.f165
def AZ:FnK ab:=⟨[.val (.int .i64) (.no)],W .i64,fun a:Y7=>Jp a.1,fun r:W .i64=>(.val (.int .i64) r (.no),[.undef])⟩
def nZ:=gx ⟨[0,2,3,4,8],[],[true],[(7,[(0,.any),(3,.any),(4,.any)]),(8,[(3,.any)]),(9,[(0,.any),(3,.any),(4,.any)])]⟩ Tryz.f136
def JN:MarkK ab:=⟨[(0,.val (.int .i64) (.no)),(3,.val (.int .i64) (.no)),(4,.val (.int .i64) (.no))],[((.exit 0),[(3,.val (.int .i64) (.no))])],L4⟩
def u4:FnK ab:=⟨[.val (.int .i64) (.no)],W .i64,fun a:Y7=>kc a.1,fun r:W .i64=>(.val (.int .i64) r (.no),[.undef])⟩
def t11:Tt:=tbl [(165,AZ)]
def Ha:Qt:=aG [(7,JN)]
def od:=gx ⟨[0,2,3,4,8],[],[true],[(7,[(0,.any),(3,.own),(4,.any)]),(8,[(3,.any)]),(9,[(0,.any),(3,.own),(4,.any)])]⟩ Tryz.f83
def JV:MarkK ab:=⟨[(0,.val (.int .i64) (.no)),(3,.val (.slice 1 (.int .u8)) (.yes 0)),(4,.val (.int .i64) (.no))],[((.exit 0),[(3,.val (.slice 1 (.int .u8)) (.yes 0))])],L3⟩
def Bn:FnK ab:=⟨[.val (.int .i64) (.no)],Sl 1 (W .u8),fun a:Y7=>AD a.1,fun r:Sl 1 (W .u8)=>(.val (.slice 1 (.int .u8)) r (.no),[.undef])⟩
def t12:Tt:=tbl [(136,u4)]
def He:Qt:=aG [(7,JV)]
def W7:=gx ⟨[0,1,2,6,9,13],[],[true],[]⟩ Tryz.f137
def Bv:FnK ab:=⟨[.val (.int .i64) (.no),.val (.int .i64) (.no),.val (.int .i64) (.no)],W .i64,fun a:Y6=>Jq a.1 a.2.1 a.2.2.1,fun r:W .i64=>(.val (.int .i64) r (.no),[.undef,.undef,.undef])⟩
def Xb:=gx ⟨[0,2],[],[true],[]⟩ Tryz.f85
def BF:FnK ab:=⟨[.val (.int .i64) (.no)],Sl 16 (TBtb),fun a:Y7=>AE a.1,fun r:Sl 16 (TBtb)=>(.val (.slice 16 (.named .TBtb)) r (.no),[.undef])⟩
def t14:Tt:=tbl [(137,Bv)]
def oG:=gx ⟨[0,2,3,4,12],[],[true],[(7,[(0,.any),(3,.any),(4,.any)]),(8,[(3,.any)]),(9,[(0,.any),(3,.any),(4,.any)])]⟩ Tryz.f86
def KD:MarkK ab:=⟨[(0,.val (.int .i64) (.no)),(3,.val (.slice 4 (.int .u32)) (.yes 0)),(4,.val (.int .i64) (.no))],[((.exit 0),[(3,.val (.slice 4 (.int .u32)) (.yes 0))])],L5⟩
def BO:FnK ab:=⟨[.val (.int .i64) (.no)],Sl 4 (W .u32),fun a:Y7=>AF a.1,fun r:Sl 4 (W .u32)=>(.val (.slice 4 (.int .u32)) r (.no),[.undef])⟩
def Hr:Qt:=aG [(7,KD)]
def Xi:=gx ⟨[0,1,2],[],[true],[]⟩ Tryz.f33
def vg:FnK ab:=⟨[.val (.named .TConf) (.no)],TPred,fun a:Y5=>mn a.1,fun r:TPred=>(.val (.named .TPred) r (.no),[.undef])⟩
def t16:Tt:=tbl [(83,Bn),(84,N9),(85,BF),(86,BO)]
def Xn:=gx ⟨[0,1,2,6,9,13],[],[true],[]⟩ Tryz.f87
def B7:FnK ab:=⟨[.val (.int .i64) (.no),.val (.int .i64) (.no),.val (.int .i64) (.no)],W .i64,fun a:Y6=>Js a.1 a.2.1 a.2.2.1,fun r:W .i64=>(.val (.int .i64) r (.no),[.undef,.undef,.undef])⟩
def Xr:=gx ⟨[0,2],[],[true],[]⟩ Tryz.f34
def Cf:FnK ab:=⟨[.val (.int .i64) (.no)],Sl 24 (TTlb),fun a:Y7=>Jr a.1,fun r:Sl 24 (TTlb)=>(.val (.slice 24 (.named .TTlb)) r (.no),[.undef])⟩
def t18:Tt:=tbl [(87,B7)]
def oT:=gx ⟨[0,2,3,4,11],[],[true],[(7,[(0,.any),(3,.own),(4,.any)]),(8,[(3,.any)]),(9,[(0,.any),(3,.own),(4,.any)])]⟩ Tryz.f35
def K5:MarkK ab:=⟨[(0,.val (.int .i64) (.no)),(3,.val (.slice 1 (.int .u8)) (.yes 0)),(4,.val (.int .i64) (.no))],[((.exit 0),[(3,.val (.slice 1 (.int .u8)) (.yes 0))])],Ma⟩
def Cg:FnK ab:=⟨[.val (.int .i64) (.no)],Sl 1 (W .u8),fun a:Y7=>Jy a.1,fun r:Sl 1 (W .u8)=>(.val (.slice 1 (.int .u8)) r (.no),[.undef])⟩
def HD:Qt:=aG [(7,K5)]
def oU:=gx ⟨[0,1,2,5],[],[true],[(7,[(0,.any),(1,.any),(2,.any)]),(8,[(0,.any),(1,.any)]),(9,[(0,.any),(1,.any),(2,.any)])]⟩ Tryz.f88
def K6:MarkK ab:=⟨[(0,.box (.arr 16 (.int .i64)) (.no)),(1,.box (.arr 16 (.int .i64)) (.no)),(2,.val (.int .i64) (.no))],[((.exit 0),[(0,.box (.arr 16 (.int .i64)) (.no)),(1,.box (.arr 16 (.int .i64)) (.no))])],L7⟩
def Ch:FnK ab:=⟨[],Arr 16 (W .i64),fun a:Unit=>AJ,fun r:Arr 16 (W .i64)=>(.val (.arr 16 (.int .i64)) r (.no),[])⟩
def HE:Qt:=aG [(7,K6)]
def Xs:=gx ⟨[0,1,2,6,9,13],[],[true],[]⟩ Tryz.f138
def Ci:FnK ab:=⟨[.val (.int .i64) (.no),.val (.int .i64) (.no),.val (.int .i64) (.no)],W .i64,fun a:Y6=>AH a.1 a.2.1 a.2.2.1,fun r:W .i64=>(.val (.int .i64) r (.no),[.undef,.undef,.undef])⟩
def oV:=gx ⟨[0,1,4,5,6,7,8,23],[],[true],[(11,[(4,.any),(6,.any),(7,.any),(8,.any)]),(12,[(4,.any),(7,.any)]),(13,[(4,.any),(6,.any),(7,.any),(8,.any)])]⟩ Tryz.f89
def K7:MarkK ab:=⟨[(4,.box (.named .TFree) (.st [.yes 0,.no,.no])),(6,.val (.int .i64) (.no)),(7,.box (.named .TFree) (.st [.yes 0,.no,.no])),(8,.val (.int .i64) (.no))],[((.exit 0),[(4,.box (.named .TFree) (.st [.yes 0,.no,.no])),(7,.box (.named .TFree) (.st [.yes 0,.no,.no]))])],L6⟩
def Cj:FnK ab:=⟨[.val (.int .i64) (.no),.val (.int .i64) (.no)],TFree,fun a:Y9=>Jt a.1 a.2.1,fun r:TFree=>(.val (.named .TFree) r (.no),[.undef,.undef])⟩
def t22:Tt:=tbl [(138,Ci)]
def HF:Qt:=aG [(11,K7)]
def Xt:=gx ⟨[0,2],[],[true],[]⟩ Tryz.f36
def Ck:FnK ab:=⟨[.val (.int .i64) (.no)],TNames,fun a:Y7=>Jx a.1,fun r:TNames=>(.val (.named .TNames) r (.no),[.undef])⟩
def t23:Tt:=tbl [(88,Ch),(89,Cj)]
def oW:=gx ⟨[0,2,3,4,11],[],[true],[(7,[(0,.any),(2,.any),(3,.any),(4,.any)]),(8,[(2,.any),(3,.any)]),(9,[(0,.any),(2,.any),(3,.any),(4,.any)])]⟩ Tryz.f37
def K8:MarkK ab:=⟨[(0,.val (.int .i64) (.no)),(2,.box (.named .TPhys) (.st [.yes 0,.yes 0])),(3,.box (.named .TPhys) (.st [.yes 0,.yes 0])),(4,.val (.int .i64) (.no))],[((.exit 0),[(2,.box (.named .TPhys) (.st [.yes 0,.yes 0])),(3,.box (.named .TPhys) (.st [.yes 0,.yes 0]))])],L8⟩
def Cm:FnK ab:=⟨[.val (.int .i64) (.no)],TPhys,fun a:Y7=>Ju a.1,fun r:TPhys=>(.val (.named .TPhys) r (.no),[.undef])⟩
def HG:Qt:=aG [(7,K8)]
def Xu:=gx ⟨[0,1,2],[],[false],[]⟩ Tryz.f90
def Cn:FnK ab:=⟨[.val (.named .TPhys) (.no)],TPhys,fun a:TPhys×Unit=>Jw a.1,fun r:TPhys=>(.val (.named .TPhys) r (.st [.yes 0,.yes 0]),[.undef])⟩
def Xv:=gx ⟨[0,1,2,4],[],[true],[]⟩ Tryz.f91
def vk:FnK ab:=⟨[.val (.named .TPhys) (.no),.val (.int .i64) (.no)],Bool,fun a:gU=>AK a.1 a.2.1,fun r:Bool=>(.val (.bool) r (.no),[.undef,.undef])⟩
def Xw:=gx ⟨[0,1,2,3,6,7,12],[],[true],[]⟩ Tryz.f38
def Co:FnK ab:=⟨[.val (.named .TPhys) (.no),.val (.int .i64) (.no),.val (.int .u32) (.no)],TPhys,fun a:Og=>Jv a.1 a.2.1 a.2.2.1,fun r:TPhys=>(.val (.named .TPhys) r (.no),[.undef,.undef,.undef])⟩
def t27:Tt:=tbl [(90,Cn),(91,vk)]
def oY:=gx ⟨[0,1,2,3,4,5,6,7,10,14,47],[],[true,true],[(29,[(3,.any),(4,.any),(6,.any),(7,.any)]),(30,[(4,.any),(6,.any)]),(31,[(3,.any),(4,.any),(6,.any),(7,.any)])]⟩ Tryz.f13
def K9:MarkK ab:=⟨[(3,.box (.named .TMach) (.no)),(4,.box (.named .TCore) (.st [.no,.no,.yes 0,.yes 0,.no,.no,.no,.yes 0,.no,.yes 0,.no,.no,.yes 0,.yes 0,.yes 0,.yes 0,.yes 0,.yes 0,.yes 0,.no,.no])),(6,.box (.named .TCore) (.st [.no,.no,.no,.no,.no,.no,.no,.no,.no,.yes 0,.no,.no,.yes 0,.yes 0,.yes 0,.yes 0,.yes 0,.yes 0,.no,.no,.no])),(7,.val (.int .i64) (.no))],[((.exit 0),[(4,.box (.named .TCore) (.st [.no,.no,.yes 0,.yes 0,.no,.no,.no,.yes 0,.no,.yes 0,.no,.no,.yes 0,.yes 0,.yes 0,.yes 0,.yes 0,.yes 0,.yes 0,.no,.no])),(6,.box (.named .TCore) (.st [.no,.no,.no,.no,.no,.no,.no,.no,.no,.yes 0,.no,.no,.yes 0,.yes 0,.yes 0,.yes 0,.yes 0,.yes 0,.no,.no,.no]))])],Md⟩
def Cp:FnK ab:=⟨[.val (.named .TConf) (.no),.val (.named .TMach) (.no)],TCore×W .i64,fun a:TConf×TMach×Unit=>JA a.1 a.2.1,fun r:TCore×W .i64=>(.tup [.val (.named .TCore) r.1 (.no),.val (.int .i64) r.2 (.no)],[.undef,.undef])⟩
def t28:Tt:=tbl [(31,N5),(32,N8),(33,vg),(34,Cf),(35,Cg),(36,Ck),(37,Cm),(38,Co)]
def HH:Qt:=aG [(29,K9)]
def jo:=gx ⟨[0,1,4,5,6,7,8,13,20],[],[true],[(7,[(0,.any),(1,.any),(4,.any),(5,.any),(6,.any)]),(8,[(4,.any),(5,.any)]),(9,[(0,.any),(1,.any),(4,.any),(5,.any),(6,.any)]),(18,[(0,.any),(1,.any),(4,.any),(5,.any),(6,.any),(7,.own),(8,.any)]),(19,[(0,.any),(1,.any),(4,.any),(5,.any),(6,.any),(7,.any)]),(20,[(0,.any),(1,.any),(4,.any),(5,.any),(6,.any),(7,.own),(8,.any)])]⟩ Tryz.f39
def La:MarkK ab:=⟨[(0,.val (.int .i64) (.no)),(1,.val (.int .i64) (.no)),(4,.box (.named .TCache) (.st [.yes 0])),(5,.box (.named .TCache) (.st [.yes 0])),(6,.val (.int .i64) (.no)),(7,.val (.slice 40 (.named .TWay)) (.yes 0)),(8,.val (.int .i64) (.no))],[((.exit 2),[(0,.val (.int .i64) (.no)),(1,.val (.int .i64) (.no)),(4,.box (.named .TCache) (.st [.yes 0])),(5,.box (.named .TCache) (.st [.yes 0])),(6,.val (.int .i64) (.no)),(7,.val (.slice 40 (.named .TWay)) (.yes 0))])],Mb⟩
def Lb:MarkK ab:=⟨[(0,.val (.int .i64) (.no)),(1,.val (.int .i64) (.no)),(4,.box (.named .TCache) (.st [.yes 0])),(5,.box (.named .TCache) (.st [.yes 0])),(6,.val (.int .i64) (.no))],[((.exit 0),[(4,.box (.named .TCache) (.st [.yes 0])),(5,.box (.named .TCache) (.st [.yes 0]))])],Mc⟩
def Cq:FnK ab:=⟨[.val (.int .i64) (.no),.val (.int .i64) (.no)],TCache,fun a:Y9=>AL a.1 a.2.1,fun r:TCache=>(.val (.named .TCache) r (.no),[.undef,.undef])⟩
def yX:Qt:=aG [(18,La),(7,Lb)]
def Xx:=gx ⟨[0,1,2,3,8,9,17],[],[true],[]⟩ Tryz.f15
def Cr:FnK ab:=⟨[.val (.slice 1 (.int .u8)) (.no),.val (.int .i64) (.no),.val (.int .i64) (.no),.val (.int .i64) (.no)],TCoh,fun a:Nj=>Jz a.1 a.2.1 a.2.2.1 a.2.2.2.1,fun r:TCoh=>(.val (.named .TCoh) r (.no),[.undef,.undef,.undef,.undef])⟩
def t30:Tt:=tbl [(39,Cq)]
def Xy:=gx ⟨[0,1,2],[],[true],[]⟩ Tryz.f140
def Cs:FnK ab:=⟨[.val (.named .TConf) (.no)],Sl 24 (TBound),fun a:Y5=>Ax a.1,fun r:Sl 24 (TBound)=>(.val (.slice 24 (.named .TBound)) r (.no),[.undef])⟩
def Xz:=gx ⟨[0,1,2],[],[true],[]⟩ Tryz.f141
def Ct:FnK ab:=⟨[.val (.named .TBound) (.no)],Bool,fun a:TBound×Unit=>sB a.1,fun r:Bool=>(.val (.bool) r (.no),[.undef])⟩
def oZ:=gx ⟨[0,1,4,5,7,8,9,16],[],[true],[(5,[(0,.any),(1,.any),(7,.any),(8,.any)]),(6,[(4,.any)]),(7,[(0,.any),(1,.any),(7,.any),(8,.any)])]⟩ Tryz.f166
def Lf:MarkK ab:=⟨[(0,.val (.slice 24 (.named .TBound)) (.no)),(1,.fn 141 [] []),(7,.val (.int .i64) (.no)),(8,.val (.int .i64) (.no))],[(.ret,[(4,.val (.int .i64) (.no))]),((.exit 0),[(4,.undef)])],uU⟩
def Cu:FnK ab:=⟨[.val (.slice 24 (.named .TBound)) (.no),.fn 141 [] []],W .i64,fun a:xn=>AS a.1,fun r:W .i64=>(.val (.int .i64) r (.no),[.undef,.undef])⟩
def t33:Tt:=tbl [(141,Ct)]
def HI:Qt:=aG [(5,Lf)]
def XA:=gx ⟨[0,1,4],[],[true],[]⟩ Tryz.f139
def Cv:FnK ab:=⟨[.val (.slice 24 (.named .TBound)) (.no),.fn 141 [] []],Bool,fun a:xn=>tA a.1,fun r:Bool=>(.val (.bool) r (.no),[.undef,.undef])⟩
def t34:Tt:=tbl [(166,Cu)]
def XB:=gx ⟨[0,1,2,5],[],[true],[]⟩ Tryz.f92
def Cw:FnK ab:=⟨[.val (.named .TConf) (.no)],W .i64,fun a:Y5=>sA a.1,fun r:W .i64=>(.val (.int .i64) r (.no),[.undef])⟩
def t35:Tt:=tbl [(139,Cv),(140,Cs)]
def XC:=gx ⟨[0,1,2,3,56],[],[true],[]⟩ Tryz.f40
def Cy:FnK ab:=⟨[.val (.named .TCore) (.no)],Bool,fun a:Y0=>sG a.1,fun r:Bool=>(.val (.bool) r (.no),[.undef])⟩
def t36:Tt:=tbl [(92,Cw)]
def jq:=gx ⟨[0,1,2,3,5,7,9,10,11,12,22,23,24,25],[],[true,true],[(5,[(1,.any),(2,.own),(3,.own),(9,.any),(10,.any),(11,.any)]),(6,[(1,.any),(2,.any),(3,.own)]),(7,[(1,.any),(2,.own),(3,.own),(9,.any),(10,.any),(11,.any)]),(20,[(2,.any),(3,.own),(22,.any),(23,.any),(24,.any)]),(21,[(2,.any),(3,.any)]),(22,[(2,.any),(3,.own),(22,.any),(23,.any),(24,.any)])]⟩ Tryz.f41
def Lh:MarkK ab:=⟨[(1,.box (.named .TCore) (.no)),(2,.val (.slice 216 (.named .TRen)) (.yes 0)),(3,.val (.slice 216 (.named .TRen)) (.yes 0)),(9,.val (.slice 224 (.named .TIq)) (.no)),(10,.val (.int .i64) (.no)),(11,.val (.int .i64) (.no))],[((.exit 0),[(1,.box (.named .TCore) (.no)),(2,.val (.slice 216 (.named .TRen)) (.yes 0)),(3,.val (.slice 216 (.named .TRen)) (.yes 0))])],tT⟩
def Lg:MarkK ab:=⟨[(2,.val (.slice 216 (.named .TRen)) (.yes 0)),(3,.val (.slice 216 (.named .TRen)) (.yes 0)),(22,.val (.slice 256 (.named .TFlight)) (.no)),(23,.val (.int .i64) (.no)),(24,.val (.int .i64) (.no))],[((.exit 2),[(2,.val (.slice 216 (.named .TRen)) (.yes 0)),(3,.val (.slice 216 (.named .TRen)) (.yes 0))])],tS⟩
def Cz:FnK ab:=⟨[.val (.named .TCore) (.no)],Sl 216 (TRen)×Sl 216 (TRen),fun a:Y0=>sE a.1,fun r:Sl 216 (TRen)×Sl 216 (TRen)=>(.tup [.val (.slice 216 (.named .TRen)) r.1 (.no),.val (.slice 216 (.named .TRen)) r.2 (.no)],[.undef])⟩
def yY:Qt:=aG [(5,Lh),(20,Lg)]
def pa:=gx ⟨[0,2,3,4,6,7,8,9,10,25,34],[],[true],[(7,[(3,.any),(4,.any),(7,.any),(8,.any),(9,.any)]),(8,[(2,.any),(4,.any)]),(9,[(3,.any),(4,.any),(7,.any),(8,.any),(9,.any)])]⟩ Tryz.f93
def Li:MarkK ab:=⟨[(3,.val (.int .u64) (.no)),(4,.val (.int .i64) (.no)),(7,.val (.slice 248 (.named .TRob)) (.no)),(8,.val (.int .i64) (.no)),(9,.val (.int .i64) (.no))],[(.ret,[(2,.val (.bool) (.no)),(4,.val (.int .i64) (.no))]),((.exit 0),[(2,.undef),(4,.val (.int .i64) (.no))])],kF⟩
def CA:FnK ab:=⟨[.val (.slice 248 (.named .TRob)) (.no)],Bool,fun a:xE=>tr a.1,fun r:Bool=>(.val (.bool) r (.no),[.undef])⟩
def HJ:Qt:=aG [(7,Li)]
def XD:=gx ⟨[0,1,2,3],[],[true],[]⟩ Tryz.f42
def CB:FnK ab:=⟨[.val (.named .TCore) (.no)],Bool,fun a:Y0=>sD a.1,fun r:Bool=>(.val (.bool) r (.no),[.undef])⟩
def t39:Tt:=tbl [(93,CA)]
def pb:=gx ⟨[0,1,2,3,5,7,8,9,10],[],[true],[(7,[(3,.own),(7,.any),(8,.any),(9,.any)]),(8,[(3,.any)]),(9,[(3,.own),(7,.any),(8,.any),(9,.any)])]⟩ Tryz.f44
def Lj:MarkK ab:=⟨[(3,.val (.slice 216 (.named .TRen)) (.yes 0)),(7,.val (.slice 248 (.named .TRob)) (.no)),(8,.val (.int .i64) (.no)),(9,.val (.int .i64) (.no))],[((.exit 0),[(3,.val (.slice 216 (.named .TRen)) (.yes 0))])],tU⟩
def CC:FnK ab:=⟨[.val (.named .TCore) (.no)],Sl 216 (TRen),fun a:Y0=>sF a.1,fun r:Sl 216 (TRen)=>(.val (.slice 216 (.named .TRen)) r (.no),[.undef])⟩
def HK:Qt:=aG [(7,Lj)]
def jr:=gx ⟨[0,1,2,4,5,6,9,11,16,25,36],[],[true],[(11,[(1,.any),(2,.any),(5,.any)]),(12,[(4,.any)]),(13,[(1,.any),(2,.any),(5,.any)]),(20,[(1,.any),(2,.any),(5,.any),(6,.any)]),(21,[(1,.any),(2,.any),(4,.any),(5,.any)]),(22,[(1,.any),(2,.any),(5,.any),(6,.any)])]⟩ Tryz.f94
def Ll:MarkK ab:=⟨[(1,.val (.int .i64) (.no)),(2,.box (.arr 16 (.int .i64)) (.no)),(5,.val (.int .i64) (.no)),(6,.val (.int .i64) (.no))],[(.ret,[(1,.val (.int .i64) (.no)),(2,.box (.arr 16 (.int .i64)) (.no)),(4,.val (.bool) (.no)),(5,.val (.int .i64) (.no))]),((.exit 2),[(1,.val (.int .i64) (.no)),(2,.box (.arr 16 (.int .i64)) (.no)),(4,.undef),(5,.val (.int .i64) (.no))])],mQ⟩
def Lk:MarkK ab:=⟨[(1,.val (.int .i64) (.no)),(2,.box (.arr 16 (.int .i64)) (.no)),(5,.val (.int .i64) (.no))],[(.ret,[(4,.val (.bool) (.no))]),((.exit 0),[(4,.undef)])],mP⟩
def CD:FnK ab:=⟨[.val (.arr 16 (.int .i64)) (.no),.val (.int .i64) (.no)],Bool,fun a:kJ=>mh a.1 a.2.1,fun r:Bool=>(.val (.bool) r (.no),[.undef,.undef])⟩
def yZ:Qt:=aG [(20,Ll),(11,Lk)]
def XE:=gx ⟨[0,1,2,3],[],[true],[]⟩ Tryz.f142
def vl:FnK ab:=⟨[.val (.named .TFree) (.no)],Bool,fun a:gV=>md a.1,fun r:Bool=>(.val (.bool) r (.no),[.undef])⟩
def XF:=gx ⟨[0,1,2,4,5],[],[true],[]⟩ Tryz.f143
def CE:FnK ab:=⟨[.val (.named .TFree) (.no),.val (.int .i64) (.no)],W .i64,fun a:kI=>sJ a.1 a.2.1,fun r:W .i64=>(.val (.int .i64) r (.no),[.undef,.undef])⟩
def pc:=gx ⟨[0,1,2,3,4,5,8,12,13,14],[],[true],[(15,[(1,.any),(3,.any),(4,.own),(12,.any),(13,.any)]),(16,[(4,.any)]),(17,[(1,.any),(3,.any),(4,.own),(12,.any),(13,.any)])]⟩ Tryz.f98
def Lm:MarkK ab:=⟨[(1,.box (.named .TFree) (.no)),(3,.fn 143 [.val (.named .TFree) (.no)] []),(4,.val (.slice 8 (.int .i64)) (.yes 0)),(12,.val (.int .i64) (.no)),(13,.val (.int .i64) (.no))],[((.exit 0),[(4,.val (.slice 8 (.int .i64)) (.yes 0))])],mL⟩
def vm:FnK ab:=⟨[.val (.named .TFree) (.no)],Sl 8 (W .i64),fun a:gV=>mc a.1,fun r:Sl 8 (W .i64)=>(.val (.slice 8 (.int .i64)) r (.no),[.undef])⟩
def t44:Tt:=tbl [(142,vl),(143,CE)]
def HL:Qt:=aG [(15,Lm)]
def pe:=gx ⟨[0,1,2,4,5,7,17,19,20,21,22,36],[],[true],[(13,[(1,.any),(5,.any),(19,.any),(20,.any),(21,.any)]),(14,[(4,.any)]),(15,[(1,.any),(5,.any),(19,.any),(20,.any),(21,.any)])]⟩ Tryz.f95
def Ln:MarkK ab:=⟨[(1,.val (.int .i64) (.no)),(5,.box (.arr 96 (.bool)) (.no)),(19,.val (.slice 8 (.int .i64)) (.no)),(20,.val (.int .i64) (.no)),(21,.val (.int .i64) (.no))],[(.ret,[(4,.val (.bool) (.no))]),((.exit 0),[(4,.undef)])],mM⟩
def CF:FnK ab:=⟨[.val (.named .TFree) (.no),.val (.int .i64) (.no)],Bool,fun a:kI=>sI a.1 a.2.1,fun r:Bool=>(.val (.bool) r (.no),[.undef,.undef])⟩
def t45:Tt:=tbl [(98,vm),(142,vl)]
def HM:Qt:=aG [(13,Ln)]
def XG:=gx ⟨[0,1,2,3,11],[1,2,3],[],[]⟩ Tryz.f96
def vo:FnK ab:=⟨[.val (.int .i64) (.no),.box (.int .i64) (.no),.box (.bool) (.no),.box (.arr 96 (.int .i64)) (.no)],W .i64×Bool×Arr 96 (W .i64),fun a:Ni=>kj a.1 a.2.1 a.2.2.1 a.2.2.2.1,fun r:W .i64×Bool×Arr 96 (W .i64)=>(.tup [],[.undef,.box 0 (.int .i64) r.1 (.no),.box 0 (.bool) r.2.1 (.no),.box 0 (.arr 96 (.int .i64)) r.2.2 (.no)])⟩
def XH:=gx ⟨[0,1,2],[],[true],[]⟩ Tryz.f144
def CG:FnK ab:=⟨[.val (.named .TUop) (.no)],Bool,fun a:vF=>tq a.1,fun r:Bool=>(.val (.bool) r (.no),[.undef])⟩
def XI:=gx ⟨[0,2],[],[true],[]⟩ Tryz.f167
def vp:FnK ab:=⟨[.val (.int .i64) (.no)],Bool,fun a:Y7=>mi a.1,fun r:Bool=>(.val (.bool) r (.no),[.undef])⟩
def XJ:=gx ⟨[0,1,2,4,7],[],[true],[]⟩ Tryz.f145
def CH:FnK ab:=⟨[.val (.arr 16 (.int .i64)) (.no),.val (.int .i64) (.no)],W .i64,fun a:kJ=>sS a.1 a.2.1,fun r:W .i64=>(.val (.int .i64) r (.no),[.undef,.undef])⟩
def t49:Tt:=tbl [(167,vp)]
def XK:=gx ⟨[0,1,2,3,6,8],[],[true],[]⟩ Tryz.f146
def CI:FnK ab:=⟨[.val (.arr 16 (.int .i64)) (.no),.val (.int .i64) (.no),.val (.int .i64) (.no)],Arr 16 (W .i64),fun a:Oc=>sT a.1 a.2.1 a.2.2.1,fun r:Arr 16 (W .i64)=>(.val (.arr 16 (.int .i64)) r (.no),[.undef,.undef,.undef])⟩
def t50:Tt:=tbl [(167,vp)]
def pf:=gx ⟨[0,1,2,4,5,6,8,11,12,13,14,27,33,41,54],[],[true],[(7,[(2,.any),(5,.any),(6,.any),(11,.any),(12,.any),(13,.any)]),(8,[(2,.any),(4,.any),(5,.any)]),(9,[(2,.any),(5,.any),(6,.any),(11,.any),(12,.any),(13,.any)])]⟩ Tryz.f99
def Lp:MarkK ab:=⟨[(2,.box (.named .TNames) (.no)),(5,.box (.arr 16 (.int .i64)) (.no)),(6,.val (.int .u64) (.no)),(11,.val (.slice 216 (.named .TRen)) (.no)),(12,.val (.int .i64) (.no)),(13,.val (.int .i64) (.no))],[(.ret,[(2,.box (.named .TNames) (.no)),(4,.val (.bool) (.no)),(5,.box (.arr 16 (.int .i64)) (.no))]),((.exit 0),[(2,.box (.named .TNames) (.no)),(4,.undef),(5,.box (.arr 16 (.int .i64)) (.no))])],kE⟩
def CJ:FnK ab:=⟨[.val (.named .TNames) (.no),.val (.slice 216 (.named .TRen)) (.no)],Bool,fun a:Od=>tp a.1 a.2.1,fun r:Bool=>(.val (.bool) r (.no),[.undef,.undef])⟩
def t51:Tt:=tbl [(144,CG),(145,CH),(146,CI)]
def HN:Qt:=aG [(7,Lp)]
def js:=gx ⟨[0,1,2,3,4,5,6,7,12,20,30],[0,2,3,4,5],[],[(3,[(0,.any),(1,.any),(2,.any),(3,.any),(4,.any),(5,.any),(6,.any)]),(4,[(0,.any),(2,.any),(3,.any),(4,.any),(5,.any)]),(5,[(0,.any),(1,.any),(2,.any),(3,.any),(4,.any),(5,.any),(6,.any)]),(18,[(0,.any),(2,.any),(3,.any),(4,.any),(5,.any),(7,.any)]),(19,[(0,.any),(2,.any),(3,.any),(4,.any),(5,.any)]),(20,[(0,.any),(2,.any),(3,.any),(4,.any),(5,.any),(7,.any)])]⟩ Tryz.f97
def Ls:MarkK ab:=⟨[(0,.box (.slice 216 (.named .TRen)) (.no)),(1,.rfn 96 [] [.ptr 2 [],.ptr 5 [],.ptr 4 []]),(2,.box (.int .i64) (.no)),(3,.box (.bool) (.no)),(4,.box (.arr 96 (.int .i64)) (.no)),(5,.box (.bool) (.no)),(6,.val (.int .i64) (.no))],[((.exit 0),[(0,.box (.slice 216 (.named .TRen)) (.no)),(2,.box (.int .i64) (.no)),(3,.box (.bool) (.no)),(4,.box (.arr 96 (.int .i64)) (.no)),(5,.box (.bool) (.no))])],kC⟩
def Lr:MarkK ab:=⟨[(0,.box (.slice 216 (.named .TRen)) (.no)),(2,.box (.int .i64) (.no)),(3,.box (.bool) (.no)),(4,.box (.arr 96 (.int .i64)) (.no)),(5,.box (.bool) (.no)),(7,.val (.int .i64) (.no))],[((.exit 2),[(0,.box (.slice 216 (.named .TRen)) (.no)),(2,.box (.int .i64) (.no)),(3,.box (.bool) (.no)),(4,.box (.arr 96 (.int .i64)) (.no)),(5,.box (.bool) (.no))])],kB⟩
def CL:FnK ab:=⟨[.box (.slice 216 (.named .TRen)) (.no),.rfn 96 [] [.ptr 2 [],.ptr 5 [],.ptr 4 []],.box (.int .i64) (.no),.box (.bool) (.no),.box (.arr 96 (.int .i64)) (.no),.box (.bool) (.no)],Sl 216 (TRen)×W .i64×Bool×Arr 96 (W .i64)×Bool,fun a:Nw=>AN a.1 a.2.2.1 a.2.2.2.1 a.2.2.2.2.1 a.2.2.2.2.2.1,fun r:Sl 216 (TRen)×W .i64×Bool×Arr 96 (W .i64)×Bool=>(.tup [],[.box 0 (.slice 216 (.named .TRen)) r.1 (.no),.undef,.box 0 (.int .i64) r.2.1 (.no),.box 0 (.bool) r.2.2.1 (.no),.box 0 (.arr 96 (.int .i64)) r.2.2.2.1 (.no),.box 0 (.bool) r.2.2.2.2 (.no)])⟩
def t52:Tt:=tbl [(96,vo)]
def za:Qt:=aG [(3,Ls),(18,Lr)]
def jt:=gx ⟨[0,1,2,3,4,5,6,7,8,9,11,12,39,41,44,45,46,47,55],[],[true],[(19,[(3,.any),(4,.any),(5,.any),(6,.any),(7,.any),(8,.any),(9,.any),(41,.any),(44,.any),(45,.any),(46,.any)]),(20,[(3,.any),(4,.any),(5,.any),(6,.any),(7,.any),(8,.any),(9,.any),(41,.any)]),(21,[(3,.any),(4,.any),(5,.any),(6,.any),(7,.any),(8,.any),(9,.any),(41,.any),(44,.any),(45,.any),(46,.any)]),(34,[(3,.any),(4,.any),(5,.any),(6,.any),(7,.any),(8,.any),(9,.any),(12,.any),(41,.any)]),(35,[(3,.any),(4,.any),(5,.any),(6,.any),(7,.any),(8,.any),(41,.any)]),(36,[(3,.any),(4,.any),(5,.any),(6,.any),(7,.any),(8,.any),(9,.any),(12,.any),(41,.any)])]⟩ Tryz.f43
def Lu:MarkK ab:=⟨[(3,.box (.named .TNames) (.no)),(4,.box (.int .i64) (.no)),(5,.box (.slice 216 (.named .TRen)) (.no)),(6,.box (.bool) (.no)),(7,.box (.arr 96 (.int .i64)) (.no)),(8,.box (.bool) (.no)),(9,.rfn 96 [] [.ptr 4 [],.ptr 8 [],.ptr 7 []]),(41,.fn 97 [] [.ptr 5 [],.rfn 96 [] [.ptr 4 [],.ptr 8 [],.ptr 7 []],.ptr 4 [],.ptr 6 [],.ptr 7 [],.ptr 8 []]),(44,.val (.slice 8 (.int .i64)) (.no)),(45,.val (.int .i64) (.no)),(46,.val (.int .i64) (.no))],[((.exit 0),[(3,.box (.named .TNames) (.no)),(4,.box (.int .i64) (.no)),(5,.box (.slice 216 (.named .TRen)) (.no)),(6,.box (.bool) (.no)),(7,.box (.arr 96 (.int .i64)) (.no)),(8,.box (.bool) (.no)),(9,.rfn 96 [] [.ptr 4 [],.ptr 8 [],.ptr 7 []]),(41,.fn 97 [] [.ptr 5 [],.rfn 96 [] [.ptr 4 [],.ptr 8 [],.ptr 7 []],.ptr 4 [],.ptr 6 [],.ptr 7 [],.ptr 8 []])])],kA⟩
def Lv:MarkK ab:=⟨[(3,.box (.named .TNames) (.no)),(4,.box (.int .i64) (.no)),(5,.box (.slice 216 (.named .TRen)) (.no)),(6,.box (.bool) (.no)),(7,.box (.arr 96 (.int .i64)) (.no)),(8,.box (.bool) (.no)),(9,.rfn 96 [] [.ptr 4 [],.ptr 8 [],.ptr 7 []]),(12,.val (.int .i64) (.no)),(41,.fn 97 [] [.ptr 5 [],.rfn 96 [] [.ptr 4 [],.ptr 8 [],.ptr 7 []],.ptr 4 [],.ptr 6 [],.ptr 7 [],.ptr 8 []])],[((.exit 2),[(3,.box (.named .TNames) (.no)),(4,.box (.int .i64) (.no)),(5,.box (.slice 216 (.named .TRen)) (.no)),(6,.box (.bool) (.no)),(7,.box (.arr 96 (.int .i64)) (.no)),(8,.box (.bool) (.no)),(41,.fn 97 [] [.ptr 5 [],.rfn 96 [] [.ptr 4 [],.ptr 8 [],.ptr 7 []],.ptr 4 [],.ptr 6 [],.ptr 7 [],.ptr 8 []])])],kD⟩
def CM:FnK ab:=⟨[.val (.named .TNames) (.no),.val (.int .i64) (.no),.val (.slice 216 (.named .TRen)) (.no)],Bool,fun a:kK=>tn a.1 a.2.1 a.2.2.1,fun r:Bool=>(.val (.bool) r (.no),[.undef,.undef,.undef])⟩
def t53:Tt:=tbl [(94,CD),(95,CF),(96,vo),(97,CL),(98,vm),(99,CJ)]
def zb:Qt:=aG [(19,Lu),(34,Lv)]
def XL:=gx ⟨[0,1,2,3],[],[true],[]⟩ Tryz.f147
def CN:FnK ab:=⟨[.val (.named .TRob) (.no),.rptr (.named .TRen)],Bool,fun a:TRob×TRen×Unit=>ma a.1 a.2.1,fun r:Bool=>(.val (.bool) r (.no),[.undef,.undef])⟩
def pg:=gx ⟨[0,1,4,5,7,8,9,16],[],[true],[(5,[(0,.any),(1,.any),(7,.any),(8,.any)]),(6,[(4,.any)]),(7,[(0,.any),(1,.any),(7,.any),(8,.any)])]⟩ Tryz.f150
def Lw:MarkK ab:=⟨[(0,.val (.slice 248 (.named .TRob)) (.no)),(1,.fn 147 [] [.rptr (.named .TRen)]),(7,.val (.int .i64) (.no)),(8,.val (.int .i64) (.no))],[(.ret,[(4,.val (.int .i64) (.no))]),((.exit 0),[(4,.undef)])],ny⟩
def CO:FnK ab:=⟨[.val (.slice 248 (.named .TRob)) (.no),.fn 147 [] [.rptr (.named .TRen)]],W .i64,fun a:wR=>AR a.1 a.2.1.2.1,fun r:W .i64=>(.val (.int .i64) r (.no),[.undef,.undef])⟩
def t55:Tt:=tbl [(147,CN)]
def HO:Qt:=aG [(5,Lw)]
def XM:=gx ⟨[0,1,4],[],[true],[]⟩ Tryz.f111
def CP:FnK ab:=⟨[.val (.slice 248 (.named .TRob)) (.no),.fn 147 [] [.rptr (.named .TRen)]],Bool,fun a:wR=>tz a.1 a.2.1.2.1,fun r:Bool=>(.val (.bool) r (.no),[.undef,.undef])⟩
def t56:Tt:=tbl [(150,CO)]
def XN:=gx ⟨[0,1,2,3,4],[],[true],[]⟩ Tryz.f100
def CQ:FnK ab:=⟨[.val (.named .TCore) (.no),.val (.named .TRen) (.no)],Bool,fun a:wS=>sH a.1 a.2.1,fun r:Bool=>(.val (.bool) r (.no),[.undef,.undef])⟩
def t57:Tt:=tbl [(111,CP)]
def ph:=gx ⟨[0,1,2,4,5,7,9,10,11,12,30],[],[true],[(7,[(2,.any),(5,.any),(9,.any),(10,.any),(11,.any)]),(8,[(4,.any)]),(9,[(2,.any),(5,.any),(9,.any),(10,.any),(11,.any)])]⟩ Tryz.f45
def Lx:MarkK ab:=⟨[(2,.box (.named .TCore) (.no)),(5,.val (.map (.int .u64) (.int .i64)) (.yes 0)),(9,.val (.slice 216 (.named .TRen)) (.no)),(10,.val (.int .i64) (.no)),(11,.val (.int .i64) (.no))],[(.ret,[(4,.val (.bool) (.no))]),((.exit 0),[(4,.undef)])],tR⟩
def CR:FnK ab:=⟨[.val (.named .TCore) (.no),.val (.slice 216 (.named .TRen)) (.no)],Bool,fun a:NZ=>lW a.1 a.2.1,fun r:Bool=>(.val (.bool) r (.no),[.undef,.undef])⟩
def t58:Tt:=tbl [(100,CQ)]
def HP:Qt:=aG [(7,Lx)]
def XO:=gx ⟨[0,1,2,3],[],[true],[]⟩ Tryz.f103
def CS:FnK ab:=⟨[.val (.named .TRen) (.no),.rptr (.named .TRen)],Bool,fun a:TRen×TRen×Unit=>Aw a.1 a.2.1,fun r:Bool=>(.val (.bool) r (.no),[.undef,.undef])⟩
def pj:=gx ⟨[0,1,4,5,7,8,9,16],[],[true],[(5,[(0,.any),(1,.any),(7,.any),(8,.any)]),(6,[(4,.any)]),(7,[(0,.any),(1,.any),(7,.any),(8,.any)])]⟩ Tryz.f148
def LF:MarkK ab:=⟨[(0,.val (.slice 216 (.named .TRen)) (.no)),(1,.fn 103 [] [.rptr (.named .TRen)]),(7,.val (.int .i64) (.no)),(8,.val (.int .i64) (.no))],[(.ret,[(4,.val (.int .i64) (.no))]),((.exit 0),[(4,.undef)])],nv⟩
def CT:FnK ab:=⟨[.val (.slice 216 (.named .TRen)) (.no),.fn 103 [] [.rptr (.named .TRen)]],W .i64,fun a:xr=>AP a.1 a.2.1.2.1,fun r:W .i64=>(.val (.int .i64) r (.no),[.undef,.undef])⟩
def t60:Tt:=tbl [(103,CS)]
def HQ:Qt:=aG [(5,LF)]
def XP:=gx ⟨[0,1,4],[],[true],[]⟩ Tryz.f101
def CU:FnK ab:=⟨[.val (.slice 216 (.named .TRen)) (.no),.fn 103 [] [.rptr (.named .TRen)]],Bool,fun a:xr=>tw a.1 a.2.1.2.1,fun r:Bool=>(.val (.bool) r (.no),[.undef,.undef])⟩
def t61:Tt:=tbl [(148,CT)]
def XQ:=gx ⟨[0,1,2,3],[],[true],[]⟩ Tryz.f102
def CV:FnK ab:=⟨[.val (.named .TRen) (.no),.rptr (.slice 216 (.named .TRen))],Bool,fun a:Nk=>lU a.1 a.2.1,fun r:Bool=>(.val (.bool) r (.no),[.undef,.undef])⟩
def t62:Tt:=tbl [(101,CU)]
def pk:=gx ⟨[0,1,4,5,7,8,9,16],[],[true],[(5,[(0,.any),(1,.any),(7,.any),(8,.any)]),(6,[(4,.any)]),(7,[(0,.any),(1,.any),(7,.any),(8,.any)])]⟩ Tryz.f148
def LG:MarkK ab:=⟨[(0,.val (.slice 216 (.named .TRen)) (.no)),(1,.fn 102 [] [.rptr (.slice 216 (.named .TRen))]),(7,.val (.int .i64) (.no)),(8,.val (.int .i64) (.no))],[(.ret,[(4,.val (.int .i64) (.no))]),((.exit 0),[(4,.undef)])],nw⟩
def CW:FnK ab:=⟨[.val (.slice 216 (.named .TRen)) (.no),.fn 102 [] [.rptr (.slice 216 (.named .TRen))]],W .i64,fun a:wU=>AO a.1 a.2.1.2.1,fun r:W .i64=>(.val (.int .i64) r (.no),[.undef,.undef])⟩
def t63:Tt:=tbl [(102,CV)]
def HR:Qt:=aG [(5,LG)]
def XR:=gx ⟨[0,1,4],[],[true],[]⟩ Tryz.f101
def CX:FnK ab:=⟨[.val (.slice 216 (.named .TRen)) (.no),.fn 102 [] [.rptr (.slice 216 (.named .TRen))]],Bool,fun a:wU=>tv a.1 a.2.1.2.1,fun r:Bool=>(.val (.bool) r (.no),[.undef,.undef])⟩
def t64:Tt:=tbl [(148,CW)]
def XS:=gx ⟨[0,1,3,4],[],[true],[]⟩ Tryz.f46
def CY:FnK ab:=⟨[.val (.slice 216 (.named .TRen)) (.no),.val (.slice 216 (.named .TRen)) (.no)],Bool,fun a:xt=>sC a.1 a.2.1,fun r:Bool=>(.val (.bool) r (.no),[.undef,.undef])⟩
def t65:Tt:=tbl [(101,CX)]
def pn:=gx ⟨[0,1,2,4,5,7,9,10,11,12,20],[],[true],[(7,[(1,.any),(5,.own),(9,.any),(10,.any),(11,.any)]),(8,[(5,.any)]),(9,[(1,.any),(5,.own),(9,.any),(10,.any),(11,.any)])]⟩ Tryz.f105
def LH:MarkK ab:=⟨[(1,.val (.int .i64) (.no)),(5,.val (.slice 8 (.int .u64)) (.yes 0)),(9,.val (.slice 248 (.named .TRob)) (.no)),(10,.val (.int .i64) (.no)),(11,.val (.int .i64) (.no))],[((.exit 0),[(5,.val (.slice 8 (.int .u64)) (.yes 0))])],tV⟩
def CZ:FnK ab:=⟨[.val (.named .TCore) (.no),.val (.int .i64) (.no)],Sl 8 (W .u64),fun a:dk=>lY a.1 a.2.1,fun r:Sl 8 (W .u64)=>(.val (.slice 8 (.int .u64)) r (.no),[.undef,.undef])⟩
def HS:Qt:=aG [(7,LH)]
def XT:=gx ⟨[0,1,2,4],[],[true],[]⟩ Tryz.f106
def C0:FnK ab:=⟨[.val (.named .TLq) (.no),.val (.int .u64) (.no)],Bool,fun a:TLq×W .u64×Unit=>Jk a.1 a.2.1,fun r:Bool=>(.val (.bool) r (.no),[.undef,.undef])⟩
def po:=gx ⟨[0,1,2,6,7,8,9,14,15,16,17,18,30],[],[true],[(11,[(1,.any),(2,.any),(15,.any),(16,.any),(17,.any)]),(12,[(6,.any)]),(13,[(1,.any),(2,.any),(15,.any),(16,.any),(17,.any)])]⟩ Tryz.f104
def LI:MarkK ab:=⟨[(1,.val (.slice 8 (.int .u64)) (.no)),(2,.fn 106 [] []),(15,.val (.slice 48 (.named .TLq)) (.no)),(16,.val (.int .i64) (.no)),(17,.val (.int .i64) (.no))],[(.ret,[(6,.val (.bool) (.no))]),((.exit 0),[(6,.undef)])],uQ⟩
def C1:FnK ab:=⟨[.val (.slice 48 (.named .TLq)) (.no),.val (.slice 8 (.int .u64)) (.no),.fn 106 [] []],Bool,fun a:Oe=>tD a.1 a.2.1,fun r:Bool=>(.val (.bool) r (.no),[.undef,.undef,.undef])⟩
def t68:Tt:=tbl [(106,C0)]
def HT:Qt:=aG [(11,LI)]
def XU:=gx ⟨[0,1,2,4],[],[true],[]⟩ Tryz.f108
def C2:FnK ab:=⟨[.val (.named .TSq) (.no),.val (.int .u64) (.no)],Bool,fun a:TSq×W .u64×Unit=>Jl a.1 a.2.1,fun r:Bool=>(.val (.bool) r (.no),[.undef,.undef])⟩
def pq:=gx ⟨[0,1,2,6,7,8,9,14,15,16,17,18,30],[],[true],[(11,[(1,.any),(2,.any),(15,.any),(16,.any),(17,.any)]),(12,[(6,.any)]),(13,[(1,.any),(2,.any),(15,.any),(16,.any),(17,.any)])]⟩ Tryz.f107
def LJ:MarkK ab:=⟨[(1,.val (.slice 8 (.int .u64)) (.no)),(2,.fn 108 [] []),(15,.val (.slice 32 (.named .TSq)) (.no)),(16,.val (.int .i64) (.no)),(17,.val (.int .i64) (.no))],[(.ret,[(6,.val (.bool) (.no))]),((.exit 0),[(6,.undef)])],uR⟩
def C3:FnK ab:=⟨[.val (.slice 32 (.named .TSq)) (.no),.val (.slice 8 (.int .u64)) (.no),.fn 108 [] []],Bool,fun a:N0=>tE a.1 a.2.1,fun r:Bool=>(.val (.bool) r (.no),[.undef,.undef,.undef])⟩
def t70:Tt:=tbl [(108,C2)]
def HU:Qt:=aG [(11,LJ)]
def XV:=gx ⟨[0,1,2,3],[],[true],[]⟩ Tryz.f47
def C4:FnK ab:=⟨[.val (.named .TCore) (.no)],Bool,fun a:Y0=>lX a.1,fun r:Bool=>(.val (.bool) r (.no),[.undef])⟩
def t71:Tt:=tbl [(104,C1),(105,CZ),(107,C3)]
def XW:=gx ⟨[0,1,2,4],[],[true],[]⟩ Tryz.f149
def C5:FnK ab:=⟨[.val (.named .TPhys) (.no),.val (.int .i64) (.no)],Bool,fun a:gU=>sR a.1 a.2.1,fun r:Bool=>(.val (.bool) r (.no),[.undef,.undef])⟩
def XX:=gx ⟨[0,1,2,4,5,6,11],[],[true,true],[]⟩ Tryz.f109
def vq:FnK ab:=⟨[.val (.named .TPhys) (.no),.val (.int .i64) (.no)],W .u32×Bool,fun a:gU=>gA a.1 a.2.1,fun r:W .u32×Bool=>(.tup [.val (.int .u32) r.1 (.no),.val (.bool) r.2 (.no)],[.undef,.undef])⟩
def t73:Tt:=tbl [(149,C5)]
def pr:=gx ⟨[0,1,2,3,4,5,6,8],[],[true],[(7,[(2,.any),(3,.any),(4,.any),(5,.any),(6,.any)]),(8,[(4,.any),(5,.any)]),(9,[(2,.any),(3,.any),(4,.any),(5,.any),(6,.any)])]⟩ Tryz.f48
def LL:MarkK ab:=⟨[(2,.box (.named .TPhys) (.no)),(3,.box (.arr 16 (.int .i64)) (.no)),(4,.box (.arr 16 (.int .u32)) (.no)),(5,.box (.arr 16 (.int .u32)) (.no)),(6,.val (.int .i64) (.no))],[((.exit 0),[(4,.box (.arr 16 (.int .u32)) (.no)),(5,.box (.arr 16 (.int .u32)) (.no))])],mO⟩
def C6:FnK ab:=⟨[.val (.named .TPhys) (.no),.val (.arr 16 (.int .i64)) (.no)],Arr 16 (W .u32),fun a:vV=>jZ a.1 a.2.1,fun r:Arr 16 (W .u32)=>(.val (.arr 16 (.int .u32)) r (.no),[.undef,.undef])⟩
def t74:Tt:=tbl [(109,vq)]
def HV:Qt:=aG [(7,LL)]
def XY:=gx ⟨[0,2,3,10],[],[true],[]⟩ Tryz.f110
def C7:FnK ab:=⟨[.val (.int .i64) (.no)],W .u32,fun a:Y7=>mb a.1,fun r:W .u32=>(.val (.int .u32) r (.no),[.undef])⟩
def pt:=gx ⟨[0,1,2,3,4,6,7,8,15],[],[true],[(5,[(1,.any),(6,.any),(7,.any)]),(6,[(1,.any),(2,.any)]),(7,[(1,.any),(6,.any),(7,.any)])]⟩ Tryz.f49
def LM:MarkK ab:=⟨[(1,.box (.named .TArch) (.no)),(6,.val (.arr 12 (.int .u32)) (.no)),(7,.val (.int .i64) (.no))],[(.ret,[(1,.box (.named .TArch) (.no)),(2,.val (.bool) (.no))]),((.exit 0),[(1,.box (.named .TArch) (.no)),(2,.undef)])],ko⟩
def C8:FnK ab:=⟨[.val (.named .TArch) (.no)],Bool,fun a:wc=>lV a.1,fun r:Bool=>(.val (.bool) r (.no),[.undef])⟩
def t76:Tt:=tbl [(110,C7)]
def HW:Qt:=aG [(5,LM)]
def XZ:=gx ⟨[0,1,2,3,4,5],[],[true],[]⟩ Tryz.f112
def C9:FnK ab:=⟨[.val (.named .TRob) (.no),.rptr (.named .TCore)],Bool,fun a:TRob×TCore×Unit=>l9 a.1 a.2.1,fun r:Bool=>(.val (.bool) r (.no),[.undef,.undef])⟩
def t77:Tt:=tbl [(109,vq)]
def pv:=gx ⟨[0,1,4,5,7,8,9,16],[],[true],[(5,[(0,.any),(1,.any),(7,.any),(8,.any)]),(6,[(4,.any)]),(7,[(0,.any),(1,.any),(7,.any),(8,.any)])]⟩ Tryz.f150
def LN:MarkK ab:=⟨[(0,.val (.slice 248 (.named .TRob)) (.no)),(1,.fn 112 [] [.rptr (.named .TCore)]),(7,.val (.int .i64) (.no)),(8,.val (.int .i64) (.no))],[(.ret,[(4,.val (.int .i64) (.no))]),((.exit 0),[(4,.undef)])],nx⟩
def Da:FnK ab:=⟨[.val (.slice 248 (.named .TRob)) (.no),.fn 112 [] [.rptr (.named .TCore)]],W .i64,fun a:wW=>AQ a.1 a.2.1.2.1,fun r:W .i64=>(.val (.int .i64) r (.no),[.undef,.undef])⟩
def t78:Tt:=tbl [(112,C9)]
def HX:Qt:=aG [(5,LN)]
def X0:=gx ⟨[0,1,4],[],[true],[]⟩ Tryz.f111
def Db:FnK ab:=⟨[.val (.slice 248 (.named .TRob)) (.no),.fn 112 [] [.rptr (.named .TCore)]],Bool,fun a:wW=>tx a.1 a.2.1.2.1,fun r:Bool=>(.val (.bool) r (.no),[.undef,.undef])⟩
def t79:Tt:=tbl [(150,Da)]
def X1:=gx ⟨[0,1,2],[],[true],[]⟩ Tryz.f50
def Dc:FnK ab:=⟨[.val (.named .TCore) (.no)],Bool,fun a:Y0=>lZ a.1,fun r:Bool=>(.val (.bool) r (.no),[.undef])⟩
def t80:Tt:=tbl [(111,Db)]
def pw:=gx ⟨[0,1,2,3,4,5,6,7,10,55,56,57,58,63],[],[false],[(15,[(5,.own),(55,.any),(56,.any),(57,.any)]),(16,[(5,.any)]),(17,[(5,.own),(55,.any),(56,.any),(57,.any)])]⟩ Tryz.f16
def LO:MarkK ab:=⟨[(5,.val (.slice 8 (.int .i64)) (.yes 0)),(55,.val (.slice 1 (.bool)) (.yes 0)),(56,.val (.int .i64) (.no)),(57,.val (.int .i64) (.no))],[((.exit 0),[(5,.val (.slice 8 (.int .i64)) (.yes 0))])],km⟩
def Dd:FnK ab:=⟨[.val (.named .TCore) (.no)],Sl 8 (W .i64),fun a:Y0=>sy a.1,fun r:Sl 8 (W .i64)=>(.val (.slice 8 (.int .i64)) r (.yes 0),[.undef])⟩
def t81:Tt:=tbl [(40,Cy),(41,Cz),(42,CB),(43,CM),(44,CC),(45,CR),(46,CY),(47,C4),(48,C6),(49,C8),(50,Dc)]
def HY:Qt:=aG [(15,LO)]
def px:=gx ⟨[0,1,4,5,7,8,9,16],[],[true],[(5,[(0,.any),(1,.any),(7,.any),(8,.any)]),(6,[(4,.any)]),(7,[(0,.any),(1,.any),(7,.any),(8,.any)])]⟩ Tryz.f51
def LP:MarkK ab:=⟨[(0,.val (.slice 8 (.int .i64)) (.no)),(1,.val (.int .i64) (.no)),(7,.val (.int .i64) (.no)),(8,.val (.int .i64) (.no))],[(.ret,[(4,.val (.int .i64) (.no))]),((.exit 0),[(4,.undef)])],uW⟩
def De:FnK ab:=⟨[.val (.slice 8 (.int .i64)) (.no),.val (.int .i64) (.no)],W .i64,fun a:kG=>AW a.1 a.2.1,fun r:W .i64=>(.val (.int .i64) r (.no),[.undef,.undef])⟩
def HZ:Qt:=aG [(5,LP)]
def X2:=gx ⟨[0,1,4],[],[true],[]⟩ Tryz.f17
def Df:FnK ab:=⟨[.val (.slice 8 (.int .i64)) (.no),.val (.int .i64) (.no)],Bool,fun a:kG=>tC a.1 a.2.1,fun r:Bool=>(.val (.bool) r (.no),[.undef,.undef])⟩
def t83:Tt:=tbl [(51,De)]
def X3:=gx ⟨[0,2],[],[true],[]⟩ Tryz.f52
def Dg:FnK ab:=⟨[.val (.slice 1 (.int .u8)) (.no)],Bool,fun a:cU=>sM a.1,fun r:Bool=>(.val (.bool) r (.no),[.undef])⟩
def X4:=gx ⟨[0,1,2,4,8],[],[true],[]⟩ Tryz.f152
def nB:FnK ab:=⟨[.val (.named .TCache) (.no),.val (.int .u32) (.no)],W .i64,fun a:eB=>iH a.1 a.2.1,fun r:W .i64=>(.val (.int .i64) r (.no),[.undef,.undef])⟩
def X5:=gx ⟨[0,1,2,4,8],[],[true],[]⟩ Tryz.f169
def Dh:FnK ab:=⟨[.val (.named .TCache) (.no),.val (.int .u32) (.no)],Sl 40 (TWay),fun a:eB=>so a.1 a.2.1,fun r:Sl 40 (TWay)=>(.val (.slice 40 (.named .TWay)) r (.no),[.undef,.undef])⟩
def t86:Tt:=tbl [(152,nB)]
def X6:=gx ⟨[0,1,2,3],[],[true],[]⟩ Tryz.f170
def Di:FnK ab:=⟨[.val (.named .TWay) (.no),.rptr (.int .u32)],Bool,fun a:TWay×W .u32×Unit=>sn a.1 a.2.1,fun r:Bool=>(.val (.bool) r (.no),[.undef,.undef])⟩
def py:=gx ⟨[0,1,4,5,7,8,9,16],[],[true],[(5,[(0,.any),(1,.any),(7,.any),(8,.any)]),(6,[(4,.any)]),(7,[(0,.any),(1,.any),(7,.any),(8,.any)])]⟩ Tryz.f168
def LQ:MarkK ab:=⟨[(0,.val (.slice 40 (.named .TWay)) (.no)),(1,.fn 170 [] [.rptr (.int .u32)]),(7,.val (.int .i64) (.no)),(8,.val (.int .i64) (.no))],[(.ret,[(4,.val (.int .i64) (.no))]),((.exit 0),[(4,.undef)])],uT⟩
def Dj:FnK ab:=⟨[.val (.slice 40 (.named .TWay)) (.no),.fn 170 [] [.rptr (.int .u32)]],W .i64,fun a:Nl=>tF a.1 a.2.1.2.1,fun r:W .i64=>(.val (.int .i64) r (.no),[.undef,.undef])⟩
def t88:Tt:=tbl [(170,Di)]
def H0:Qt:=aG [(5,LQ)]
def X7:=gx ⟨[0,1,2,3,4,5,6,7,14],[],[true,true,true],[]⟩ Tryz.f151
def vr:FnK ab:=⟨[.val (.named .TCache) (.no),.val (.int .u32) (.no)],W .i64×W .i64×Bool,fun a:eB=>jU a.1 a.2.1,fun r:W .i64×W .i64×Bool=>(.tup [.val (.int .i64) r.1 (.no),.val (.int .i64) r.2.1 (.no),.val (.bool) r.2.2 (.no)],[.undef,.undef])⟩
def t89:Tt:=tbl [(152,nB),(168,Dj),(169,Dh)]
def pz:=gx ⟨[0,1,2,4,5,6,7,8,10,24,28,29,30,31,61,75,78,97],[],[true],[(15,[(1,.any),(2,.any),(5,.any),(6,.any),(28,.any),(29,.any),(30,.any)]),(16,[(4,.any)]),(17,[(1,.any),(2,.any),(5,.any),(6,.any),(28,.any),(29,.any),(30,.any)])]⟩ Tryz.f113
def LS:MarkK ab:=⟨[(1,.val (.int .i64) (.no)),(2,.box (.named .TCache) (.no)),(5,.val (.slice 40 (.named .TWay)) (.no)),(6,.val (.slice 1 (.bool)) (.yes 0)),(28,.val (.slice 40 (.named .TWay)) (.no)),(29,.val (.int .i64) (.no)),(30,.val (.int .i64) (.no))],[(.ret,[(4,.val (.bool) (.no))]),((.exit 0),[(4,.undef)])],tI⟩
def Dk:FnK ab:=⟨[.val (.named .TCache) (.no),.val (.int .i64) (.no)],Bool,fun a:fw=>jW a.1 a.2.1,fun r:Bool=>(.val (.bool) r (.no),[.undef,.undef])⟩
def t90:Tt:=tbl [(151,vr),(152,nB)]
def H2:Qt:=aG [(15,LS)]
def pA:=gx ⟨[0,1,2,3,13,16,17,18,37],[],[true],[(11,[(1,.any),(16,.any),(17,.any)]),(12,[(2,.any)]),(13,[(1,.any),(16,.any),(17,.any)])]⟩ Tryz.f53
def LU:MarkK ab:=⟨[(1,.box (.named .TCache) (.no)),(16,.val (.int .i64) (.no)),(17,.val (.int .i64) (.no))],[(.ret,[(2,.val (.bool) (.no))]),((.exit 0),[(2,.undef)])],tH⟩
def Dl:FnK ab:=⟨[.val (.named .TCache) (.no)],Bool,fun a:xy=>jV a.1,fun r:Bool=>(.val (.bool) r (.no),[.undef])⟩
def t91:Tt:=tbl [(113,Dk)]
def H3:Qt:=aG [(11,LU)]
def X8:=gx ⟨[0,1,4],[],[true],[]⟩ Tryz.f61
def vt:FnK ab:=⟨[.val (.slice 1 (.int .u8)) (.no),.val (.int .u32) (.no)],Bool,fun a:Nm=>lS a.1 a.2.1,fun r:Bool=>(.val (.bool) r (.no),[.undef,.undef])⟩
def pB:=gx ⟨[0,1,2,4,5,7,8,9,10,11,13,14,15,16,26],[],[true],[(7,[(1,.any),(5,.own),(13,.any),(14,.any),(15,.any)]),(8,[(5,.any)]),(9,[(1,.any),(5,.own),(13,.any),(14,.any),(15,.any)])]⟩ Tryz.f115
def LV:MarkK ab:=⟨[(1,.val (.int .u32) (.no)),(5,.val (.slice 8 (.int .i64)) (.yes 0)),(13,.val (.slice 24 (.named .TCache)) (.no)),(14,.val (.int .i64) (.no)),(15,.val (.int .i64) (.no))],[((.exit 0),[(5,.val (.slice 8 (.int .i64)) (.yes 0))])],tQ⟩
def Dm:FnK ab:=⟨[.val (.named .TCoh) (.no),.val (.int .u32) (.no)],Sl 8 (W .i64),fun a:kN=>sx a.1 a.2.1,fun r:Sl 8 (W .i64)=>(.val (.slice 8 (.int .i64)) r (.no),[.undef,.undef])⟩
def t93:Tt:=tbl [(151,vr)]
def H4:Qt:=aG [(7,LV)]
def X9:=gx ⟨[0,2],[],[true],[]⟩ Tryz.f155
def Dn:FnK ab:=⟨[.val (.int .i64) (.no)],Bool,fun a:Y7=>Az a.1,fun r:Bool=>(.val (.bool) r (.no),[.undef])⟩
def Ya:=gx ⟨[0,2],[],[true],[]⟩ Tryz.f154
def Dp:FnK ab:=⟨[.val (.int .i64) (.no)],Bool,fun a:Y7=>sO a.1,fun r:Bool=>(.val (.bool) r (.no),[.undef])⟩
def t95:Tt:=tbl [(155,Dn)]
def pC:=gx ⟨[0,1,4,5,7,8,9,16],[],[true],[(5,[(0,.any),(1,.any),(7,.any),(8,.any)]),(6,[(4,.any)]),(7,[(0,.any),(1,.any),(7,.any),(8,.any)])]⟩ Tryz.f171
def LW:MarkK ab:=⟨[(0,.val (.slice 8 (.int .i64)) (.no)),(1,.fn 154 [] []),(7,.val (.int .i64) (.no)),(8,.val (.int .i64) (.no))],[(.ret,[(4,.val (.int .i64) (.no))]),((.exit 0),[(4,.undef)])],uV⟩
def Dq:FnK ab:=⟨[.val (.slice 8 (.int .i64)) (.no),.fn 154 [] []],W .i64,fun a:wY=>AU a.1,fun r:W .i64=>(.val (.int .i64) r (.no),[.undef,.undef])⟩
def t96:Tt:=tbl [(154,Dp)]
def H5:Qt:=aG [(5,LW)]
def Yb:=gx ⟨[0,1,4],[],[true],[]⟩ Tryz.f153
def Dr:FnK ab:=⟨[.val (.slice 8 (.int .i64)) (.no),.fn 154 [] []],Bool,fun a:wY=>tB a.1,fun r:Bool=>(.val (.bool) r (.no),[.undef,.undef])⟩
def t97:Tt:=tbl [(171,Dq)]
def pD:=gx ⟨[0,2,3,4,6,7,8,9,10,14],[],[true],[(7,[(0,.any),(3,.any),(4,.any),(7,.any),(8,.any),(9,.any)]),(8,[(0,.any),(3,.any),(4,.any)]),(9,[(0,.any),(3,.any),(4,.any),(7,.any),(8,.any),(9,.any)])]⟩ Tryz.f114
def LX:MarkK ab:=⟨[(0,.val (.slice 8 (.int .i64)) (.no)),(3,.val (.int .i64) (.no)),(4,.val (.bool) (.no)),(7,.val (.slice 8 (.int .i64)) (.no)),(8,.val (.int .i64) (.no)),(9,.val (.int .i64) (.no))],[((.exit 0),[(0,.val (.slice 8 (.int .i64)) (.no)),(3,.val (.int .i64) (.no)),(4,.val (.bool) (.no))])],mN⟩
def Ds:FnK ab:=⟨[.val (.slice 8 (.int .i64)) (.no)],Bool,fun a:ch=>sN a.1,fun r:Bool=>(.val (.bool) r (.no),[.undef])⟩
def t98:Tt:=tbl [(153,Dr)]
def H6:Qt:=aG [(7,LX)]
def pE:=gx ⟨[0,1,4,5,10,12,13,14,24],[],[true],[(11,[(0,.any),(1,.any),(12,.any),(13,.any)]),(12,[(4,.any)]),(13,[(0,.any),(1,.any),(12,.any),(13,.any)])]⟩ Tryz.f116
def LY:MarkK ab:=⟨[(0,.val (.slice 1 (.int .u8)) (.no)),(1,.val (.slice 1 (.int .u8)) (.no)),(12,.val (.int .i64) (.no)),(13,.val (.int .i64) (.no))],[(.ret,[(4,.val (.bool) (.no))]),((.exit 0),[(4,.undef)])],uS⟩
def Dt:FnK ab:=⟨[.val (.slice 1 (.int .u8)) (.no),.val (.slice 1 (.int .u8)) (.no)],Bool,fun a:Nb=>mI a.1 a.2.1,fun r:Bool=>(.val (.bool) r (.no),[.undef,.undef])⟩
def H7:Qt:=aG [(11,LY)]
def WN:=gx ⟨[0,1,2,3,4,5,8,22],[],[true],[]⟩ Tryz.f56
def A1:FnK ab:=⟨[.val (.named .TCoh) (.no),.val (.named .TWay) (.no)],Bool,fun a:TCoh×TWay×Unit=>sw a.1 a.2.1,fun r:Bool=>(.val (.bool) r (.no),[.undef,.undef])⟩
def agO:Tt:=tbl [(61,vt),(114,Ds),(115,Dm),(116,Dt)]
def WO:=gx ⟨[0,1,2,3],[],[true],[]⟩ Tryz.f55
def A3:FnK ab:=⟨[.val (.named .TWay) (.no),.rptr (.named .TCoh)],Bool,fun a:TWay×TCoh×Unit=>sr a.1 a.2.1,fun r:Bool=>(.val (.bool) r (.no),[.undef,.undef])⟩
def agP:Tt:=tbl [(56,A1)]
def gh:=gx ⟨[0,1,2,4,6,8,10,12,13,14,15,19,20,21,22,25,26,27,28,34],[],[true],[(5,[(1,.any),(12,.any),(13,.any),(14,.any)]),(6,[(4,.any)]),(7,[(1,.any),(12,.any),(13,.any),(14,.any)]),(16,[(1,.any),(12,.any),(13,.any),(14,.any),(19,.any),(20,.any),(21,.any)]),(17,[(1,.any),(4,.any),(12,.any),(13,.any),(14,.any)]),(18,[(1,.any),(12,.any),(13,.any),(14,.any),(19,.any),(20,.any),(21,.any)]),(27,[(1,.any),(12,.any),(13,.any),(14,.any),(19,.any),(20,.any),(21,.any),(25,.any),(26,.any),(27,.any)]),(28,[(1,.any),(4,.any),(12,.any),(13,.any),(14,.any),(19,.any),(20,.any),(21,.any)]),(29,[(1,.any),(12,.any),(13,.any),(14,.any),(19,.any),(20,.any),(21,.any),(25,.any),(26,.any),(27,.any)])]⟩ Tryz.f54
def JG:MarkK ab:=⟨[(1,.fn 55 [] [.rptr (.named .TCoh)]),(12,.val (.slice 24 (.named .TCache)) (.no)),(13,.val (.int .i64) (.no)),(14,.val (.int .i64) (.no)),(19,.val (.slice 24 (.slice 40 (.named .TWay))) (.no)),(20,.val (.int .i64) (.no)),(21,.val (.int .i64) (.no)),(25,.val (.slice 40 (.named .TWay)) (.no)),(26,.val (.int .i64) (.no)),(27,.val (.int .i64) (.no))],[(.ret,[(1,.fn 55 [] [.rptr (.named .TCoh)]),(4,.val (.bool) (.no)),(12,.val (.slice 24 (.named .TCache)) (.no)),(13,.val (.int .i64) (.no)),(14,.val (.int .i64) (.no)),(19,.val (.slice 24 (.slice 40 (.named .TWay))) (.no)),(20,.val (.int .i64) (.no)),(21,.val (.int .i64) (.no))]),((.exit 4),[(1,.fn 55 [] [.rptr (.named .TCoh)]),(4,.undef),(12,.val (.slice 24 (.named .TCache)) (.no)),(13,.val (.int .i64) (.no)),(14,.val (.int .i64) (.no)),(19,.val (.slice 24 (.slice 40 (.named .TWay))) (.no)),(20,.val (.int .i64) (.no)),(21,.val (.int .i64) (.no))])],tL⟩
def JF:MarkK ab:=⟨[(1,.fn 55 [] [.rptr (.named .TCoh)]),(12,.val (.slice 24 (.named .TCache)) (.no)),(13,.val (.int .i64) (.no)),(14,.val (.int .i64) (.no)),(19,.val (.slice 24 (.slice 40 (.named .TWay))) (.no)),(20,.val (.int .i64) (.no)),(21,.val (.int .i64) (.no))],[(.ret,[(1,.fn 55 [] [.rptr (.named .TCoh)]),(4,.val (.bool) (.no)),(12,.val (.slice 24 (.named .TCache)) (.no)),(13,.val (.int .i64) (.no)),(14,.val (.int .i64) (.no))]),((.exit 2),[(1,.fn 55 [] [.rptr (.named .TCoh)]),(4,.undef),(12,.val (.slice 24 (.named .TCache)) (.no)),(13,.val (.int .i64) (.no)),(14,.val (.int .i64) (.no))])],tK⟩
def JH:MarkK ab:=⟨[(1,.fn 55 [] [.rptr (.named .TCoh)]),(12,.val (.slice 24 (.named .TCache)) (.no)),(13,.val (.int .i64) (.no)),(14,.val (.int .i64) (.no))],[(.ret,[(4,.val (.bool) (.no))]),((.exit 0),[(4,.undef)])],tM⟩
def A4:FnK ab:=⟨[.val (.named .TCoh) (.no),.fn 55 [] [.rptr (.named .TCoh)]],Bool,fun a:Nc=>sv a.1 a.2.1.2.1,fun r:Bool=>(.val (.bool) r (.no),[.undef,.undef])⟩
def qj:Tt:=tbl [(55,A3)]
def pU:Qt:=aG [(27,JG),(16,JF),(5,JH)]
def nX:=gx ⟨[0,1,2,4,20,22,23,24,25,30],[],[true],[(11,[(1,.any),(22,.any),(23,.any),(24,.any)]),(12,[(1,.any),(2,.any)]),(13,[(1,.any),(22,.any),(23,.any),(24,.any)])]⟩ Tryz.f18
def JI:MarkK ab:=⟨[(1,.box (.named .TCoh) (.no)),(22,.val (.slice 24 (.named .TCache)) (.no)),(23,.val (.int .i64) (.no)),(24,.val (.int .i64) (.no))],[(.ret,[(1,.box (.named .TCoh) (.no)),(2,.val (.bool) (.no))]),((.exit 0),[(1,.box (.named .TCoh) (.no)),(2,.undef)])],tJ⟩
def A5:FnK ab:=⟨[.val (.named .TCoh) (.no)],Bool,fun a:dM=>sq a.1,fun r:Bool=>(.val (.bool) r (.no),[.undef])⟩
def It:Tt:=tbl [(52,Dg),(53,Dl),(54,A4)]
def G8:Qt:=aG [(11,JI)]
def WQ:=gx ⟨[0,2],[],[true],[]⟩ Tryz.f157
def A6:FnK ab:=⟨[.val (.int .i64) (.no)],W .i64,fun a:Y7=>Jn a.1,fun r:W .i64=>(.val (.int .i64) r (.no),[.undef])⟩
def WR:=gx ⟨[0,1,4,5,6,7,8,9,10,11,12,13],[],[true,true],[]⟩ Tryz.f176
def A7:FnK ab:=⟨[.val (.int .u64) (.no),.val (.int .u64) (.no)],W .u64×W .u64,fun a:wZ=>Jj a.1 a.2.1,fun r:W .u64×W .u64=>(.tup [.val (.int .u64) r.1 (.no),.val (.int .u64) r.2 (.no)],[.undef,.undef])⟩
def WS:=gx ⟨[0,1,4,5,6,7,8,9],[],[true,true],[]⟩ Tryz.f172
def A8:FnK ab:=⟨[.val (.int .u64) (.no),.val (.int .u64) (.no)],W .u64×W .u64,fun a:wZ=>Ji a.1 a.2.1,fun r:W .u64×W .u64=>(.tup [.val (.int .u64) r.1 (.no),.val (.int .u64) r.2 (.no)],[.undef,.undef])⟩
def agQ:Tt:=tbl [(176,A7)]
def nY:=gx ⟨[0,1,4,5,6,7,8,10,26,37],[],[true],[(17,[(7,.any),(8,.any)]),(18,[(7,.any)]),(19,[(7,.any),(8,.any)])]⟩ Tryz.f156
def JJ:MarkK ab:=⟨[(7,.val (.slice 1 (.int .u8)) (.yes 0)),(8,.val (.int .i64) (.no))],[((.exit 0),[(7,.val (.slice 1 (.int .u8)) (.yes 0))])],Mf⟩
def A9:FnK ab:=⟨[.val (.slice 1 (.int .u8)) (.no),.val (.int .i64) (.no)],Sl 1 (W .u8),fun a:kH=>JE a.1 a.2.1,fun r:Sl 1 (W .u8)=>(.val (.slice 1 (.int .u8)) r (.no),[.undef,.undef])⟩
def Iu:Tt:=tbl [(172,A8)]
def G9:Qt:=aG [(17,JJ)]
def WT:=gx ⟨[0,2],[],[true],[]⟩ Tryz.f117
def Ba:FnK ab:=⟨[.val (.int .i64) (.no)],Sl 1 (W .u8),fun a:Y7=>AA a.1,fun r:Sl 1 (W .u8)=>(.val (.slice 1 (.int .u8)) r (.no),[.undef])⟩
def agR:Tt:=tbl [(156,A9),(157,A6)]
def WU:=gx ⟨[0,2],[],[true],[]⟩ Tryz.f118
def Bb:FnK ab:=⟨[.val (.int .i64) (.no)],Sl 16 (TBtb),fun a:Y7=>Au a.1,fun r:Sl 16 (TBtb)=>(.val (.slice 16 (.named .TBtb)) r (.no),[.undef])⟩
def WV:=gx ⟨[0,2],[],[true],[]⟩ Tryz.f119
def Bc:FnK ab:=⟨[.val (.int .i64) (.no)],Sl 4 (W .u32),fun a:Y7=>AB a.1,fun r:Sl 4 (W .u32)=>(.val (.slice 4 (.int .u32)) r (.no),[.undef])⟩
def WW:=gx ⟨[0,1,2],[],[true],[]⟩ Tryz.f62
def Bd:FnK ab:=⟨[.val (.named .TConf) (.no)],TPred,fun a:Y5=>sQ a.1,fun r:TPred=>(.val (.named .TPred) r (.no),[.undef])⟩
def agS:Tt:=tbl [(117,Ba),(118,Bb),(119,Bc)]
def n7:=gx ⟨[0,2,3,4,7,15],[],[true],[(11,[(0,.any),(3,.any),(4,.any)]),(12,[(3,.any)]),(13,[(0,.any),(3,.any),(4,.any)])]⟩ Tryz.f120
def JK:MarkK ab:=⟨[(0,.val (.slice 1 (.int .u8)) (.no)),(3,.val (.int .u8) (.no)),(4,.val (.int .i64) (.no))],[((.exit 0),[(3,.val (.int .u8) (.no))])],nz⟩
def Be:FnK ab:=⟨[.val (.slice 1 (.int .u8)) (.no)],W .u8,fun a:cU=>tG a.1,fun r:W .u8=>(.val (.int .u8) r (.no),[.undef])⟩
def Hb:Qt:=aG [(11,JK)]
def WX:=gx ⟨[0,2,3],[],[true],[]⟩ Tryz.f63
def Bf:FnK ab:=⟨[.val (.slice 1 (.int .u8)) (.no)],Bool,fun a:cU=>sP a.1,fun r:Bool=>(.val (.bool) r (.no),[.undef])⟩
def agT:Tt:=tbl [(120,Be)]
def WY:=gx ⟨[0,2],[],[true],[]⟩ Tryz.f121
def Bg:FnK ab:=⟨[.val (.int .i64) (.no)],W .i64,fun a:Y7=>Jm a.1,fun r:W .i64=>(.val (.int .i64) r (.no),[.undef])⟩
def WZ:=gx ⟨[0,2],[],[true],[]⟩ Tryz.f64
def Bh:FnK ab:=⟨[.val (.int .i64) (.no)],W .u32,fun a:Y7=>me a.1,fun r:W .u32=>(.val (.int .u32) r (.no),[.undef])⟩
def agU:Tt:=tbl [(121,Bg)]
def W0:=gx ⟨[0,1,4],[],[true],[]⟩ Tryz.f65
def Bi:FnK ab:=⟨[.val (.int .i64) (.no),.val (.int .i64) (.no)],Bool,fun a:Y9=>mg a.1 a.2.1,fun r:Bool=>(.val (.bool) r (.no),[.undef,.undef])⟩
def W1:=gx ⟨[0,1,2,3,4,5],[],[true],[]⟩ Tryz.f21
def Bj:FnK ab:=⟨[.val (.named .TConf) (.no),.val (.named .TPred) (.no)],Bool,fun a:w8=>jY a.1 a.2.1,fun r:Bool=>(.val (.bool) r (.no),[.undef,.undef])⟩
def agV:Tt:=tbl [(62,Bd),(63,Bf),(64,Bh),(65,Bi)]
def n8:=gx ⟨[0,2,3,5,6,7,8,9,34],[],[true],[(7,[(3,.any),(6,.any),(7,.any),(8,.any)]),(8,[(2,.any)]),(9,[(3,.any),(6,.any),(7,.any),(8,.any)])]⟩ Tryz.f22
def JL:MarkK ab:=⟨[(3,.val (.int .u64) (.no)),(6,.val (.slice 48 (.named .TLq)) (.no)),(7,.val (.int .i64) (.no)),(8,.val (.int .i64) (.no))],[(.ret,[(2,.val (.bool) (.no))]),((.exit 0),[(2,.undef)])],tY⟩
def Bl:FnK ab:=⟨[.val (.slice 48 (.named .TLq)) (.no)],Bool,fun a:wm=>jX a.1,fun r:Bool=>(.val (.bool) r (.no),[.undef])⟩
def Hc:Qt:=aG [(7,JL)]
def n9:=gx ⟨[0,2,3,5,6,7,8,9,34],[],[true],[(7,[(3,.any),(6,.any),(7,.any),(8,.any)]),(8,[(2,.any)]),(9,[(3,.any),(6,.any),(7,.any),(8,.any)])]⟩ Tryz.f23
def JM:MarkK ab:=⟨[(3,.val (.int .u64) (.no)),(6,.val (.slice 32 (.named .TSq)) (.no)),(7,.val (.int .i64) (.no)),(8,.val (.int .i64) (.no))],[(.ret,[(2,.val (.bool) (.no))]),((.exit 0),[(2,.undef)])],uX⟩
def Bm:FnK ab:=⟨[.val (.slice 32 (.named .TSq)) (.no)],Bool,fun a:xB=>kl a.1,fun r:Bool=>(.val (.bool) r (.no),[.undef])⟩
def Hd:Qt:=aG [(7,JM)]
def Mg:FnK ab:=OO 1 (.int .u8)
def W2:=gx ⟨[0,1,2,3,12],[1],[true],[]⟩ Tryz.f60
def Bo:FnK ab:=⟨[.val (.named .TWay) (.no),.box (.slice 1 (.int .u8)) (.yes 0)],Bool×Sl 1 (W .u8),fun a:Oa=>su a.1 a.2.1,fun r:Bool×Sl 1 (W .u8)=>(.val (.bool) r.1 (.no),[.undef,.box 0 (.slice 1 (.int .u8)) r.2 (.yes 0)])⟩
def agW:Tt:=tbl [(61,vt)]
def gi:=gx ⟨[0,1,2,4,6,8,10,12,13,14,15,19,20,21,22,25,26,27,28,34],[1],[true],[(5,[(1,.any),(12,.any),(13,.any),(14,.any)]),(6,[(1,.any),(4,.any)]),(7,[(1,.any),(12,.any),(13,.any),(14,.any)]),(16,[(1,.any),(12,.any),(13,.any),(14,.any),(19,.any),(20,.any),(21,.any)]),(17,[(1,.any),(4,.any),(12,.any),(13,.any),(14,.any)]),(18,[(1,.any),(12,.any),(13,.any),(14,.any),(19,.any),(20,.any),(21,.any)]),(27,[(1,.any),(12,.any),(13,.any),(14,.any),(19,.any),(20,.any),(21,.any),(25,.any),(26,.any),(27,.any)]),(28,[(1,.any),(4,.any),(12,.any),(13,.any),(14,.any),(19,.any),(20,.any),(21,.any)]),(29,[(1,.any),(12,.any),(13,.any),(14,.any),(19,.any),(20,.any),(21,.any),(25,.any),(26,.any),(27,.any)])]⟩ Tryz.f54
def JP:MarkK ab:=⟨[(1,.fnb 60 (.slice 1 (.int .u8)) (.yes 0)),(12,.val (.slice 24 (.named .TCache)) (.no)),(13,.val (.int .i64) (.no)),(14,.val (.int .i64) (.no)),(19,.val (.slice 24 (.slice 40 (.named .TWay))) (.no)),(20,.val (.int .i64) (.no)),(21,.val (.int .i64) (.no)),(25,.val (.slice 40 (.named .TWay)) (.no)),(26,.val (.int .i64) (.no)),(27,.val (.int .i64) (.no))],[(.ret,[(1,.fnb 60 (.slice 1 (.int .u8)) (.yes 0)),(4,.val (.bool) (.no)),(12,.val (.slice 24 (.named .TCache)) (.no)),(13,.val (.int .i64) (.no)),(14,.val (.int .i64) (.no)),(19,.val (.slice 24 (.slice 40 (.named .TWay))) (.no)),(20,.val (.int .i64) (.no)),(21,.val (.int .i64) (.no))]),((.exit 4),[(1,.fnb 60 (.slice 1 (.int .u8)) (.yes 0)),(4,.undef),(12,.val (.slice 24 (.named .TCache)) (.no)),(13,.val (.int .i64) (.no)),(14,.val (.int .i64) (.no)),(19,.val (.slice 24 (.slice 40 (.named .TWay))) (.no)),(20,.val (.int .i64) (.no)),(21,.val (.int .i64) (.no))])],tO⟩
def JO:MarkK ab:=⟨[(1,.fnb 60 (.slice 1 (.int .u8)) (.yes 0)),(12,.val (.slice 24 (.named .TCache)) (.no)),(13,.val (.int .i64) (.no)),(14,.val (.int .i64) (.no)),(19,.val (.slice 24 (.slice 40 (.named .TWay))) (.no)),(20,.val (.int .i64) (.no)),(21,.val (.int .i64) (.no))],[(.ret,[(1,.fnb 60 (.slice 1 (.int .u8)) (.yes 0)),(4,.val (.bool) (.no)),(12,.val (.slice 24 (.named .TCache)) (.no)),(13,.val (.int .i64) (.no)),(14,.val (.int .i64) (.no))]),((.exit 2),[(1,.fnb 60 (.slice 1 (.int .u8)) (.yes 0)),(4,.undef),(12,.val (.slice 24 (.named .TCache)) (.no)),(13,.val (.int .i64) (.no)),(14,.val (.int .i64) (.no))])],tN⟩
def JQ:MarkK ab:=⟨[(1,.fnb 60 (.slice 1 (.int .u8)) (.yes 0)),(12,.val (.slice 24 (.named .TCache)) (.no)),(13,.val (.int .i64) (.no)),(14,.val (.int .i64) (.no))],[(.ret,[(1,.fnb 60 (.slice 1 (.int .u8)) (.yes 0)),(4,.val (.bool) (.no))]),((.exit 0),[(1,.fnb 60 (.slice 1 (.int .u8)) (.yes 0)),(4,.undef)])],tP⟩
def Bp:FnK ab:=⟨[.val (.named .TCoh) (.no),.fnb 60 (.slice 1 (.int .u8)) (.yes 0)],Bool×Sl 1 (W .u8),fun a:Ob=>Av a.1 a.2.1,fun r:Bool×Sl 1 (W .u8)=>(.val (.bool) r.1 (.no),[.undef,.fnb 60 0 (.slice 1 (.int .u8)) r.2 (.yes 0)])⟩
def qk:Tt:=tbl [(60,Bo)]
def pV:Qt:=aG [(27,JP),(16,JO),(5,JQ)]
def W3:=gx ⟨[0,1,2,3],[],[true],[]⟩ Tryz.f20
def Bq:FnK ab:=⟨[.val (.named .TCoh) (.no)],Sl 1 (W .u8),fun a:dM=>ss a.1,fun r:Sl 1 (W .u8)=>(.val (.slice 1 (.int .u8)) r (.no),[.undef])⟩
def agX:Tt:=tbl [(54,Bp),(59,Mg)]
def W4:=gx ⟨[0,1,4],[],[true],[]⟩ Tryz.f57
def Br:FnK ab:=⟨[.val (.int .u32) (.no),.val (.int .i64) (.no)],Bool,fun a:W .u32×W .i64×Unit=>lR a.1 a.2.1,fun r:Bool=>(.val (.bool) r (.no),[.undef,.undef])⟩
def W5:=gx ⟨[0,1,2,6,27],[],[true],[]⟩ Tryz.f58
def Bt:FnK ab:=⟨[.val (.slice 1 (.int .u8)) (.no),.val (.int .u32) (.no),.val (.int .i64) (.no)],W .i64,fun a:vP=>sL a.1 a.2.1 a.2.2.1,fun r:W .i64=>(.val (.int .i64) r (.no),[.undef,.undef,.undef])⟩
def og:=gx ⟨[0,1,4,6,9,10,11,12,13,30],[],[true],[(11,[(1,.any),(10,.any),(11,.any),(12,.any)]),(12,[(4,.any)]),(13,[(1,.any),(10,.any),(11,.any),(12,.any)])]⟩ Tryz.f19
def JR:MarkK ab:=⟨[(1,.val (.slice 1 (.int .u8)) (.no)),(10,.val (.slice 16 (.named .TSb)) (.no)),(11,.val (.int .i64) (.no)),(12,.val (.int .i64) (.no))],[(.ret,[(4,.val (.bool) (.no))]),((.exit 0),[(4,.undef)])],uP⟩
def Bu:FnK ab:=⟨[.val (.slice 16 (.named .TSb)) (.no),.val (.slice 1 (.int .u8)) (.no)],Bool,fun a:xJ=>tu a.1 a.2.1,fun r:Bool=>(.val (.bool) r (.no),[.undef,.undef])⟩
def Iv:Tt:=tbl [(57,Br),(58,Bt)]
def Hf:Qt:=aG [(11,JR)]
def oh:=gx ⟨[0,1,2,3,4,5,6,7,8,9,13,50,51,52,53,58],[],[false],[(15,[(5,.any),(50,.any),(51,.any),(52,.any)]),(16,[(5,.any)]),(17,[(5,.any),(50,.any),(51,.any),(52,.any)])]⟩ Tryz.f8
def JS:MarkK ab:=⟨[(5,.val (.slice 8 (.int .i64)) (.yes 0)),(50,.val (.slice 1 (.bool)) (.yes 0)),(51,.val (.int .i64) (.no)),(52,.val (.int .i64) (.no))],[((.exit 0),[(5,.val (.slice 8 (.int .i64)) (.yes 0))])],fp⟩
def nA:FnK ab:=⟨[.val (.named .TCore) (.no),.val (.named .TCoh) (.no)],Sl 8 (W .i64),fun a:gN=>iG a.1 a.2.1,fun r:Sl 8 (W .i64)=>(.val (.slice 8 (.int .i64)) r (.yes 0),[.undef,.undef])⟩
def Iw:Tt:=tbl [(16,Dd),(17,Df),(18,A5),(19,Bu),(20,Bq),(21,Bj),(22,Bl),(23,Bm)]
def Hg:Qt:=aG [(15,JS)]
def jf:=gx ⟨[0,1,2,3,4,5,7,18,21,22,23,24,31,32,33,34],[],[true],[(13,[(1,.any),(3,.own),(21,.any),(22,.any),(23,.any)]),(14,[(3,.own)]),(15,[(1,.any),(3,.own),(21,.any),(22,.any),(23,.any)]),(24,[(1,.any),(3,.own),(4,.any),(21,.any),(22,.any),(23,.any),(31,.any),(32,.any),(33,.any)]),(25,[(1,.any),(3,.any),(21,.any),(22,.any),(23,.any)]),(26,[(1,.any),(3,.own),(4,.any),(21,.any),(22,.any),(23,.any),(31,.any),(32,.any),(33,.any)])]⟩ Tryz.f10
def JU:MarkK ab:=⟨[(1,.box (.named .TDuo) (.no)),(3,.val (.slice 8 (.int .i64)) (.yes 0)),(4,.val (.int .i64) (.no)),(21,.val (.slice 1040 (.named .TCore)) (.no)),(22,.val (.int .i64) (.no)),(23,.val (.int .i64) (.no)),(31,.val (.slice 8 (.int .i64)) (.yes 0)),(32,.val (.int .i64) (.no)),(33,.val (.int .i64) (.no))],[((.exit 2),[(1,.box (.named .TDuo) (.no)),(3,.val (.slice 8 (.int .i64)) (.yes 0)),(21,.val (.slice 1040 (.named .TCore)) (.no)),(22,.val (.int .i64) (.no)),(23,.val (.int .i64) (.no))])],L0⟩
def JT:MarkK ab:=⟨[(1,.box (.named .TDuo) (.no)),(3,.val (.slice 8 (.int .i64)) (.yes 0)),(21,.val (.slice 1040 (.named .TCore)) (.no)),(22,.val (.int .i64) (.no)),(23,.val (.int .i64) (.no))],[((.exit 0),[(3,.val (.slice 8 (.int .i64)) (.yes 0))])],LZ⟩
def u5:FnK ab:=⟨[.val (.named .TDuo) (.no)],Sl 8 (W .i64),fun a:kL=>As a.1,fun r:Sl 8 (W .i64)=>(.val (.slice 8 (.int .i64)) r (.no),[.undef])⟩
def zr:Tt:=tbl [(8,nA)]
def yP:Qt:=aG [(24,JU),(13,JT)]
def W6:=gx ⟨[0,1,2,4,5,6,7],[],[true],[]⟩ Tryz.f6
def u6:FnK ab:=⟨[],Bool,fun a:Unit=>iI,fun r:Bool=>(.val (.bool) r (.no),[])⟩
def agY:Tt:=tbl [(8,nA),(10,u5),(13,Cp),(14,N3),(15,Cr)]
def W8:=gx ⟨[0,1,2,3],[],[true],[]⟩ Tryz.f66
def Bw:FnK ab:=⟨[.val (.named .TCore) (.no)],Bool,fun a:Y0=>tl a.1,fun r:Bool=>(.val (.bool) r (.no),[.undef])⟩
def agZ:Tt:=tbl [(31,N5)]
def oq:=gx ⟨[0,2,3,4,8,37,50,68],[],[true],[(5,[(0,.any),(3,.any)]),(6,[(0,.any),(2,.any)]),(7,[(0,.any),(3,.any)])]⟩ Tryz.f67
def JW:MarkK ab:=⟨[(0,.val (.slice 248 (.named .TRob)) (.no)),(3,.val (.int .i64) (.no))],[(.ret,[(0,.val (.slice 248 (.named .TRob)) (.no)),(2,.val (.bool) (.no))]),((.exit 0),[(0,.val (.slice 248 (.named .TRob)) (.no)),(2,.undef)])],ud⟩
def Bx:FnK ab:=⟨[.val (.slice 248 (.named .TRob)) (.no)],Bool,fun a:xE=>ta a.1,fun r:Bool=>(.val (.bool) r (.no),[.undef])⟩
def Hh:Qt:=aG [(5,JW)]
def jg:=gx ⟨[0,1,2,4,5,6,9,11,24,27,36],[],[true],[(11,[(1,.any),(2,.any),(5,.any)]),(12,[(4,.any)]),(13,[(1,.any),(2,.any),(5,.any)]),(26,[(1,.any),(2,.any),(5,.any),(6,.any)]),(27,[(1,.any),(2,.any),(4,.any),(5,.any)]),(28,[(1,.any),(2,.any),(5,.any),(6,.any)])]⟩ Tryz.f122
def JY:MarkK ab:=⟨[(1,.val (.int .i64) (.no)),(2,.box (.arr 16 (.int .i64)) (.no)),(5,.val (.int .i64) (.no)),(6,.val (.int .i64) (.no))],[(.ret,[(1,.val (.int .i64) (.no)),(2,.box (.arr 16 (.int .i64)) (.no)),(4,.val (.bool) (.no)),(5,.val (.int .i64) (.no))]),((.exit 2),[(1,.val (.int .i64) (.no)),(2,.box (.arr 16 (.int .i64)) (.no)),(4,.undef),(5,.val (.int .i64) (.no))])],mV⟩
def JX:MarkK ab:=⟨[(1,.val (.int .i64) (.no)),(2,.box (.arr 16 (.int .i64)) (.no)),(5,.val (.int .i64) (.no))],[(.ret,[(4,.val (.bool) (.no))]),((.exit 0),[(4,.undef)])],mU⟩
def Bz:FnK ab:=⟨[.val (.arr 16 (.int .i64)) (.no),.val (.int .i64) (.no)],Bool,fun a:kJ=>mw a.1 a.2.1,fun r:Bool=>(.val (.bool) r (.no),[.undef,.undef])⟩
def yQ:Qt:=aG [(26,JY),(11,JX)]
def W9:=gx ⟨[0,1,2,3,19],[],[true],[]⟩ Tryz.f158
def u7:FnK ab:=⟨[.val (.named .TFree) (.no)],Bool,fun a:gV=>mr a.1,fun r:Bool=>(.val (.bool) r (.no),[.undef])⟩
def ot:=gx ⟨[0,1,2,3,4,8,13],[],[false],[(13,[(1,.any),(3,.any),(4,.any)]),(14,[(3,.any)]),(15,[(1,.any),(3,.any),(4,.any)])]⟩ Tryz.f159
def JZ:MarkK ab:=⟨[(1,.box (.named .TFree) (.no)),(3,.val (.slice 8 (.int .i64)) (.yes 0)),(4,.val (.int .i64) (.no))],[((.exit 0),[(3,.val (.slice 8 (.int .i64)) (.yes 0))])],mR⟩
def u9:FnK ab:=⟨[.val (.named .TFree) (.no)],Sl 8 (W .i64),fun a:gV=>mu a.1,fun r:Sl 8 (W .i64)=>(.val (.slice 8 (.int .i64)) r (.yes 0),[.undef])⟩
def Ix:Tt:=tbl [(158,u7)]
def Hj:Qt:=aG [(13,JZ)]
def jh:=gx ⟨[0,1,2,4,5,6,7,17,23,38,41,52],[],[true],[(13,[(1,.any),(5,.any),(6,.any)]),(14,[(4,.any)]),(15,[(1,.any),(5,.any),(6,.any)]),(28,[(1,.any),(5,.any),(6,.any),(7,.any)]),(29,[(1,.any),(4,.any),(5,.any),(6,.any)]),(30,[(1,.any),(5,.any),(6,.any),(7,.any)])]⟩ Tryz.f123
def J1:MarkK ab:=⟨[(1,.val (.int .i64) (.no)),(5,.val (.slice 8 (.int .i64)) (.yes 0)),(6,.val (.int .i64) (.no)),(7,.val (.int .i64) (.no))],[(.ret,[(1,.val (.int .i64) (.no)),(4,.val (.bool) (.no)),(5,.val (.slice 8 (.int .i64)) (.yes 0)),(6,.val (.int .i64) (.no))]),((.exit 2),[(1,.val (.int .i64) (.no)),(4,.undef),(5,.val (.slice 8 (.int .i64)) (.yes 0)),(6,.val (.int .i64) (.no))])],mT⟩
def J0:MarkK ab:=⟨[(1,.val (.int .i64) (.no)),(5,.val (.slice 8 (.int .i64)) (.yes 0)),(6,.val (.int .i64) (.no))],[(.ret,[(4,.val (.bool) (.no))]),((.exit 0),[(4,.undef)])],mS⟩
def BA:FnK ab:=⟨[.val (.named .TFree) (.no),.val (.int .i64) (.no)],Bool,fun a:kI=>sV a.1 a.2.1,fun r:Bool=>(.val (.bool) r (.no),[.undef,.undef])⟩
def zt:Tt:=tbl [(158,u7),(159,u9)]
def yR:Qt:=aG [(28,J1),(13,J0)]
def Xa:=gx ⟨[0,1,2],[],[true],[]⟩ Tryz.f124
def BB:FnK ab:=⟨[.val (.named .TUop) (.no)],Bool,fun a:vF=>sX a.1,fun r:Bool=>(.val (.bool) r (.no),[.undef])⟩
def ou:=gx ⟨[0,1,4,5,6,10,18],[],[true],[(7,[(0,.any),(1,.any),(5,.any),(6,.any)]),(8,[(5,.any)]),(9,[(0,.any),(1,.any),(5,.any),(6,.any)])]⟩ Tryz.f160
def J2:MarkK ab:=⟨[(0,.val (.slice 8 (.int .i64)) (.no)),(1,.val (.int .i64) (.no)),(5,.val (.int .i64) (.no)),(6,.val (.int .i64) (.no))],[((.exit 0),[(5,.val (.int .i64) (.no))])],m6⟩
def BC:FnK ab:=⟨[.val (.slice 8 (.int .i64)) (.no),.val (.int .i64) (.no)],W .i64,fun a:kG=>sZ a.1 a.2.1,fun r:W .i64=>(.val (.int .i64) r (.no),[.undef,.undef])⟩
def Hk:Qt:=aG [(7,J2)]
def gj:=gx ⟨[0,1,2,3,6,7,8,9,10,15,28,36,47,53],[],[true],[(7,[(1,.any),(2,.any),(3,.any),(7,.any),(8,.any)]),(8,[(1,.any),(2,.any),(7,.any)]),(9,[(1,.any),(2,.any),(3,.any),(7,.any),(8,.any)]),(20,[(1,.any),(2,.any),(7,.any),(9,.any)]),(21,[(1,.any),(7,.any)]),(22,[(1,.any),(2,.any),(7,.any),(9,.any)]),(35,[(1,.any),(7,.any),(10,.any)]),(36,[(1,.any),(6,.any),(7,.any)]),(37,[(1,.any),(7,.any),(10,.any)])]⟩ Tryz.f125
def J5:MarkK ab:=⟨[(1,.val (.int .i64) (.no)),(2,.val (.slice 216 (.named .TRen)) (.no)),(3,.box (.named .TNames) (.no)),(7,.val (.slice 8 (.int .i64)) (.yes 0)),(8,.val (.int .i64) (.no))],[((.exit 0),[(1,.val (.int .i64) (.no)),(2,.val (.slice 216 (.named .TRen)) (.no)),(7,.val (.slice 8 (.int .i64)) (.yes 0))])],mZ⟩
def J3:MarkK ab:=⟨[(1,.val (.int .i64) (.no)),(2,.val (.slice 216 (.named .TRen)) (.no)),(7,.val (.slice 8 (.int .i64)) (.yes 0)),(9,.val (.int .i64) (.no))],[((.exit 2),[(1,.val (.int .i64) (.no)),(7,.val (.slice 8 (.int .i64)) (.yes 0))])],mX⟩
def J4:MarkK ab:=⟨[(1,.val (.int .i64) (.no)),(7,.val (.slice 8 (.int .i64)) (.yes 0)),(10,.val (.int .i64) (.no))],[(.ret,[(1,.val (.int .i64) (.no)),(6,.val (.bool) (.no)),(7,.val (.slice 8 (.int .i64)) (.yes 0))]),((.exit 4),[(1,.val (.int .i64) (.no)),(6,.undef),(7,.val (.slice 8 (.int .i64)) (.yes 0))])],mY⟩
def BD:FnK ab:=⟨[.val (.named .TNames) (.no),.val (.int .i64) (.no),.val (.slice 216 (.named .TRen)) (.no)],Bool,fun a:kK=>sY a.1 a.2.1 a.2.2.1,fun r:Bool=>(.val (.bool) r (.no),[.undef,.undef,.undef])⟩
def ql:Tt:=tbl [(159,u9),(160,BC)]
def pW:Qt:=aG [(7,J5),(20,J3),(35,J4)]
def oA:=gx ⟨[0,1,2,3,6,7,8,9,10,37,43,60,66,74,87],[],[true],[(15,[(1,.any),(2,.any),(3,.any),(7,.any),(8,.any),(9,.any)]),(16,[(1,.any),(2,.any),(3,.any),(6,.any),(7,.any)]),(17,[(1,.any),(2,.any),(3,.any),(7,.any),(8,.any),(9,.any)])]⟩ Tryz.f68
def J6:MarkK ab:=⟨[(1,.val (.int .i64) (.no)),(2,.val (.slice 216 (.named .TRen)) (.no)),(3,.box (.named .TNames) (.no)),(7,.box (.arr 16 (.int .i64)) (.no)),(8,.val (.int .u64) (.no)),(9,.val (.int .i64) (.no))],[(.ret,[(1,.val (.int .i64) (.no)),(2,.val (.slice 216 (.named .TRen)) (.no)),(3,.box (.named .TNames) (.no)),(6,.val (.bool) (.no)),(7,.box (.arr 16 (.int .i64)) (.no))]),((.exit 0),[(1,.val (.int .i64) (.no)),(2,.val (.slice 216 (.named .TRen)) (.no)),(3,.box (.named .TNames) (.no)),(6,.undef),(7,.box (.arr 16 (.int .i64)) (.no))])],mW⟩
def BE:FnK ab:=⟨[.val (.named .TNames) (.no),.val (.int .i64) (.no),.val (.slice 216 (.named .TRen)) (.no)],Bool,fun a:kK=>kd a.1 a.2.1 a.2.2.1,fun r:Bool=>(.val (.bool) r (.no),[.undef,.undef,.undef])⟩
def Iy:Tt:=tbl [(122,Bz),(123,BA),(124,BB),(125,BD)]
def Hl:Qt:=aG [(15,J6)]
def oB:=gx ⟨[0,1,2,3,4,5,10,29],[],[true],[(5,[(2,.any),(3,.any),(5,.any)]),(6,[(4,.any)]),(7,[(2,.any),(3,.any),(5,.any)])]⟩ Tryz.f126
def J7:MarkK ab:=⟨[(2,.box (.named .TCore) (.no)),(3,.box (.named .TRen) (.no)),(5,.val (.int .i64) (.no))],[(.ret,[(4,.val (.bool) (.no))]),((.exit 0),[(4,.undef)])],uM⟩
def vc:FnK ab:=⟨[.val (.named .TCore) (.no),.val (.named .TRen) (.no)],Bool,fun a:wS=>mG a.1 a.2.1,fun r:Bool=>(.val (.bool) r (.no),[.undef,.undef])⟩
def Hm:Qt:=aG [(5,J7)]
def ji:=gx ⟨[0,1,2,3,4,9,20,23,40],[],[true],[(5,[(1,.any),(3,.any)]),(6,[(2,.any)]),(7,[(1,.any),(3,.any)]),(20,[(1,.any),(3,.any),(4,.any)]),(21,[(1,.any),(2,.any),(3,.any)]),(22,[(1,.any),(3,.any),(4,.any)])]⟩ Tryz.f69
def J8:MarkK ab:=⟨[(1,.box (.named .TCore) (.no)),(3,.val (.int .i64) (.no)),(4,.val (.int .i64) (.no))],[(.ret,[(1,.box (.named .TCore) (.no)),(2,.val (.bool) (.no)),(3,.val (.int .i64) (.no))]),((.exit 2),[(1,.box (.named .TCore) (.no)),(2,.undef),(3,.val (.int .i64) (.no))])],uI⟩
def J9:MarkK ab:=⟨[(1,.box (.named .TCore) (.no)),(3,.val (.int .i64) (.no))],[(.ret,[(2,.val (.bool) (.no))]),((.exit 0),[(2,.undef)])],uJ⟩
def BG:FnK ab:=⟨[.val (.named .TCore) (.no)],Bool,fun a:Y0=>iK a.1,fun r:Bool=>(.val (.bool) r (.no),[.undef])⟩
def zu:Tt:=tbl [(126,vc)]
def yS:Qt:=aG [(20,J8),(5,J9)]
def gk:=gx ⟨[0,1,2,3,4,5,6,11,23,26,38,43,55],[],[true],[(5,[(1,.any),(3,.any)]),(6,[(2,.any)]),(7,[(1,.any),(3,.any)]),(22,[(1,.any),(3,.any),(4,.any),(5,.any)]),(23,[(1,.any),(2,.any),(3,.any),(4,.any)]),(24,[(1,.any),(3,.any),(4,.any),(5,.any)]),(39,[(1,.any),(3,.any),(4,.any),(6,.any)]),(40,[(1,.any),(2,.any),(3,.any)]),(41,[(1,.any),(3,.any),(4,.any),(6,.any)])]⟩ Tryz.f70
def Ka:MarkK ab:=⟨[(1,.box (.named .TCore) (.no)),(3,.val (.int .i64) (.no)),(4,.box (.named .TRen) (.no)),(5,.val (.int .i64) (.no))],[(.ret,[(1,.box (.named .TCore) (.no)),(2,.val (.bool) (.no)),(3,.val (.int .i64) (.no)),(4,.box (.named .TRen) (.no))]),((.exit 2),[(1,.box (.named .TCore) (.no)),(2,.undef),(3,.val (.int .i64) (.no)),(4,.box (.named .TRen) (.no))])],uD⟩
def Kb:MarkK ab:=⟨[(1,.box (.named .TCore) (.no)),(3,.val (.int .i64) (.no)),(4,.box (.named .TRen) (.no)),(6,.val (.int .i64) (.no))],[(.ret,[(1,.box (.named .TCore) (.no)),(2,.val (.bool) (.no)),(3,.val (.int .i64) (.no))]),((.exit 4),[(1,.box (.named .TCore) (.no)),(2,.undef),(3,.val (.int .i64) (.no))])],uE⟩
def Kc:MarkK ab:=⟨[(1,.box (.named .TCore) (.no)),(3,.val (.int .i64) (.no))],[(.ret,[(2,.val (.bool) (.no))]),((.exit 0),[(2,.undef)])],uF⟩
def BH:FnK ab:=⟨[.val (.named .TCore) (.no)],Bool,fun a:Y0=>gD a.1,fun r:Bool=>(.val (.bool) r (.no),[.undef])⟩
def qm:Tt:=tbl [(126,vc)]
def pX:Qt:=aG [(22,Ka),(39,Kb),(5,Kc)]
def oC:=gx ⟨[0,1,2,4,5,6,12,24],[],[true],[(7,[(1,.any),(2,.any),(5,.any),(6,.any)]),(8,[(5,.any)]),(9,[(1,.any),(2,.any),(5,.any),(6,.any)])]⟩ Tryz.f127
def Kd:MarkK ab:=⟨[(1,.val (.int .i64) (.no)),(2,.box (.named .TCore) (.no)),(5,.val (.slice 8 (.int .u64)) (.yes 0)),(6,.val (.int .i64) (.no))],[((.exit 0),[(5,.val (.slice 8 (.int .u64)) (.yes 0))])],uK⟩
def BI:FnK ab:=⟨[.val (.named .TCore) (.no),.val (.int .i64) (.no)],Sl 8 (W .u64),fun a:dk=>mF a.1 a.2.1,fun r:Sl 8 (W .u64)=>(.val (.slice 8 (.int .u64)) r (.no),[.undef,.undef])⟩
def Hn:Qt:=aG [(7,Kd)]
def jk:=gx ⟨[0,1,2,3,4,5,6,24,35,48,59,72],[],[true],[(13,[(1,.any),(3,.any),(4,.any),(5,.any)]),(14,[(1,.any),(2,.any),(4,.any)]),(15,[(1,.any),(3,.any),(4,.any),(5,.any)]),(30,[(1,.any),(4,.any),(6,.any)]),(31,[(2,.any)]),(32,[(1,.any),(4,.any),(6,.any)])]⟩ Tryz.f71
def Ke:MarkK ab:=⟨[(1,.box (.named .TCore) (.no)),(3,.val (.slice 8 (.int .u64)) (.no)),(4,.val (.slice 8 (.int .u64)) (.no)),(5,.val (.int .i64) (.no))],[(.ret,[(1,.box (.named .TCore) (.no)),(2,.val (.bool) (.no)),(4,.val (.slice 8 (.int .u64)) (.no))]),((.exit 0),[(1,.box (.named .TCore) (.no)),(2,.undef),(4,.val (.slice 8 (.int .u64)) (.no))])],uG⟩
def Kf:MarkK ab:=⟨[(1,.box (.named .TCore) (.no)),(4,.val (.slice 8 (.int .u64)) (.no)),(6,.val (.int .i64) (.no))],[(.ret,[(2,.val (.bool) (.no))]),((.exit 2),[(2,.undef)])],uH⟩
def BJ:FnK ab:=⟨[.val (.named .TCore) (.no)],Bool,fun a:Y0=>fS a.1,fun r:Bool=>(.val (.bool) r (.no),[.undef])⟩
def zw:Tt:=tbl [(127,BI)]
def yT:Qt:=aG [(13,Ke),(30,Kf)]
def Xc:=gx ⟨[0,1,2,4,5,9,15],[],[true,true],[]⟩ Tryz.f128
def vd:FnK ab:=⟨[.val (.named .TPhys) (.no),.val (.int .i64) (.no)],W .u32×Bool,fun a:gU=>sW a.1 a.2.1,fun r:W .u32×Bool=>(.tup [.val (.int .u32) r.1 (.no),.val (.bool) r.2 (.no)],[.undef,.undef])⟩
def ag0:Tt:=tbl [(91,vk)]
def oD:=gx ⟨[0,1,2,3,4,5,6,8],[],[true],[(7,[(2,.any),(3,.any),(4,.any),(5,.any),(6,.any)]),(8,[(4,.any),(5,.any)]),(9,[(2,.any),(3,.any),(4,.any),(5,.any),(6,.any)])]⟩ Tryz.f72
def Kg:MarkK ab:=⟨[(2,.box (.named .TPhys) (.no)),(3,.box (.arr 16 (.int .i64)) (.no)),(4,.box (.arr 16 (.int .u32)) (.no)),(5,.box (.arr 16 (.int .u32)) (.no)),(6,.val (.int .i64) (.no))],[((.exit 0),[(4,.box (.arr 16 (.int .u32)) (.no)),(5,.box (.arr 16 (.int .u32)) (.no))])],L9⟩
def BK:FnK ab:=⟨[.val (.named .TPhys) (.no),.val (.arr 16 (.int .i64)) (.no)],Arr 16 (W .u32),fun a:vV=>fk a.1 a.2.1,fun r:Arr 16 (W .u32)=>(.val (.arr 16 (.int .u32)) r (.no),[.undef,.undef])⟩
def Iz:Tt:=tbl [(128,vd)]
def Ho:Qt:=aG [(7,Kg)]
def oE:=gx ⟨[0,1,2,3,5,19],[],[true],[(5,[(1,.any),(3,.any)]),(6,[(1,.any),(2,.any)]),(7,[(1,.any),(3,.any)])]⟩ Tryz.f73
def Kh:MarkK ab:=⟨[(1,.box (.named .TArch) (.no)),(3,.val (.int .i64) (.no))],[(.ret,[(1,.box (.named .TArch) (.no)),(2,.val (.bool) (.no))]),((.exit 0),[(1,.box (.named .TArch) (.no)),(2,.undef)])],uC⟩
def BL:FnK ab:=⟨[.val (.named .TArch) (.no)],Bool,fun a:wc=>eT a.1,fun r:Bool=>(.val (.bool) r (.no),[.undef])⟩
def IA:Tt:=tbl [(82,N7)]
def Hp:Qt:=aG [(5,Kh)]
def oF:=gx ⟨[0,1,2,3,4,5,6,11,32,49],[],[true],[(5,[(1,.any),(3,.any)]),(6,[(2,.any)]),(7,[(1,.any),(3,.any)])]⟩ Tryz.f74
def Ki:MarkK ab:=⟨[(1,.box (.named .TCore) (.no)),(3,.val (.int .i64) (.no))],[(.ret,[(2,.val (.bool) (.no))]),((.exit 0),[(2,.undef)])],uL⟩
def BM:FnK ab:=⟨[.val (.named .TCore) (.no)],Bool,fun a:Y0=>eA a.1,fun r:Bool=>(.val (.bool) r (.no),[.undef])⟩
def IB:Tt:=tbl [(128,vd)]
def Hq:Qt:=aG [(5,Ki)]
def bH:=gx ⟨[0,1,2,3,4,5,8,16,53,64,70,76,82,95,102,108],[],[false],[(7,[(1,.any)]),(8,[(2,.any),(3,.any)]),(15,[(1,.any),(3,.any),(4,.any),(5,.any)]),(16,[(1,.any),(3,.any),(4,.any)]),(17,[(1,.any),(3,.any),(4,.any),(5,.any)]),(20,[(1,.any),(3,.any),(4,.any),(5,.any)]),(21,[(1,.any),(3,.any),(4,.any),(5,.any)]),(24,[(1,.any),(3,.any),(4,.any)]),(25,[(2,.any),(3,.any)]),(26,[(1,.any),(3,.any),(4,.any),(53,.any)]),(27,[(1,.any),(3,.any),(4,.any)]),(28,[(1,.any),(3,.any),(4,.any)]),(29,[(2,.any),(3,.any)]),(32,[(1,.any),(3,.any)]),(33,[(2,.any),(3,.any)]),(36,[(1,.any),(3,.any)]),(37,[(2,.any),(3,.any)]),(40,[(1,.any),(3,.any)]),(41,[(2,.any),(3,.any)]),(44,[(1,.any),(3,.any)]),(45,[(2,.any),(3,.any)]),(48,[(1,.any),(3,.any)]),(49,[(2,.any),(3,.any)]),(52,[(1,.any),(3,.any)]),(53,[(2,.any),(3,.any)]),(56,[(3,.any)]),(57,[(2,.any),(3,.any)])]⟩ Tryz.f24
def Kk:MarkK ab:=⟨[(1,.box (.named .TCore) (.no)),(3,.val (.slice 8 (.int .i64)) (.yes 0)),(4,.val (.slice 216 (.named .TRen)) (.yes 0)),(5,.val (.int .i64) (.no))],[(.normal,[(1,.box (.named .TCore) (.no)),(3,.val (.slice 8 (.int .i64)) (.yes 0)),(4,.val (.slice 216 (.named .TRen)) (.yes 0)),(5,.val (.int .i64) (.no))])],AY⟩
def Kj:MarkK ab:=⟨[(1,.box (.named .TCore) (.no)),(3,.val (.slice 8 (.int .i64)) (.yes 0)),(4,.val (.slice 216 (.named .TRen)) (.yes 0)),(5,.val (.int .i64) (.no))],[((.exit 0),[(1,.box (.named .TCore) (.no)),(3,.val (.slice 8 (.int .i64)) (.yes 0)),(4,.val (.slice 216 (.named .TRen)) (.yes 0))])],na⟩
def Km:MarkK ab:=⟨[(1,.box (.named .TCore) (.no)),(3,.val (.slice 8 (.int .i64)) (.yes 0)),(4,.val (.slice 216 (.named .TRen)) (.yes 0)),(53,.val (.bool) (.no))],[(.normal,[(1,.box (.named .TCore) (.no)),(3,.val (.slice 8 (.int .i64)) (.yes 0)),(4,.val (.slice 216 (.named .TRen)) (.yes 0))])],iM⟩
def Ku:MarkK ab:=⟨[(3,.val (.slice 8 (.int .i64)) (.yes 0))],[(.ret,[(2,.ref 3 []),(3,.val (.slice 8 (.int .i64)) (.yes 0))])],uA⟩
def Kt:MarkK ab:=⟨[(1,.box (.named .TCore) (.no)),(3,.val (.slice 8 (.int .i64)) (.yes 0))],[(.ret,[(2,.ref 3 []),(3,.val (.slice 8 (.int .i64)) (.yes 0))])],nk⟩
def Ks:MarkK ab:=⟨[(1,.box (.named .TCore) (.no)),(3,.val (.slice 8 (.int .i64)) (.yes 0))],[(.ret,[(2,.ref 3 []),(3,.val (.slice 8 (.int .i64)) (.yes 0))])],nj⟩
def Kr:MarkK ab:=⟨[(1,.box (.named .TCore) (.no)),(3,.val (.slice 8 (.int .i64)) (.yes 0))],[(.ret,[(2,.ref 3 []),(3,.val (.slice 8 (.int .i64)) (.yes 0))])],ni⟩
def Kq:MarkK ab:=⟨[(1,.box (.named .TCore) (.no)),(3,.val (.slice 8 (.int .i64)) (.yes 0))],[(.ret,[(2,.ref 3 []),(3,.val (.slice 8 (.int .i64)) (.yes 0))])],nh⟩
def Kp:MarkK ab:=⟨[(1,.box (.named .TCore) (.no)),(3,.val (.slice 8 (.int .i64)) (.yes 0))],[(.ret,[(2,.ref 3 []),(3,.val (.slice 8 (.int .i64)) (.yes 0))])],ng⟩
def Ko:MarkK ab:=⟨[(1,.box (.named .TCore) (.no)),(3,.val (.slice 8 (.int .i64)) (.yes 0))],[(.ret,[(2,.ref 3 []),(3,.val (.slice 8 (.int .i64)) (.yes 0))])],nf⟩
def Kn:MarkK ab:=⟨[(1,.box (.named .TCore) (.no)),(3,.val (.slice 8 (.int .i64)) (.yes 0)),(4,.val (.slice 216 (.named .TRen)) (.yes 0))],[(.ret,[(2,.ref 3 []),(3,.val (.slice 8 (.int .i64)) (.yes 0))])],kq⟩
def Kl:MarkK ab:=⟨[(1,.box (.named .TCore) (.no)),(3,.val (.slice 8 (.int .i64)) (.yes 0)),(4,.val (.slice 216 (.named .TRen)) (.yes 0))],[(.ret,[(2,.ref 3 []),(3,.val (.slice 8 (.int .i64)) (.yes 0))])],uz⟩
def Kv:MarkK ab:=⟨[(1,.box (.named .TCore) (.no))],[(.ret,[(2,.ref 3 []),(3,.val (.slice 8 (.int .i64)) (.yes 0))])],uB⟩
def BN:FnK ab:=⟨[.val (.named .TCore) (.no)],Sl 8 (W .i64),fun a:Y0=>tj a.1,fun r:Sl 8 (W .i64)=>(.val (.slice 8 (.int .i64)) r (.yes 0),[.undef])⟩
def dI:Tt:=tbl [(66,Bw),(67,Bx),(68,BE),(69,BG),(70,BH),(71,BJ),(72,BK),(73,BL),(74,BM)]
def dD:Qt:=aG [(20,Kk),(15,Kj),(26,Km),(56,Ku),(52,Kt),(48,Ks),(44,Kr),(40,Kq),(36,Kp),(32,Ko),(28,Kn),(24,Kl),(7,Kv)]
def jl:=gx ⟨[0,1,2,4,5,6,7,8,17,23,32,36],[],[true],[(7,[(5,.any),(6,.any)]),(8,[(4,.any)]),(9,[(5,.any),(6,.any)]),(18,[(5,.any),(6,.any),(7,.any),(8,.any)]),(19,[(5,.any),(6,.any),(7,.any)]),(20,[(5,.any),(6,.any),(7,.any),(8,.any)])]⟩ Tryz.f161
def Kw:MarkK ab:=⟨[(5,.val (.slice 40 (.named .TWay)) (.no)),(6,.val (.int .i64) (.no)),(7,.val (.int .i64) (.no)),(8,.val (.int .i64) (.no))],[((.exit 2),[(5,.val (.slice 40 (.named .TWay)) (.no)),(6,.val (.int .i64) (.no)),(7,.val (.int .i64) (.no))])],uj⟩
def Kx:MarkK ab:=⟨[(5,.val (.slice 40 (.named .TWay)) (.no)),(6,.val (.int .i64) (.no))],[(.ret,[(4,.val (.bool) (.no))]),((.exit 0),[(4,.undef)])],uk⟩
def BP:FnK ab:=⟨[.val (.named .TCache) (.no),.val (.int .i64) (.no)],Bool,fun a:fw=>kf a.1 a.2.1,fun r:Bool=>(.val (.bool) r (.no),[.undef,.undef])⟩
def yU:Qt:=aG [(18,Kw),(7,Kx)]
def Xd:=gx ⟨[0,1,2,4,8],[],[true],[]⟩ Tryz.f173
def ve:FnK ab:=⟨[.val (.named .TCache) (.no),.val (.int .u32) (.no)],W .i64,fun a:eB=>gC a.1 a.2.1,fun r:W .i64=>(.val (.int .i64) r (.no),[.undef,.undef])⟩
def jm:=gx ⟨[0,1,2,4,5,6,7,16,32,74,77,106],[],[true],[(7,[(1,.any),(2,.any),(5,.any),(6,.any)]),(8,[(4,.any)]),(9,[(1,.any),(2,.any),(5,.any),(6,.any)]),(28,[(1,.any),(2,.any),(5,.any),(6,.any),(7,.any)]),(29,[(1,.any),(2,.any),(4,.any),(5,.any),(6,.any)]),(30,[(1,.any),(2,.any),(5,.any),(6,.any),(7,.any)])]⟩ Tryz.f162
def Ky:MarkK ab:=⟨[(1,.val (.int .i64) (.no)),(2,.box (.named .TCache) (.no)),(5,.val (.slice 40 (.named .TWay)) (.no)),(6,.val (.int .i64) (.no)),(7,.val (.int .i64) (.no))],[(.ret,[(1,.val (.int .i64) (.no)),(2,.box (.named .TCache) (.no)),(4,.val (.bool) (.no)),(5,.val (.slice 40 (.named .TWay)) (.no)),(6,.val (.int .i64) (.no))]),((.exit 2),[(1,.val (.int .i64) (.no)),(2,.box (.named .TCache) (.no)),(4,.undef),(5,.val (.slice 40 (.named .TWay)) (.no)),(6,.val (.int .i64) (.no))])],iL⟩
def Kz:MarkK ab:=⟨[(1,.val (.int .i64) (.no)),(2,.box (.named .TCache) (.no)),(5,.val (.slice 40 (.named .TWay)) (.no)),(6,.val (.int .i64) (.no))],[(.ret,[(4,.val (.bool) (.no))]),((.exit 0),[(4,.undef)])],um⟩
def BQ:FnK ab:=⟨[.val (.named .TCache) (.no),.val (.int .i64) (.no)],Bool,fun a:fw=>kg a.1 a.2.1,fun r:Bool=>(.val (.bool) r (.no),[.undef,.undef])⟩
def zx:Tt:=tbl [(173,ve)]
def yV:Qt:=aG [(28,Ky),(7,Kz)]
def oH:=gx ⟨[0,1,2,3,4,14,19,54],[],[true],[(11,[(1,.any),(3,.any)]),(12,[(2,.any)]),(13,[(1,.any),(3,.any)])]⟩ Tryz.f129
def KA:MarkK ab:=⟨[(1,.box (.named .TCache) (.no)),(3,.val (.int .i64) (.no))],[(.ret,[(2,.val (.bool) (.no))]),((.exit 0),[(2,.undef)])],ui⟩
def BR:FnK ab:=⟨[.val (.named .TCache) (.no)],Bool,fun a:xy=>mz a.1,fun r:Bool=>(.val (.bool) r (.no),[.undef])⟩
def IC:Tt:=tbl [(161,BP),(162,BQ)]
def Hs:Qt:=aG [(11,KA)]
def Xe:=gx ⟨[0,1,2,4],[],[true],[]⟩ Tryz.f130
def vf:FnK ab:=⟨[.val (.named .TCoh) (.no),.val (.int .u32) (.no)],Bool,fun a:kN=>mA a.1 a.2.1,fun r:Bool=>(.val (.bool) r (.no),[.undef,.undef])⟩
def oI:=gx ⟨[0,1,2,4,5,6,9],[],[true],[(7,[(1,.any),(2,.any),(4,.any),(5,.any),(6,.any)]),(8,[(4,.any),(5,.any)]),(9,[(1,.any),(2,.any),(4,.any),(5,.any),(6,.any)])]⟩ Tryz.f131
def KB:MarkK ab:=⟨[(1,.val (.int .u32) (.no)),(2,.box (.named .TCoh) (.no)),(4,.box (.arr 16 (.int .u8)) (.no)),(5,.box (.arr 16 (.int .u8)) (.no)),(6,.val (.int .i64) (.no))],[((.exit 0),[(4,.box (.arr 16 (.int .u8)) (.no)),(5,.box (.arr 16 (.int .u8)) (.no))])],m8⟩
def BS:FnK ab:=⟨[.val (.named .TCoh) (.no),.val (.int .u32) (.no)],Arr 16 (W .u8),fun a:kN=>mB a.1 a.2.1,fun r:Arr 16 (W .u8)=>(.val (.arr 16 (.int .u8)) r (.no),[.undef,.undef])⟩
def Ht:Qt:=aG [(7,KB)]
def Xf:=gx ⟨[0,1,2,4],[],[true],[]⟩ Tryz.f163
def BT:FnK ab:=⟨[.val (.named .TCoh) (.no),.val (.int .i64) (.no)],Bool,fun a:fx=>tc a.1 a.2.1,fun r:Bool=>(.val (.bool) r (.no),[.undef,.undef])⟩
def oJ:=gx ⟨[0,1,2,4,5,6,7,8,13,21,46],[],[true,true,true],[(13,[(1,.any),(2,.any),(7,.any),(8,.any)]),(14,[(4,.any),(5,.any),(6,.any)]),(15,[(1,.any),(2,.any),(7,.any),(8,.any)])]⟩ Tryz.f174
def KC:MarkK ab:=⟨[(1,.val (.int .u32) (.no)),(2,.box (.named .TCache) (.no)),(7,.val (.int .i64) (.no)),(8,.val (.int .i64) (.no))],[(.ret,[(4,.val (.int .i64) (.no)),(5,.val (.int .i64) (.no)),(6,.val (.bool) (.no))]),((.exit 0),[(4,.undef),(5,.undef),(6,.undef)])],uh⟩
def BU:FnK ab:=⟨[.val (.named .TCache) (.no),.val (.int .u32) (.no)],W .i64×W .i64×Bool,fun a:eB=>ke a.1 a.2.1,fun r:W .i64×W .i64×Bool=>(.tup [.val (.int .i64) r.1 (.no),.val (.int .i64) r.2.1 (.no),.val (.bool) r.2.2 (.no)],[.undef,.undef])⟩
def IE:Tt:=tbl [(173,ve)]
def Hu:Qt:=aG [(13,KC)]
def Xg:=gx ⟨[0,1,2,4,5,6,7,16],[],[true],[]⟩ Tryz.f164
def BV:FnK ab:=⟨[.val (.named .TCache) (.no),.val (.int .u32) (.no)],TWay,fun a:eB=>th a.1 a.2.1,fun r:TWay=>(.val (.named .TWay) r (.no),[.undef,.undef])⟩
def ag1:Tt:=tbl [(174,BU)]
def Xh:=gx ⟨[0,1,2,3,6,10],[],[true],[]⟩ Tryz.f132
def BW:FnK ab:=⟨[.val (.named .TCoh) (.no),.val (.int .i64) (.no),.val (.int .u32) (.no)],W .i64,fun a:Nd=>te a.1 a.2.1 a.2.2.1,fun r:W .i64=>(.val (.int .i64) r (.no),[.undef,.undef,.undef])⟩
def ag2:Tt:=tbl [(163,BT),(164,BV)]
def oK:=gx ⟨[0,2,3,4,5,9,23,28,35],[],[true],[(7,[(0,.any),(3,.any),(4,.any),(5,.any)]),(8,[(2,.any),(3,.any),(4,.any)]),(9,[(0,.any),(3,.any),(4,.any),(5,.any)])]⟩ Tryz.f133
def KE:MarkK ab:=⟨[(0,.val (.slice 8 (.int .i64)) (.no)),(3,.val (.int .i64) (.no)),(4,.val (.bool) (.no)),(5,.val (.int .i64) (.no))],[(.ret,[(2,.val (.bool) (.no)),(3,.val (.int .i64) (.no)),(4,.val (.bool) (.no))]),((.exit 0),[(2,.undef),(3,.val (.int .i64) (.no)),(4,.val (.bool) (.no))])],m7⟩
def BX:FnK ab:=⟨[.val (.slice 8 (.int .i64)) (.no)],Bool,fun a:ch=>my a.1,fun r:Bool=>(.val (.bool) r (.no),[.undef])⟩
def Hv:Qt:=aG [(7,KE)]
def eX:=gx ⟨[0,1,2,3,4,5,6,7,8,13,22,31,45,62,81,87,100],[],[true],[(5,[(1,.any),(3,.any)]),(6,[(2,.any)]),(7,[(1,.any),(3,.any)]),(20,[(1,.any),(3,.any),(4,.any)]),(21,[(1,.any),(2,.any),(3,.any)]),(22,[(1,.any),(3,.any),(4,.any)]),(29,[(1,.any),(3,.any),(4,.any),(5,.any)]),(30,[(1,.any),(2,.any),(3,.any),(4,.any)]),(31,[(1,.any),(3,.any),(4,.any),(5,.any)]),(52,[(1,.any),(3,.any),(4,.any),(5,.any),(6,.any),(7,.any),(8,.any)]),(53,[(1,.any),(3,.any),(4,.any),(5,.any),(7,.any)]),(54,[(1,.any),(3,.any),(4,.any),(5,.any),(6,.any),(7,.any),(8,.any)])]⟩ Tryz.f76
def KI:MarkK ab:=⟨[(1,.box (.named .TCoh) (.no)),(3,.val (.int .i64) (.no)),(4,.val (.int .i64) (.no)),(5,.val (.int .i64) (.no)),(6,.box (.named .TWay) (.no)),(7,.val (.slice 8 (.int .i64)) (.yes 0)),(8,.val (.int .i64) (.no))],[((.exit 6),[(1,.box (.named .TCoh) (.no)),(3,.val (.int .i64) (.no)),(4,.val (.int .i64) (.no)),(5,.val (.int .i64) (.no)),(7,.val (.slice 8 (.int .i64)) (.yes 0))])],kp⟩
def KG:MarkK ab:=⟨[(1,.box (.named .TCoh) (.no)),(3,.val (.int .i64) (.no)),(4,.val (.int .i64) (.no)),(5,.val (.int .i64) (.no))],[(.ret,[(1,.box (.named .TCoh) (.no)),(2,.val (.bool) (.no)),(3,.val (.int .i64) (.no)),(4,.val (.int .i64) (.no))]),((.exit 4),[(1,.box (.named .TCoh) (.no)),(2,.undef),(3,.val (.int .i64) (.no)),(4,.val (.int .i64) (.no))])],uq⟩
def KF:MarkK ab:=⟨[(1,.box (.named .TCoh) (.no)),(3,.val (.int .i64) (.no)),(4,.val (.int .i64) (.no))],[(.ret,[(1,.box (.named .TCoh) (.no)),(2,.val (.bool) (.no)),(3,.val (.int .i64) (.no))]),((.exit 2),[(1,.box (.named .TCoh) (.no)),(2,.undef),(3,.val (.int .i64) (.no))])],uo⟩
def KH:MarkK ab:=⟨[(1,.box (.named .TCoh) (.no)),(3,.val (.int .i64) (.no))],[(.ret,[(2,.val (.bool) (.no))]),((.exit 0),[(2,.undef)])],uv⟩
def BZ:FnK ab:=⟨[.val (.named .TCoh) (.no)],Bool,fun a:dM=>td a.1,fun r:Bool=>(.val (.bool) r (.no),[.undef])⟩
def lF:Tt:=tbl [(129,BR),(130,vf),(131,BS),(132,BW),(133,BX)]
def lv:Qt:=aG [(52,KI),(29,KG),(20,KF),(5,KH)]
def Xj:=gx ⟨[0,1,2],[],[true],[]⟩ Tryz.f25
def B0:FnK ab:=⟨[.val (.named .TCoh) (.no)],Bool,fun a:dM=>mD a.1,fun r:Bool=>(.val (.bool) r (.no),[.undef])⟩
def ag3:Tt:=tbl [(75,N6),(76,BZ)]
def Xk:=gx ⟨[0,1,2,3,1000023],[],[false],[]⟩ Tryz.f134
def vh:FnK ab:=⟨[.val (.named .TCoh) (.no)],TCoh,fun a:dM=>mC a.1,fun r:TCoh=>(.val (.named .TCoh) r (.st [.yes 0,.yes 0]),[.undef])⟩
def oL:=gx ⟨[0,1,2,3,5,6,7,8,12,17],[],[true],[(13,[(1,.any),(5,.any),(6,.any),(7,.any),(8,.any)]),(14,[(6,.any),(7,.any)]),(15,[(1,.any),(5,.any),(6,.any),(7,.any),(8,.any)])]⟩ Tryz.f135
def KJ:MarkK ab:=⟨[(1,.val (.int .u32) (.no)),(5,.box (.arr 16 (.int .u8)) (.no)),(6,.box (.named .TCoh) (.st [.yes 0,.yes 0])),(7,.box (.named .TCoh) (.st [.yes 0,.yes 0])),(8,.val (.int .i64) (.no))],[((.exit 0),[(6,.box (.named .TCoh) (.st [.yes 0,.yes 0])),(7,.box (.named .TCoh) (.st [.yes 0,.yes 0]))])],m9⟩
def B1:FnK ab:=⟨[.val (.named .TCoh) (.no),.val (.int .u32) (.no),.val (.arr 16 (.int .u8)) (.no)],TCoh,fun a:Ng=>tf a.1 a.2.1 a.2.2.1,fun r:TCoh=>(.val (.named .TCoh) r (.no),[.undef,.undef,.undef])⟩
def IG:Tt:=tbl [(130,vf),(134,vh)]
def Hw:Qt:=aG [(13,KJ)]
def gm:=gx ⟨[0,1,2,3,4,5,6,7,15,26,40,57],[],[true],[(7,[(1,.any),(3,.any),(4,.any)]),(8,[(3,.any)]),(9,[(1,.any),(3,.any),(4,.any)]),(16,[(1,.any),(3,.any),(4,.any),(5,.any)]),(17,[(1,.any),(3,.any),(4,.any)]),(18,[(1,.any),(3,.any),(4,.any),(5,.any)]),(25,[(1,.any),(3,.any),(4,.any),(5,.any),(6,.any)]),(26,[(1,.any),(3,.any),(4,.any),(5,.any)]),(27,[(1,.any),(3,.any),(4,.any),(5,.any),(6,.any)])]⟩ Tryz.f78
def KL:MarkK ab:=⟨[(1,.box (.named .TCoh) (.no)),(3,.val (.slice 1 (.int .u8)) (.no)),(4,.val (.int .i64) (.no)),(5,.val (.int .i64) (.no)),(6,.val (.int .i64) (.no))],[((.exit 4),[(1,.box (.named .TCoh) (.no)),(3,.val (.slice 1 (.int .u8)) (.no)),(4,.val (.int .i64) (.no)),(5,.val (.int .i64) (.no))])],ux⟩
def KK:MarkK ab:=⟨[(1,.box (.named .TCoh) (.no)),(3,.val (.slice 1 (.int .u8)) (.no)),(4,.val (.int .i64) (.no)),(5,.val (.int .i64) (.no))],[((.exit 2),[(1,.box (.named .TCoh) (.no)),(3,.val (.slice 1 (.int .u8)) (.no)),(4,.val (.int .i64) (.no))])],uw⟩
def KM:MarkK ab:=⟨[(1,.box (.named .TCoh) (.no)),(3,.val (.slice 1 (.int .u8)) (.no)),(4,.val (.int .i64) (.no))],[((.exit 0),[(3,.val (.slice 1 (.int .u8)) (.no))])],uy⟩
def B2:FnK ab:=⟨[.val (.named .TCoh) (.no)],Sl 1 (W .u8),fun a:dM=>AM a.1,fun r:Sl 1 (W .u8)=>(.val (.slice 1 (.int .u8)) r (.no),[.undef])⟩
def qn:Tt:=tbl [(134,vh),(135,B1)]
def pY:Qt:=aG [(25,KL),(16,KK),(7,KM)]
def Xl:=gx ⟨[0,1,2],[],[true],[]⟩ Tryz.f27
def B3:FnK ab:=⟨[.val (.named .TCoh) (.no)],Sl 1 (W .u8),fun a:dM=>ti a.1,fun r:Sl 1 (W .u8)=>(.val (.slice 1 (.int .u8)) r (.no),[.undef])⟩
def ag4:Tt:=tbl [(78,B2)]
def Xm:=gx ⟨[0,1,2,6,25],[],[true],[]⟩ Tryz.f77
def B4:FnK ab:=⟨[.val (.slice 1 (.int .u8)) (.no),.val (.int .u32) (.no),.val (.int .i64) (.no)],W .i64,fun a:vP=>j0 a.1 a.2.1 a.2.2.1,fun r:W .i64=>(.val (.int .i64) r (.no),[.undef,.undef,.undef])⟩
def oM:=gx ⟨[0,1,4,5,6,9,13,52],[],[true],[(11,[(0,.any),(1,.any),(5,.any)]),(12,[(4,.any)]),(13,[(0,.any),(1,.any),(5,.any)])]⟩ Tryz.f26
def KN:MarkK ab:=⟨[(0,.val (.slice 16 (.named .TSb)) (.no)),(1,.val (.slice 1 (.int .u8)) (.no)),(5,.val (.int .i64) (.no))],[(.ret,[(4,.val (.bool) (.no))]),((.exit 0),[(4,.undef)])],ug⟩
def B5:FnK ab:=⟨[.val (.slice 16 (.named .TSb)) (.no),.val (.slice 1 (.int .u8)) (.no)],Bool,fun a:xJ=>iJ a.1 a.2.1,fun r:Bool=>(.val (.bool) r (.no),[.undef,.undef])⟩
def IH:Tt:=tbl [(77,B4)]
def Hx:Qt:=aG [(11,KN)]
def jn:=gx ⟨[0,2,3,4,5,7,24],[],[true],[(7,[(0,.any),(3,.any),(4,.any)]),(8,[(0,.any),(3,.any)]),(9,[(0,.any),(3,.any),(4,.any)]),(20,[(0,.any),(3,.any),(5,.any)]),(21,[(3,.any)]),(22,[(0,.any),(3,.any),(5,.any)])]⟩ Tryz.f79
def KP:MarkK ab:=⟨[(0,.val (.slice 1 (.int .u8)) (.no)),(3,.val (.bool) (.no)),(4,.val (.int .i64) (.no))],[((.exit 0),[(0,.val (.slice 1 (.int .u8)) (.no)),(3,.val (.bool) (.no))])],uc⟩
def KO:MarkK ab:=⟨[(0,.val (.slice 1 (.int .u8)) (.no)),(3,.val (.bool) (.no)),(5,.val (.int .i64) (.no))],[((.exit 2),[(3,.val (.bool) (.no))])],tZ⟩
def B6:FnK ab:=⟨[.val (.slice 1 (.int .u8)) (.no)],Bool,fun a:cU=>sU a.1,fun r:Bool=>(.val (.bool) r (.no),[.undef])⟩
def zy:Tt:=tbl [(136,u4)]
def yW:Qt:=aG [(7,KP),(20,KO)]
def Xo:=gx ⟨[0,1,4],[],[true],[]⟩ Tryz.f80
def B8:FnK ab:=⟨[.val (.int .i64) (.no),.val (.int .i64) (.no)],Bool,fun a:Y9=>mq a.1 a.2.1,fun r:Bool=>(.val (.bool) r (.no),[.undef,.undef])⟩
def Xp:=gx ⟨[0,1,2,3,4,5,38],[],[true],[]⟩ Tryz.f28
def B9:FnK ab:=⟨[.val (.named .TConf) (.no),.val (.named .TPred) (.no)],Bool,fun a:w8=>gB a.1 a.2.1,fun r:Bool=>(.val (.bool) r (.no),[.undef,.undef])⟩
def ag5:Tt:=tbl [(33,vg),(79,B6),(80,B8)]
def oN:=gx ⟨[0,2,3,7,64],[],[true],[(5,[(0,.any),(3,.any)]),(6,[(2,.any)]),(7,[(0,.any),(3,.any)])]⟩ Tryz.f29
def KQ:MarkK ab:=⟨[(0,.val (.slice 48 (.named .TLq)) (.no)),(3,.val (.int .i64) (.no))],[(.ret,[(2,.val (.bool) (.no))]),((.exit 0),[(2,.undef)])],uf⟩
def Ca:FnK ab:=⟨[.val (.slice 48 (.named .TLq)) (.no)],Bool,fun a:wm=>fR a.1,fun r:Bool=>(.val (.bool) r (.no),[.undef])⟩
def Hy:Qt:=aG [(5,KQ)]
def oO:=gx ⟨[0,2,3,4,8,48],[],[true],[(7,[(0,.any),(3,.any),(4,.any)]),(8,[(2,.any)]),(9,[(0,.any),(3,.any),(4,.any)])]⟩ Tryz.f30
def KR:MarkK ab:=⟨[(0,.val (.slice 32 (.named .TSq)) (.no)),(3,.val (.int .u64) (.no)),(4,.val (.int .i64) (.no))],[(.ret,[(2,.val (.bool) (.no))]),((.exit 0),[(2,.undef)])],ue⟩
def Cb:FnK ab:=⟨[.val (.slice 32 (.named .TSq)) (.no)],Bool,fun a:xB=>fo a.1,fun r:Bool=>(.val (.bool) r (.no),[.undef])⟩
def Hz:Qt:=aG [(7,KR)]
def cB:=gx ⟨[0,1,2,3,4,5,6,7,18,30,35,50,59,66,73],[],[false],[(5,[(2,.any),(3,.any),(5,.any),(18,.any)]),(6,[(2,.any),(3,.any),(4,.any),(5,.any)]),(9,[(2,.any),(3,.any),(5,.any)]),(10,[(4,.any),(5,.any)]),(17,[(2,.any),(3,.any),(5,.any),(6,.any),(7,.any)]),(18,[(4,.any),(5,.any)]),(21,[(2,.any),(3,.any),(5,.any),(6,.any),(7,.any)]),(22,[(4,.any),(5,.any)]),(23,[(2,.any),(5,.any),(50,.any)]),(24,[(2,.any),(5,.any)]),(25,[(2,.any),(5,.any)]),(26,[(4,.any),(5,.any)]),(29,[(2,.any),(5,.any)]),(30,[(4,.any),(5,.any)]),(33,[(2,.any),(5,.any)]),(34,[(4,.any),(5,.any)]),(37,[(5,.any)]),(38,[(4,.any),(5,.any)])]⟩ Tryz.f9
def KZ:MarkK ab:=⟨[(2,.box (.named .TCore) (.no)),(3,.box (.named .TCoh) (.no)),(5,.val (.slice 8 (.int .i64)) (.yes 0)),(18,.val (.bool) (.no))],[(.ret,[(2,.box (.named .TCore) (.no)),(3,.box (.named .TCoh) (.no)),(4,.ref 5 []),(5,.val (.slice 8 (.int .i64)) (.yes 0))]),(.normal,[(2,.box (.named .TCore) (.no)),(3,.box (.named .TCoh) (.no)),(4,.undef),(5,.val (.slice 8 (.int .i64)) (.yes 0))])],kz⟩
def KU:MarkK ab:=⟨[(2,.box (.named .TCore) (.no)),(5,.val (.slice 8 (.int .i64)) (.yes 0)),(50,.val (.bool) (.no))],[(.normal,[(2,.box (.named .TCore) (.no)),(5,.val (.slice 8 (.int .i64)) (.yes 0))])],iQ⟩
def KY:MarkK ab:=⟨[(5,.val (.slice 8 (.int .i64)) (.yes 0))],[(.ret,[(4,.ref 5 []),(5,.val (.slice 8 (.int .i64)) (.yes 0))])],uN⟩
def KX:MarkK ab:=⟨[(2,.box (.named .TCore) (.no)),(5,.val (.slice 8 (.int .i64)) (.yes 0))],[(.ret,[(4,.ref 5 []),(5,.val (.slice 8 (.int .i64)) (.yes 0))])],nr⟩
def KW:MarkK ab:=⟨[(2,.box (.named .TCore) (.no)),(5,.val (.slice 8 (.int .i64)) (.yes 0))],[(.ret,[(4,.ref 5 []),(5,.val (.slice 8 (.int .i64)) (.yes 0))])],nq⟩
def KV:MarkK ab:=⟨[(2,.box (.named .TCore) (.no)),(5,.val (.slice 8 (.int .i64)) (.yes 0))],[(.ret,[(4,.ref 5 []),(5,.val (.slice 8 (.int .i64)) (.yes 0))])],ky⟩
def KT:MarkK ab:=⟨[(2,.box (.named .TCore) (.no)),(3,.box (.named .TCoh) (.no)),(5,.val (.slice 8 (.int .i64)) (.yes 0)),(6,.val (.bool) (.no)),(7,.val (.bool) (.no))],[(.ret,[(4,.ref 5 []),(5,.val (.slice 8 (.int .i64)) (.yes 0))])],nm⟩
def KS:MarkK ab:=⟨[(2,.box (.named .TCore) (.no)),(3,.box (.named .TCoh) (.no)),(5,.val (.slice 8 (.int .i64)) (.yes 0)),(6,.val (.bool) (.no)),(7,.val (.bool) (.no))],[(.ret,[(4,.ref 5 []),(5,.val (.slice 8 (.int .i64)) (.yes 0))])],nl⟩
def K1:MarkK ab:=⟨[(2,.box (.named .TCore) (.no)),(3,.box (.named .TCoh) (.no)),(5,.val (.slice 8 (.int .i64)) (.yes 0))],[(.ret,[(4,.ref 5 []),(5,.val (.slice 8 (.int .i64)) (.yes 0))])],nu⟩
def vi:FnK ab:=⟨[.val (.named .TCore) (.no),.val (.named .TCoh) (.no)],Sl 8 (W .i64),fun a:gN=>ki a.1 a.2.1,fun r:Sl 8 (W .i64)=>(.val (.slice 8 (.int .i64)) r (.yes 0),[.undef,.undef])⟩
def fh:Tt:=tbl [(24,BN),(25,B0),(26,B5),(27,B3),(28,B9),(29,Ca),(30,Cb)]
def fe:Qt:=aG [(5,KZ),(23,KU),(37,KY),(33,KX),(29,KW),(25,KV),(21,KT),(17,KS),(9,K1)]
def oP:=gx ⟨[0,1,4,5,10,20,31],[],[true],[(11,[(0,.any),(1,.any),(5,.any)]),(12,[(4,.any)]),(13,[(0,.any),(1,.any),(5,.any)])]⟩ Tryz.f7
def K2:MarkK ab:=⟨[(0,.val (.slice 8 (.int .i64)) (.no)),(1,.val (.slice 8 (.int .i64)) (.no)),(5,.val (.int .i64) (.no))],[(.ret,[(4,.val (.bool) (.no))]),((.exit 0),[(4,.undef)])],uO⟩
def vj:FnK ab:=⟨[.val (.slice 8 (.int .i64)) (.no),.val (.slice 8 (.int .i64)) (.no)],Bool,fun a:Nh=>mH a.1 a.2.1,fun r:Bool=>(.val (.bool) r (.no),[.undef,.undef])⟩
def HA:Qt:=aG [(11,K2)]
def Xq:=gx ⟨[0,1,2,3,4,8],[],[true],[]⟩ Tryz.f3
def Cc:FnK ab:=⟨[.val (.named .TCore) (.no),.val (.named .TCoh) (.no)],Bool,fun a:gN=>Ay a.1 a.2.1,fun r:Bool=>(.val (.bool) r (.no),[.undef,.undef])⟩
def ag6:Tt:=tbl [(5,N2),(6,u6),(7,vj),(8,nA),(9,vi)]
def oQ:=gx ⟨[0,1,2,3,4,5,16,35],[],[true],[(15,[(3,.any),(4,.any),(5,.any)]),(16,[(3,.any)]),(17,[(3,.any),(4,.any),(5,.any)])]⟩ Tryz.f11
def K3:MarkK ab:=⟨[(3,.val (.slice 8 (.int .i64)) (.yes 0)),(4,.val (.slice 8 (.int .i64)) (.yes 0)),(5,.val (.int .i64) (.no))],[((.exit 0),[(3,.val (.slice 8 (.int .i64)) (.yes 0))])],Me⟩
def Cd:FnK ab:=⟨[.val (.named .TDuo) (.no)],Sl 8 (W .i64),fun a:kL=>JC a.1,fun r:Sl 8 (W .i64)=>(.val (.slice 8 (.int .i64)) r (.no),[.undef])⟩
def II:Tt:=tbl [(9,vi)]
def HB:Qt:=aG [(15,K3)]
def oS:=gx ⟨[0,1,2,3,7,13,24],[],[true],[(11,[(1,.any),(3,.any)]),(12,[(1,.any),(2,.any)]),(13,[(1,.any),(3,.any)])]⟩ Tryz.f4
def K4:MarkK ab:=⟨[(1,.box (.named .TDuo) (.no)),(3,.val (.int .i64) (.no))],[(.ret,[(1,.box (.named .TDuo) (.no)),(2,.val (.bool) (.no))]),((.exit 0),[(1,.box (.named .TDuo) (.no)),(2,.undef)])],L1⟩
def Ce:FnK ab:=⟨[.val (.named .TDuo) (.no)],Bool,fun a:kL=>RF a.1,fun r:Bool=>(.val (.bool) r (.no),[.undef])⟩
def IJ:Tt:=tbl [(5,N2),(6,u6),(7,vj),(10,u5),(11,Cd)]
def HC:Qt:=aG [(11,K4)]
end
end Go.Proofs.YtnpgljilkkipkaaGreat
