/- YtnpgljilkkipkaaGreatTabs: the tables of functions and marks. No statement of the seat is proved here. -/
import Derived.Test.YtnpgljilkkipkaaGreatTrees
import Derived.Test.YtnpgljilkkipkaaGreatChecked
import Derived.Test.YtnpgljilkkipkaaGreatA2G
set_option linter.unusedSimpArgs false
set_option linter.unusedVariables false
set_option maxRecDepth 100000
namespace Go.Proofs.YtnpgljilkkipkaaGreat
open Go Go.A2
noncomputable section
abbrev Tt:=Nat→List (FnK ab)
abbrev Qt:=Nat→Option (MarkK ab)
def t0:Tt:=tbl []
def q0:Qt:=fun _=>none
def gx (x:FnX) (f:Func):AFn ab:=gOf Tryz.prog cx x f
abbrev ar:=dX (X:=ab) Tryz.prog
abbrev Mo (t:Tt) (q:Qt) (g:AFn ab):=dY (ij t) (dS q) g.keep aa
def g1:=gx ⟨[0,1,2],[],[true],[]⟩ Tryz.f12
def N1:FnK ab:=⟨[.val (.named .TCore) (.no)],Bool,fun a:Y0=>sW a.1,fun r:Bool=>(.val (.bool) r (.no),[.undef])⟩
def g2:=gx ⟨[0,1,2,3,4,5,6,21,26,36,45,58],[],[true],[(11,[(3,.any),(5,.any)]),(12,[(4,.any)]),(13,[(3,.any),(5,.any)]),(26,[(3,.any),(5,.any),(6,.any)]),(27,[(3,.any),(4,.any),(5,.any)]),(28,[(3,.any),(5,.any),(6,.any)])]⟩ Tryz.f5
def Ll:MarkK ab:=⟨[(3,.box (.named .TCoh) (.no)),(5,.val (.int .i64) (.no)),(6,.val (.int .i64) (.no))],[(.ret,[(3,.box (.named .TCoh) (.no)),(4,.val (.bool) (.no)),(5,.val (.int .i64) (.no))]),((.exit 2),[(3,.box (.named .TCoh) (.no)),(4,.undef),(5,.val (.int .i64) (.no))])],uo⟩
def Lk:MarkK ab:=⟨[(3,.box (.named .TCoh) (.no)),(5,.val (.int .i64) (.no))],[(.ret,[(4,.val (.bool) (.no))]),((.exit 0),[(4,.undef)])],um⟩
def N2:FnK ab:=⟨[.val (.named .TCore) (.no),.val (.named .TCoh) (.no)],Bool,fun a:gQ=>gB a.1 a.2.1,fun r:Bool=>(.val (.bool) r (.no),[.undef,.undef])⟩
def t2:Tt:=tbl [(12,N1)]
def q2:Qt:=aG [(26,Ll),(11,Lk)]
def g3:=gx ⟨[0],[],[true],[]⟩ Tryz.f14
def N3:FnK ab:=⟨[],TConf,fun a:Unit=>JJ,fun r:TConf=>(.val (.named .TConf) r (.no),[])⟩
def g4:=gx ⟨[0,1,2,6],[],[true],[]⟩ Tryz.f81
def N4:FnK ab:=⟨[.val (.int .i64) (.no),.val (.int .i64) (.no),.val (.int .i64) (.no)],Bool,fun a:Y6=>bW a.1 a.2.1 a.2.2.1,fun r:Bool=>(.val (.bool) r (.no),[.undef,.undef,.undef])⟩
def g5:=gx ⟨[0,1,2,3,4,5,6,113],[],[true],[(3,[(1,.any),(3,.any)]),(4,[(2,.any)]),(5,[(1,.any),(3,.any),(4,.any)]),(6,[(2,.any)]),(7,[(1,.any),(3,.any),(4,.any),(5,.any)]),(8,[(2,.any)]),(9,[(3,.any),(4,.any),(5,.any),(6,.any)]),(10,[(2,.any)]),(11,[(113,.any)]),(12,[(2,.any)]),(15,[]),(16,[(2,.any)])]⟩ Tryz.f31
def LG:MarkK ab:=⟨[(113,.val (.bool) (.no))],[(.ret,[(2,.val (.int .i64) (.no))]),(.normal,[(2,.undef)])],kv⟩
def LH:MarkK ab:=⟨[],[(.ret,[(2,.val (.int .i64) (.no))])],ky⟩
def LM:MarkK ab:=⟨[(3,.val (.bool) (.no)),(4,.val (.bool) (.no)),(5,.val (.bool) (.no)),(6,.val (.bool) (.no))],[(.ret,[(2,.val (.int .i64) (.no))])],gI⟩
def LL:MarkK ab:=⟨[(1,.box (.named .TConf) (.no)),(3,.val (.bool) (.no)),(4,.val (.bool) (.no)),(5,.val (.bool) (.no))],[(.ret,[(2,.val (.int .i64) (.no))])],gH⟩
def LJ:MarkK ab:=⟨[(1,.box (.named .TConf) (.no)),(3,.val (.bool) (.no)),(4,.val (.bool) (.no))],[(.ret,[(2,.val (.int .i64) (.no))])],fq⟩
def LI:MarkK ab:=⟨[(1,.box (.named .TConf) (.no)),(3,.val (.bool) (.no))],[(.ret,[(2,.val (.int .i64) (.no))])],iR⟩
def N5:FnK ab:=⟨[.val (.named .TConf) (.no)],W .i64,fun a:Y5=>mI a.1,fun r:W .i64=>(.val (.int .i64) r (.no),[.undef])⟩
def t5:Tt:=tbl [(81,N4)]
def q5:Qt:=aG [(11,LG),(15,LH),(9,LM),(7,LL),(5,LJ),(3,LI)]
def g6:=gx ⟨[0,2],[],[true],[]⟩ Tryz.f75
def N6:FnK ab:=⟨[.val (.slice 1 (.int .u8)) (.no)],Bool,fun a:cV=>mr a.1,fun r:Bool=>(.val (.bool) r (.no),[.undef])⟩
def g7:=gx ⟨[0,2,3,4,6,8,11,18],[],[true],[]⟩ Tryz.f82
def N7:FnK ab:=⟨[.val (.int .i64) (.no)],W .u32,fun a:Y7=>mu a.1,fun r:W .u32=>(.val (.int .u32) r (.no),[.undef])⟩
def g8:=gx ⟨[0,1,2,3,23,25,41],[],[true],[(11,[(1,.any),(3,.any)]),(12,[(2,.any)]),(13,[(1,.any),(3,.any)])]⟩ Tryz.f32
def LZ:MarkK ab:=⟨[(1,.box (.named .TMach) (.no)),(3,.val (.int .i64) (.no))],[(.ret,[(2,.val (.bool) (.no))]),((.exit 0),[(2,.undef)])],L6⟩
def N8:FnK ab:=⟨[.val (.named .TMach) (.no)],Bool,fun a:TMach×Unit=>Jw a.1,fun r:Bool=>(.val (.bool) r (.no),[.undef])⟩
def t8:Tt:=tbl [(75,N6),(82,N7)]
def q8:Qt:=aG [(11,LZ)]
def g9:=gx ⟨[0,1,2],[],[true],[]⟩ Tryz.f84
def N9:FnK ab:=⟨[.val (.named .TConf) (.no)],W .i64,fun a:Y5=>AR a.1,fun r:W .i64=>(.val (.int .i64) r (.no),[.undef])⟩
def WT:=gx ⟨[0,2],[],[true],[]⟩ Tryz.f165
def Bb:FnK ab:=⟨[.val (.int .i64) (.no)],W .i64,fun a:Y7=>Jx a.1,fun r:W .i64=>(.val (.int .i64) r (.no),[.undef])⟩
def ot:=gx ⟨[0,2,3,4,8],[],[true],[(7,[(0,.any),(3,.any),(4,.any)]),(8,[(3,.any)]),(9,[(0,.any),(3,.any),(4,.any)])]⟩ Tryz.f136
def JU:MarkK ab:=⟨[(0,.val (.int .i64) (.no)),(3,.val (.int .i64) (.no)),(4,.val (.int .i64) (.no))],[((.exit 0),[(3,.val (.int .i64) (.no))])],L8⟩
def vk:FnK ab:=⟨[.val (.int .i64) (.no)],W .i64,fun a:Y7=>kd a.1,fun r:W .i64=>(.val (.int .i64) r (.no),[.undef])⟩
def t11:Tt:=tbl [(165,Bb)]
def Hn:Qt:=aG [(7,JU)]
def oC:=gx ⟨[0,2,3,4,8],[],[true],[(7,[(0,.any),(3,.own),(4,.any)]),(8,[(3,.any)]),(9,[(0,.any),(3,.own),(4,.any)])]⟩ Tryz.f83
def J2:MarkK ab:=⟨[(0,.val (.int .i64) (.no)),(3,.val (.slice 1 (.int .u8)) (.yes 0)),(4,.val (.int .i64) (.no))],[((.exit 0),[(3,.val (.slice 1 (.int .u8)) (.yes 0))])],L7⟩
def Bz:FnK ab:=⟨[.val (.int .i64) (.no)],Sl 1 (W .u8),fun a:Y7=>AO a.1,fun r:Sl 1 (W .u8)=>(.val (.slice 1 (.int .u8)) r (.no),[.undef])⟩
def t12:Tt:=tbl [(136,vk)]
def Hr:Qt:=aG [(7,J2)]
def Xd:=gx ⟨[0,1,2,6,9,13],[],[true],[]⟩ Tryz.f137
def BG:FnK ab:=⟨[.val (.int .i64) (.no),.val (.int .i64) (.no),.val (.int .i64) (.no)],W .i64,fun a:Y6=>Jy a.1 a.2.1 a.2.2.1,fun r:W .i64=>(.val (.int .i64) r (.no),[.undef,.undef,.undef])⟩
def Xh:=gx ⟨[0,2],[],[true],[]⟩ Tryz.f85
def BP:FnK ab:=⟨[.val (.int .i64) (.no)],Sl 16 (TBtb),fun a:Y7=>AP a.1,fun r:Sl 16 (TBtb)=>(.val (.slice 16 (.named .TBtb)) r (.no),[.undef])⟩
def t14:Tt:=tbl [(137,BG)]
def oO:=gx ⟨[0,2,3,4,12],[],[true],[(7,[(0,.any),(3,.any),(4,.any)]),(8,[(3,.any)]),(9,[(0,.any),(3,.any),(4,.any)])]⟩ Tryz.f86
def KK:MarkK ab:=⟨[(0,.val (.int .i64) (.no)),(3,.val (.slice 4 (.int .u32)) (.yes 0)),(4,.val (.int .i64) (.no))],[((.exit 0),[(3,.val (.slice 4 (.int .u32)) (.yes 0))])],L9⟩
def BZ:FnK ab:=⟨[.val (.int .i64) (.no)],Sl 4 (W .u32),fun a:Y7=>AQ a.1,fun r:Sl 4 (W .u32)=>(.val (.slice 4 (.int .u32)) r (.no),[.undef])⟩
def HD:Qt:=aG [(7,KK)]
def Xo:=gx ⟨[0,1,2],[],[true],[]⟩ Tryz.f33
def vw:FnK ab:=⟨[.val (.named .TConf) (.no)],TPred,fun a:Y5=>mw a.1,fun r:TPred=>(.val (.named .TPred) r (.no),[.undef])⟩
def t16:Tt:=tbl [(83,Bz),(84,N9),(85,BP),(86,BZ)]
def Xt:=gx ⟨[0,1,2,6,9,13],[],[true],[]⟩ Tryz.f87
def Ch:FnK ab:=⟨[.val (.int .i64) (.no),.val (.int .i64) (.no),.val (.int .i64) (.no)],W .i64,fun a:Y6=>JA a.1 a.2.1 a.2.2.1,fun r:W .i64=>(.val (.int .i64) r (.no),[.undef,.undef,.undef])⟩
def Xx:=gx ⟨[0,2],[],[true],[]⟩ Tryz.f34
def Cq:FnK ab:=⟨[.val (.int .i64) (.no)],Sl 24 (TTlb),fun a:Y7=>Jz a.1,fun r:Sl 24 (TTlb)=>(.val (.slice 24 (.named .TTlb)) r (.no),[.undef])⟩
def t18:Tt:=tbl [(87,Ch)]
def pc:=gx ⟨[0,2,3,4,11],[],[true],[(7,[(0,.any),(3,.own),(4,.any)]),(8,[(3,.any)]),(9,[(0,.any),(3,.own),(4,.any)])]⟩ Tryz.f35
def Lc:MarkK ab:=⟨[(0,.val (.int .i64) (.no)),(3,.val (.slice 1 (.int .u8)) (.yes 0)),(4,.val (.int .i64) (.no))],[((.exit 0),[(3,.val (.slice 1 (.int .u8)) (.yes 0))])],Me⟩
def Cr:FnK ab:=⟨[.val (.int .i64) (.no)],Sl 1 (W .u8),fun a:Y7=>JG a.1,fun r:Sl 1 (W .u8)=>(.val (.slice 1 (.int .u8)) r (.no),[.undef])⟩
def HP:Qt:=aG [(7,Lc)]
def pe:=gx ⟨[0,1,2,5],[],[true],[(7,[(0,.any),(1,.any),(2,.any)]),(8,[(0,.any),(1,.any)]),(9,[(0,.any),(1,.any),(2,.any)])]⟩ Tryz.f88
def Ld:MarkK ab:=⟨[(0,.box (.arr 16 (.int .i64)) (.no)),(1,.box (.arr 16 (.int .i64)) (.no)),(2,.val (.int .i64) (.no))],[((.exit 0),[(0,.box (.arr 16 (.int .i64)) (.no)),(1,.box (.arr 16 (.int .i64)) (.no))])],Mb⟩
def Cs:FnK ab:=⟨[],Arr 16 (W .i64),fun a:Unit=>AU,fun r:Arr 16 (W .i64)=>(.val (.arr 16 (.int .i64)) r (.no),[])⟩
def HQ:Qt:=aG [(7,Ld)]
def Xy:=gx ⟨[0,1,2,6,9,13],[],[true],[]⟩ Tryz.f138
def Ct:FnK ab:=⟨[.val (.int .i64) (.no),.val (.int .i64) (.no),.val (.int .i64) (.no)],W .i64,fun a:Y6=>AS a.1 a.2.1 a.2.2.1,fun r:W .i64=>(.val (.int .i64) r (.no),[.undef,.undef,.undef])⟩
def pf:=gx ⟨[0,1,4,5,6,7,8,23],[],[true],[(11,[(4,.any),(6,.any),(7,.any),(8,.any)]),(12,[(4,.any),(7,.any)]),(13,[(4,.any),(6,.any),(7,.any),(8,.any)])]⟩ Tryz.f89
def Lf:MarkK ab:=⟨[(4,.box (.named .TFree) (.st [.yes 0,.no,.no])),(6,.val (.int .i64) (.no)),(7,.box (.named .TFree) (.st [.yes 0,.no,.no])),(8,.val (.int .i64) (.no))],[((.exit 0),[(4,.box (.named .TFree) (.st [.yes 0,.no,.no])),(7,.box (.named .TFree) (.st [.yes 0,.no,.no]))])],Ma⟩
def Cu:FnK ab:=⟨[.val (.int .i64) (.no),.val (.int .i64) (.no)],TFree,fun a:Y9=>JB a.1 a.2.1,fun r:TFree=>(.val (.named .TFree) r (.no),[.undef,.undef])⟩
def t22:Tt:=tbl [(138,Ct)]
def HR:Qt:=aG [(11,Lf)]
def Xz:=gx ⟨[0,2],[],[true],[]⟩ Tryz.f36
def Cv:FnK ab:=⟨[.val (.int .i64) (.no)],TNames,fun a:Y7=>JF a.1,fun r:TNames=>(.val (.named .TNames) r (.no),[.undef])⟩
def t23:Tt:=tbl [(88,Cs),(89,Cu)]
def pg:=gx ⟨[0,2,3,4,11],[],[true],[(7,[(0,.any),(2,.any),(3,.any),(4,.any)]),(8,[(2,.any),(3,.any)]),(9,[(0,.any),(2,.any),(3,.any),(4,.any)])]⟩ Tryz.f37
def Lg:MarkK ab:=⟨[(0,.val (.int .i64) (.no)),(2,.box (.named .TPhys) (.st [.yes 0,.yes 0])),(3,.box (.named .TPhys) (.st [.yes 0,.yes 0])),(4,.val (.int .i64) (.no))],[((.exit 0),[(2,.box (.named .TPhys) (.st [.yes 0,.yes 0])),(3,.box (.named .TPhys) (.st [.yes 0,.yes 0]))])],Mc⟩
def Cw:FnK ab:=⟨[.val (.int .i64) (.no)],TPhys,fun a:Y7=>JC a.1,fun r:TPhys=>(.val (.named .TPhys) r (.no),[.undef])⟩
def HS:Qt:=aG [(7,Lg)]
def XA:=gx ⟨[0,1,2],[],[false],[]⟩ Tryz.f90
def Cy:FnK ab:=⟨[.val (.named .TPhys) (.no)],TPhys,fun a:TPhys×Unit=>JE a.1,fun r:TPhys=>(.val (.named .TPhys) r (.st [.yes 0,.yes 0]),[.undef])⟩
def XB:=gx ⟨[0,1,2,4],[],[true],[]⟩ Tryz.f91
def vA:FnK ab:=⟨[.val (.named .TPhys) (.no),.val (.int .i64) (.no)],Bool,fun a:gW=>AW a.1 a.2.1,fun r:Bool=>(.val (.bool) r (.no),[.undef,.undef])⟩
def XC:=gx ⟨[0,1,2,3,6,7,12],[],[true],[]⟩ Tryz.f38
def Cz:FnK ab:=⟨[.val (.named .TPhys) (.no),.val (.int .i64) (.no),.val (.int .u32) (.no)],TPhys,fun a:Oh=>JD a.1 a.2.1 a.2.2.1,fun r:TPhys=>(.val (.named .TPhys) r (.no),[.undef,.undef,.undef])⟩
def t27:Tt:=tbl [(90,Cy),(91,vA)]
def ph:=gx ⟨[0,1,2,3,4,5,6,7,10,14,47],[],[true,true],[(29,[(3,.any),(4,.any),(6,.any),(7,.any)]),(30,[(4,.any),(6,.any)]),(31,[(3,.any),(4,.any),(6,.any),(7,.any)])]⟩ Tryz.f13
def Lh:MarkK ab:=⟨[(3,.box (.named .TMach) (.no)),(4,.box (.named .TCore) (.st [.no,.no,.yes 0,.yes 0,.no,.no,.no,.yes 0,.no,.yes 0,.no,.no,.yes 0,.yes 0,.yes 0,.yes 0,.yes 0,.yes 0,.yes 0,.no,.no])),(6,.box (.named .TCore) (.st [.no,.no,.no,.no,.no,.no,.no,.no,.no,.yes 0,.no,.no,.yes 0,.yes 0,.yes 0,.yes 0,.yes 0,.yes 0,.no,.no,.no])),(7,.val (.int .i64) (.no))],[((.exit 0),[(4,.box (.named .TCore) (.st [.no,.no,.yes 0,.yes 0,.no,.no,.no,.yes 0,.no,.yes 0,.no,.no,.yes 0,.yes 0,.yes 0,.yes 0,.yes 0,.yes 0,.yes 0,.no,.no])),(6,.box (.named .TCore) (.st [.no,.no,.no,.no,.no,.no,.no,.no,.no,.yes 0,.no,.no,.yes 0,.yes 0,.yes 0,.yes 0,.yes 0,.yes 0,.no,.no,.no]))])],Mh⟩
def CA:FnK ab:=⟨[.val (.named .TConf) (.no),.val (.named .TMach) (.no)],TCore×W .i64,fun a:TConf×TMach×Unit=>JI a.1 a.2.1,fun r:TCore×W .i64=>(.tup [.val (.named .TCore) r.1 (.no),.val (.int .i64) r.2 (.no)],[.undef,.undef])⟩
def t28:Tt:=tbl [(31,N5),(32,N8),(33,vw),(34,Cq),(35,Cr),(36,Cv),(37,Cw),(38,Cz)]
def HT:Qt:=aG [(29,Lh)]
def jq:=gx ⟨[0,1,4,5,6,7,8,13,20],[],[true],[(7,[(0,.any),(1,.any),(4,.any),(5,.any),(6,.any)]),(8,[(4,.any),(5,.any)]),(9,[(0,.any),(1,.any),(4,.any),(5,.any),(6,.any)]),(18,[(0,.any),(1,.any),(4,.any),(5,.any),(6,.any),(7,.own),(8,.any)]),(19,[(0,.any),(1,.any),(4,.any),(5,.any),(6,.any),(7,.any)]),(20,[(0,.any),(1,.any),(4,.any),(5,.any),(6,.any),(7,.own),(8,.any)])]⟩ Tryz.f39
def Li:MarkK ab:=⟨[(0,.val (.int .i64) (.no)),(1,.val (.int .i64) (.no)),(4,.box (.named .TCache) (.st [.yes 0])),(5,.box (.named .TCache) (.st [.yes 0])),(6,.val (.int .i64) (.no)),(7,.val (.slice 40 (.named .TWay)) (.yes 0)),(8,.val (.int .i64) (.no))],[((.exit 2),[(0,.val (.int .i64) (.no)),(1,.val (.int .i64) (.no)),(4,.box (.named .TCache) (.st [.yes 0])),(5,.box (.named .TCache) (.st [.yes 0])),(6,.val (.int .i64) (.no)),(7,.val (.slice 40 (.named .TWay)) (.yes 0))])],Mf⟩
def Lj:MarkK ab:=⟨[(0,.val (.int .i64) (.no)),(1,.val (.int .i64) (.no)),(4,.box (.named .TCache) (.st [.yes 0])),(5,.box (.named .TCache) (.st [.yes 0])),(6,.val (.int .i64) (.no))],[((.exit 0),[(4,.box (.named .TCache) (.st [.yes 0])),(5,.box (.named .TCache) (.st [.yes 0]))])],Mg⟩
def CB:FnK ab:=⟨[.val (.int .i64) (.no),.val (.int .i64) (.no)],TCache,fun a:Y9=>AY a.1 a.2.1,fun r:TCache=>(.val (.named .TCache) r (.no),[.undef,.undef])⟩
def zk:Qt:=aG [(18,Li),(7,Lj)]
def XD:=gx ⟨[0,1,2,3,8,9,17],[],[true],[]⟩ Tryz.f15
def CC:FnK ab:=⟨[.val (.slice 1 (.int .u8)) (.no),.val (.int .i64) (.no),.val (.int .i64) (.no),.val (.int .i64) (.no)],TCoh,fun a:Nk=>JH a.1 a.2.1 a.2.2.1 a.2.2.2.1,fun r:TCoh=>(.val (.named .TCoh) r (.no),[.undef,.undef,.undef,.undef])⟩
def t30:Tt:=tbl [(39,CB)]
def XE:=gx ⟨[0,1,2],[],[true],[]⟩ Tryz.f140
def CD:FnK ab:=⟨[.val (.named .TConf) (.no)],Sl 24 (TBound),fun a:Y5=>AJ a.1,fun r:Sl 24 (TBound)=>(.val (.slice 24 (.named .TBound)) r (.no),[.undef])⟩
def XF:=gx ⟨[0,1,2],[],[true],[]⟩ Tryz.f141
def CE:FnK ab:=⟨[.val (.named .TBound) (.no)],Bool,fun a:TBound×Unit=>sN a.1,fun r:Bool=>(.val (.bool) r (.no),[.undef])⟩
def pj:=gx ⟨[0,1,4,5,7,8,9,16],[],[true],[(5,[(0,.any),(1,.any),(7,.any),(8,.any)]),(6,[(4,.any)]),(7,[(0,.any),(1,.any),(7,.any),(8,.any)])]⟩ Tryz.f166
def Lm:MarkK ab:=⟨[(0,.val (.slice 24 (.named .TBound)) (.no)),(1,.fn 141 [] []),(7,.val (.int .i64) (.no)),(8,.val (.int .i64) (.no))],[(.ret,[(4,.val (.int .i64) (.no))]),((.exit 0),[(4,.undef)])],vf⟩
def CF:FnK ab:=⟨[.val (.slice 24 (.named .TBound)) (.no),.fn 141 [] []],W .i64,fun a:xD=>A7 a.1,fun r:W .i64=>(.val (.int .i64) r (.no),[.undef,.undef])⟩
def t33:Tt:=tbl [(141,CE)]
def HU:Qt:=aG [(5,Lm)]
def XG:=gx ⟨[0,1,4],[],[true],[]⟩ Tryz.f139
def CG:FnK ab:=⟨[.val (.slice 24 (.named .TBound)) (.no),.fn 141 [] []],Bool,fun a:xD=>tN a.1,fun r:Bool=>(.val (.bool) r (.no),[.undef,.undef])⟩
def t34:Tt:=tbl [(166,CF)]
def XH:=gx ⟨[0,1,2,5],[],[true],[]⟩ Tryz.f92
def CH:FnK ab:=⟨[.val (.named .TConf) (.no)],W .i64,fun a:Y5=>sM a.1,fun r:W .i64=>(.val (.int .i64) r (.no),[.undef])⟩
def t35:Tt:=tbl [(139,CG),(140,CD)]
def XI:=gx ⟨[0,1,2,3,56],[],[true],[]⟩ Tryz.f40
def CI:FnK ab:=⟨[.val (.named .TCore) (.no)],Bool,fun a:Y0=>sS a.1,fun r:Bool=>(.val (.bool) r (.no),[.undef])⟩
def t36:Tt:=tbl [(92,CH)]
def jr:=gx ⟨[0,1,2,3,5,7,9,10,11,12,22,23,24,25],[],[true,true],[(5,[(1,.any),(2,.own),(3,.own),(9,.any),(10,.any),(11,.any)]),(6,[(1,.any),(2,.any),(3,.own)]),(7,[(1,.any),(2,.own),(3,.own),(9,.any),(10,.any),(11,.any)]),(20,[(2,.any),(3,.own),(22,.any),(23,.any),(24,.any)]),(21,[(2,.any),(3,.any)]),(22,[(2,.any),(3,.own),(22,.any),(23,.any),(24,.any)])]⟩ Tryz.f41
def Lp:MarkK ab:=⟨[(1,.box (.named .TCore) (.no)),(2,.val (.slice 216 (.named .TRen)) (.yes 0)),(3,.val (.slice 216 (.named .TRen)) (.yes 0)),(9,.val (.slice 224 (.named .TIq)) (.no)),(10,.val (.int .i64) (.no)),(11,.val (.int .i64) (.no))],[((.exit 0),[(1,.box (.named .TCore) (.no)),(2,.val (.slice 216 (.named .TRen)) (.yes 0)),(3,.val (.slice 216 (.named .TRen)) (.yes 0))])],ui⟩
def Ln:MarkK ab:=⟨[(2,.val (.slice 216 (.named .TRen)) (.yes 0)),(3,.val (.slice 216 (.named .TRen)) (.yes 0)),(22,.val (.slice 256 (.named .TFlight)) (.no)),(23,.val (.int .i64) (.no)),(24,.val (.int .i64) (.no))],[((.exit 2),[(2,.val (.slice 216 (.named .TRen)) (.yes 0)),(3,.val (.slice 216 (.named .TRen)) (.yes 0))])],uh⟩
def CJ:FnK ab:=⟨[.val (.named .TCore) (.no)],Sl 216 (TRen)×Sl 216 (TRen),fun a:Y0=>sQ a.1,fun r:Sl 216 (TRen)×Sl 216 (TRen)=>(.tup [.val (.slice 216 (.named .TRen)) r.1 (.no),.val (.slice 216 (.named .TRen)) r.2 (.no)],[.undef])⟩
def zl:Qt:=aG [(5,Lp),(20,Ln)]
def pk:=gx ⟨[0,2,3,4,6,7,8,9,10,25,34],[],[true],[(7,[(3,.any),(4,.any),(7,.any),(8,.any),(9,.any)]),(8,[(2,.any),(4,.any)]),(9,[(3,.any),(4,.any),(7,.any),(8,.any),(9,.any)])]⟩ Tryz.f93
def Lr:MarkK ab:=⟨[(3,.val (.int .u64) (.no)),(4,.val (.int .i64) (.no)),(7,.val (.slice 248 (.named .TRob)) (.no)),(8,.val (.int .i64) (.no)),(9,.val (.int .i64) (.no))],[(.ret,[(2,.val (.bool) (.no)),(4,.val (.int .i64) (.no))]),((.exit 0),[(2,.undef),(4,.val (.int .i64) (.no))])],kG⟩
def CL:FnK ab:=⟨[.val (.slice 248 (.named .TRob)) (.no)],Bool,fun a:xR=>tH a.1,fun r:Bool=>(.val (.bool) r (.no),[.undef])⟩
def HV:Qt:=aG [(7,Lr)]
def XJ:=gx ⟨[0,1,2,3],[],[true],[]⟩ Tryz.f42
def CM:FnK ab:=⟨[.val (.named .TCore) (.no)],Bool,fun a:Y0=>sP a.1,fun r:Bool=>(.val (.bool) r (.no),[.undef])⟩
def t39:Tt:=tbl [(93,CL)]
def pn:=gx ⟨[0,1,2,3,5,7,8,9,10],[],[true],[(7,[(3,.own),(7,.any),(8,.any),(9,.any)]),(8,[(3,.any)]),(9,[(3,.own),(7,.any),(8,.any),(9,.any)])]⟩ Tryz.f44
def Ls:MarkK ab:=⟨[(3,.val (.slice 216 (.named .TRen)) (.yes 0)),(7,.val (.slice 248 (.named .TRob)) (.no)),(8,.val (.int .i64) (.no)),(9,.val (.int .i64) (.no))],[((.exit 0),[(3,.val (.slice 216 (.named .TRen)) (.yes 0))])],uj⟩
def CN:FnK ab:=⟨[.val (.named .TCore) (.no)],Sl 216 (TRen),fun a:Y0=>sR a.1,fun r:Sl 216 (TRen)=>(.val (.slice 216 (.named .TRen)) r (.no),[.undef])⟩
def HW:Qt:=aG [(7,Ls)]
def js:=gx ⟨[0,1,2,4,5,6,9,11,16,25,36],[],[true],[(11,[(1,.any),(2,.any),(5,.any)]),(12,[(4,.any)]),(13,[(1,.any),(2,.any),(5,.any)]),(20,[(1,.any),(2,.any),(5,.any),(6,.any)]),(21,[(1,.any),(2,.any),(4,.any),(5,.any)]),(22,[(1,.any),(2,.any),(5,.any),(6,.any)])]⟩ Tryz.f94
def Lv:MarkK ab:=⟨[(1,.val (.int .i64) (.no)),(2,.box (.arr 16 (.int .i64)) (.no)),(5,.val (.int .i64) (.no)),(6,.val (.int .i64) (.no))],[(.ret,[(1,.val (.int .i64) (.no)),(2,.box (.arr 16 (.int .i64)) (.no)),(4,.val (.bool) (.no)),(5,.val (.int .i64) (.no))]),((.exit 2),[(1,.val (.int .i64) (.no)),(2,.box (.arr 16 (.int .i64)) (.no)),(4,.undef),(5,.val (.int .i64) (.no))])],mX⟩
def Lu:MarkK ab:=⟨[(1,.val (.int .i64) (.no)),(2,.box (.arr 16 (.int .i64)) (.no)),(5,.val (.int .i64) (.no))],[(.ret,[(4,.val (.bool) (.no))]),((.exit 0),[(4,.undef)])],mW⟩
def CO:FnK ab:=⟨[.val (.arr 16 (.int .i64)) (.no),.val (.int .i64) (.no)],Bool,fun a:kK=>mn a.1 a.2.1,fun r:Bool=>(.val (.bool) r (.no),[.undef,.undef])⟩
def zn:Qt:=aG [(20,Lv),(11,Lu)]
def XK:=gx ⟨[0,1,2,3],[],[true],[]⟩ Tryz.f142
def vB:FnK ab:=⟨[.val (.named .TFree) (.no)],Bool,fun a:gX=>mi a.1,fun r:Bool=>(.val (.bool) r (.no),[.undef])⟩
def XL:=gx ⟨[0,1,2,4,5],[],[true],[]⟩ Tryz.f143
def CP:FnK ab:=⟨[.val (.named .TFree) (.no),.val (.int .i64) (.no)],W .i64,fun a:kJ=>sV a.1 a.2.1,fun r:W .i64=>(.val (.int .i64) r (.no),[.undef,.undef])⟩
def po:=gx ⟨[0,1,2,3,4,5,8,12,13,14],[],[true],[(15,[(1,.any),(3,.any),(4,.own),(12,.any),(13,.any)]),(16,[(4,.any)]),(17,[(1,.any),(3,.any),(4,.own),(12,.any),(13,.any)])]⟩ Tryz.f98
def Lw:MarkK ab:=⟨[(1,.box (.named .TFree) (.no)),(3,.fn 143 [.val (.named .TFree) (.no)] []),(4,.val (.slice 8 (.int .i64)) (.yes 0)),(12,.val (.int .i64) (.no)),(13,.val (.int .i64) (.no))],[((.exit 0),[(4,.val (.slice 8 (.int .i64)) (.yes 0))])],mR⟩
def vD:FnK ab:=⟨[.val (.named .TFree) (.no)],Sl 8 (W .i64),fun a:gX=>mh a.1,fun r:Sl 8 (W .i64)=>(.val (.slice 8 (.int .i64)) r (.no),[.undef])⟩
def t44:Tt:=tbl [(142,vB),(143,CP)]
def HX:Qt:=aG [(15,Lw)]
def pq:=gx ⟨[0,1,2,4,5,7,17,19,20,21,22,36],[],[true],[(13,[(1,.any),(5,.any),(19,.any),(20,.any),(21,.any)]),(14,[(4,.any)]),(15,[(1,.any),(5,.any),(19,.any),(20,.any),(21,.any)])]⟩ Tryz.f95
def Lx:MarkK ab:=⟨[(1,.val (.int .i64) (.no)),(5,.box (.arr 96 (.bool)) (.no)),(19,.val (.slice 8 (.int .i64)) (.no)),(20,.val (.int .i64) (.no)),(21,.val (.int .i64) (.no))],[(.ret,[(4,.val (.bool) (.no))]),((.exit 0),[(4,.undef)])],mS⟩
def CQ:FnK ab:=⟨[.val (.named .TFree) (.no),.val (.int .i64) (.no)],Bool,fun a:kJ=>sU a.1 a.2.1,fun r:Bool=>(.val (.bool) r (.no),[.undef,.undef])⟩
def t45:Tt:=tbl [(98,vD),(142,vB)]
def HY:Qt:=aG [(13,Lx)]
def XM:=gx ⟨[0,1,2,3,11],[1,2,3],[],[]⟩ Tryz.f96
def vE:FnK ab:=⟨[.val (.int .i64) (.no),.box (.int .i64) (.no),.box (.bool) (.no),.box (.arr 96 (.int .i64)) (.no)],W .i64×Bool×Arr 96 (W .i64),fun a:Nj=>kl a.1 a.2.1 a.2.2.1 a.2.2.2.1,fun r:W .i64×Bool×Arr 96 (W .i64)=>(.tup [],[.undef,.box 0 (.int .i64) r.1 (.no),.box 0 (.bool) r.2.1 (.no),.box 0 (.arr 96 (.int .i64)) r.2.2 (.no)])⟩
def XN:=gx ⟨[0,1,2],[],[true],[]⟩ Tryz.f144
def CR:FnK ab:=⟨[.val (.named .TUop) (.no)],Bool,fun a:vT=>tG a.1,fun r:Bool=>(.val (.bool) r (.no),[.undef])⟩
def XO:=gx ⟨[0,2],[],[true],[]⟩ Tryz.f167
def vF:FnK ab:=⟨[.val (.int .i64) (.no)],Bool,fun a:Y7=>mq a.1,fun r:Bool=>(.val (.bool) r (.no),[.undef])⟩
def XP:=gx ⟨[0,1,2,4,7],[],[true],[]⟩ Tryz.f145
def CS:FnK ab:=⟨[.val (.arr 16 (.int .i64)) (.no),.val (.int .i64) (.no)],W .i64,fun a:kK=>tf a.1 a.2.1,fun r:W .i64=>(.val (.int .i64) r (.no),[.undef,.undef])⟩
def t49:Tt:=tbl [(167,vF)]
def XQ:=gx ⟨[0,1,2,3,6,8],[],[true],[]⟩ Tryz.f146
def CT:FnK ab:=⟨[.val (.arr 16 (.int .i64)) (.no),.val (.int .i64) (.no),.val (.int .i64) (.no)],Arr 16 (W .i64),fun a:Od=>th a.1 a.2.1 a.2.2.1,fun r:Arr 16 (W .i64)=>(.val (.arr 16 (.int .i64)) r (.no),[.undef,.undef,.undef])⟩
def t50:Tt:=tbl [(167,vF)]
def pr:=gx ⟨[0,1,2,4,5,6,8,11,12,13,14,27,33,41,54],[],[true],[(7,[(2,.any),(5,.any),(6,.any),(11,.any),(12,.any),(13,.any)]),(8,[(2,.any),(4,.any),(5,.any)]),(9,[(2,.any),(5,.any),(6,.any),(11,.any),(12,.any),(13,.any)])]⟩ Tryz.f99
def Ly:MarkK ab:=⟨[(2,.box (.named .TNames) (.no)),(5,.box (.arr 16 (.int .i64)) (.no)),(6,.val (.int .u64) (.no)),(11,.val (.slice 216 (.named .TRen)) (.no)),(12,.val (.int .i64) (.no)),(13,.val (.int .i64) (.no))],[(.ret,[(2,.box (.named .TNames) (.no)),(4,.val (.bool) (.no)),(5,.box (.arr 16 (.int .i64)) (.no))]),((.exit 0),[(2,.box (.named .TNames) (.no)),(4,.undef),(5,.box (.arr 16 (.int .i64)) (.no))])],kF⟩
def CU:FnK ab:=⟨[.val (.named .TNames) (.no),.val (.slice 216 (.named .TRen)) (.no)],Bool,fun a:Oe=>tF a.1 a.2.1,fun r:Bool=>(.val (.bool) r (.no),[.undef,.undef])⟩
def t51:Tt:=tbl [(144,CR),(145,CS),(146,CT)]
def HZ:Qt:=aG [(7,Ly)]
def jt:=gx ⟨[0,1,2,3,4,5,6,7,12,20,30],[0,2,3,4,5],[],[(3,[(0,.any),(1,.any),(2,.any),(3,.any),(4,.any),(5,.any),(6,.any)]),(4,[(0,.any),(2,.any),(3,.any),(4,.any),(5,.any)]),(5,[(0,.any),(1,.any),(2,.any),(3,.any),(4,.any),(5,.any),(6,.any)]),(18,[(0,.any),(2,.any),(3,.any),(4,.any),(5,.any),(7,.any)]),(19,[(0,.any),(2,.any),(3,.any),(4,.any),(5,.any)]),(20,[(0,.any),(2,.any),(3,.any),(4,.any),(5,.any),(7,.any)])]⟩ Tryz.f97
def LA:MarkK ab:=⟨[(0,.box (.slice 216 (.named .TRen)) (.no)),(1,.rfn 96 [] [.ptr 2 [],.ptr 5 [],.ptr 4 []]),(2,.box (.int .i64) (.no)),(3,.box (.bool) (.no)),(4,.box (.arr 96 (.int .i64)) (.no)),(5,.box (.bool) (.no)),(6,.val (.int .i64) (.no))],[((.exit 0),[(0,.box (.slice 216 (.named .TRen)) (.no)),(2,.box (.int .i64) (.no)),(3,.box (.bool) (.no)),(4,.box (.arr 96 (.int .i64)) (.no)),(5,.box (.bool) (.no))])],kD⟩
def Lz:MarkK ab:=⟨[(0,.box (.slice 216 (.named .TRen)) (.no)),(2,.box (.int .i64) (.no)),(3,.box (.bool) (.no)),(4,.box (.arr 96 (.int .i64)) (.no)),(5,.box (.bool) (.no)),(7,.val (.int .i64) (.no))],[((.exit 2),[(0,.box (.slice 216 (.named .TRen)) (.no)),(2,.box (.int .i64) (.no)),(3,.box (.bool) (.no)),(4,.box (.arr 96 (.int .i64)) (.no)),(5,.box (.bool) (.no))])],kC⟩
def CV:FnK ab:=⟨[.box (.slice 216 (.named .TRen)) (.no),.rfn 96 [] [.ptr 2 [],.ptr 5 [],.ptr 4 []],.box (.int .i64) (.no),.box (.bool) (.no),.box (.arr 96 (.int .i64)) (.no),.box (.bool) (.no)],Sl 216 (TRen)×W .i64×Bool×Arr 96 (W .i64)×Bool,fun a:Nx=>A1 a.1 a.2.2.1 a.2.2.2.1 a.2.2.2.2.1 a.2.2.2.2.2.1,fun r:Sl 216 (TRen)×W .i64×Bool×Arr 96 (W .i64)×Bool=>(.tup [],[.box 0 (.slice 216 (.named .TRen)) r.1 (.no),.undef,.box 0 (.int .i64) r.2.1 (.no),.box 0 (.bool) r.2.2.1 (.no),.box 0 (.arr 96 (.int .i64)) r.2.2.2.1 (.no),.box 0 (.bool) r.2.2.2.2 (.no)])⟩
def t52:Tt:=tbl [(96,vE)]
def zo:Qt:=aG [(3,LA),(18,Lz)]
def ju:=gx ⟨[0,1,2,3,4,5,6,7,8,9,11,12,39,41,44,45,46,47,55],[],[true],[(19,[(3,.any),(4,.any),(5,.any),(6,.any),(7,.any),(8,.any),(9,.any),(41,.any),(44,.any),(45,.any),(46,.any)]),(20,[(3,.any),(4,.any),(5,.any),(6,.any),(7,.any),(8,.any),(9,.any),(41,.any)]),(21,[(3,.any),(4,.any),(5,.any),(6,.any),(7,.any),(8,.any),(9,.any),(41,.any),(44,.any),(45,.any),(46,.any)]),(34,[(3,.any),(4,.any),(5,.any),(6,.any),(7,.any),(8,.any),(9,.any),(12,.any),(41,.any)]),(35,[(3,.any),(4,.any),(5,.any),(6,.any),(7,.any),(8,.any),(41,.any)]),(36,[(3,.any),(4,.any),(5,.any),(6,.any),(7,.any),(8,.any),(9,.any),(12,.any),(41,.any)])]⟩ Tryz.f43
def LB:MarkK ab:=⟨[(3,.box (.named .TNames) (.no)),(4,.box (.int .i64) (.no)),(5,.box (.slice 216 (.named .TRen)) (.no)),(6,.box (.bool) (.no)),(7,.box (.arr 96 (.int .i64)) (.no)),(8,.box (.bool) (.no)),(9,.rfn 96 [] [.ptr 4 [],.ptr 8 [],.ptr 7 []]),(41,.fn 97 [] [.ptr 5 [],.rfn 96 [] [.ptr 4 [],.ptr 8 [],.ptr 7 []],.ptr 4 [],.ptr 6 [],.ptr 7 [],.ptr 8 []]),(44,.val (.slice 8 (.int .i64)) (.no)),(45,.val (.int .i64) (.no)),(46,.val (.int .i64) (.no))],[((.exit 0),[(3,.box (.named .TNames) (.no)),(4,.box (.int .i64) (.no)),(5,.box (.slice 216 (.named .TRen)) (.no)),(6,.box (.bool) (.no)),(7,.box (.arr 96 (.int .i64)) (.no)),(8,.box (.bool) (.no)),(9,.rfn 96 [] [.ptr 4 [],.ptr 8 [],.ptr 7 []]),(41,.fn 97 [] [.ptr 5 [],.rfn 96 [] [.ptr 4 [],.ptr 8 [],.ptr 7 []],.ptr 4 [],.ptr 6 [],.ptr 7 [],.ptr 8 []])])],kB⟩
def LC:MarkK ab:=⟨[(3,.box (.named .TNames) (.no)),(4,.box (.int .i64) (.no)),(5,.box (.slice 216 (.named .TRen)) (.no)),(6,.box (.bool) (.no)),(7,.box (.arr 96 (.int .i64)) (.no)),(8,.box (.bool) (.no)),(9,.rfn 96 [] [.ptr 4 [],.ptr 8 [],.ptr 7 []]),(12,.val (.int .i64) (.no)),(41,.fn 97 [] [.ptr 5 [],.rfn 96 [] [.ptr 4 [],.ptr 8 [],.ptr 7 []],.ptr 4 [],.ptr 6 [],.ptr 7 [],.ptr 8 []])],[((.exit 2),[(3,.box (.named .TNames) (.no)),(4,.box (.int .i64) (.no)),(5,.box (.slice 216 (.named .TRen)) (.no)),(6,.box (.bool) (.no)),(7,.box (.arr 96 (.int .i64)) (.no)),(8,.box (.bool) (.no)),(41,.fn 97 [] [.ptr 5 [],.rfn 96 [] [.ptr 4 [],.ptr 8 [],.ptr 7 []],.ptr 4 [],.ptr 6 [],.ptr 7 [],.ptr 8 []])])],kE⟩
def CW:FnK ab:=⟨[.val (.named .TNames) (.no),.val (.int .i64) (.no),.val (.slice 216 (.named .TRen)) (.no)],Bool,fun a:kL=>tE a.1 a.2.1 a.2.2.1,fun r:Bool=>(.val (.bool) r (.no),[.undef,.undef,.undef])⟩
def t53:Tt:=tbl [(94,CO),(95,CQ),(96,vE),(97,CV),(98,vD),(99,CU)]
def zp:Qt:=aG [(19,LB),(34,LC)]
def XR:=gx ⟨[0,1,2,3],[],[true],[]⟩ Tryz.f147
def CX:FnK ab:=⟨[.val (.named .TRob) (.no),.rptr (.named .TRen)],Bool,fun a:TRob×TRen×Unit=>mf a.1 a.2.1,fun r:Bool=>(.val (.bool) r (.no),[.undef,.undef])⟩
def pt:=gx ⟨[0,1,4,5,7,8,9,16],[],[true],[(5,[(0,.any),(1,.any),(7,.any),(8,.any)]),(6,[(4,.any)]),(7,[(0,.any),(1,.any),(7,.any),(8,.any)])]⟩ Tryz.f150
def LD:MarkK ab:=⟨[(0,.val (.slice 248 (.named .TRob)) (.no)),(1,.fn 147 [] [.rptr (.named .TRen)]),(7,.val (.int .i64) (.no)),(8,.val (.int .i64) (.no))],[(.ret,[(4,.val (.int .i64) (.no))]),((.exit 0),[(4,.undef)])],nH⟩
def CY:FnK ab:=⟨[.val (.slice 248 (.named .TRob)) (.no),.fn 147 [] [.rptr (.named .TRen)]],W .i64,fun a:xf=>A6 a.1 a.2.1.2.1,fun r:W .i64=>(.val (.int .i64) r (.no),[.undef,.undef])⟩
def t55:Tt:=tbl [(147,CX)]
def H0:Qt:=aG [(5,LD)]
def XS:=gx ⟨[0,1,4],[],[true],[]⟩ Tryz.f111
def CZ:FnK ab:=⟨[.val (.slice 248 (.named .TRob)) (.no),.fn 147 [] [.rptr (.named .TRen)]],Bool,fun a:xf=>tM a.1 a.2.1.2.1,fun r:Bool=>(.val (.bool) r (.no),[.undef,.undef])⟩
def t56:Tt:=tbl [(150,CY)]
def XT:=gx ⟨[0,1,2,3,4],[],[true],[]⟩ Tryz.f100
def C0:FnK ab:=⟨[.val (.named .TCore) (.no),.val (.named .TRen) (.no)],Bool,fun a:xg=>sT a.1 a.2.1,fun r:Bool=>(.val (.bool) r (.no),[.undef,.undef])⟩
def t57:Tt:=tbl [(111,CZ)]
def pv:=gx ⟨[0,1,2,4,5,7,9,10,11,12,30],[],[true],[(7,[(2,.any),(5,.any),(9,.any),(10,.any),(11,.any)]),(8,[(4,.any)]),(9,[(2,.any),(5,.any),(9,.any),(10,.any),(11,.any)])]⟩ Tryz.f45
def LF:MarkK ab:=⟨[(2,.box (.named .TCore) (.no)),(5,.val (.map (.int .u64) (.int .i64)) (.yes 0)),(9,.val (.slice 216 (.named .TRen)) (.no)),(10,.val (.int .i64) (.no)),(11,.val (.int .i64) (.no))],[(.ret,[(4,.val (.bool) (.no))]),((.exit 0),[(4,.undef)])],ug⟩
def C1:FnK ab:=⟨[.val (.named .TCore) (.no),.val (.slice 216 (.named .TRen)) (.no)],Bool,fun a:N0=>ma a.1 a.2.1,fun r:Bool=>(.val (.bool) r (.no),[.undef,.undef])⟩
def t58:Tt:=tbl [(100,C0)]
def H2:Qt:=aG [(7,LF)]
def XU:=gx ⟨[0,1,2,3],[],[true],[]⟩ Tryz.f103
def C2:FnK ab:=⟨[.val (.named .TRen) (.no),.rptr (.named .TRen)],Bool,fun a:TRen×TRen×Unit=>AH a.1 a.2.1,fun r:Bool=>(.val (.bool) r (.no),[.undef,.undef])⟩
def pw:=gx ⟨[0,1,4,5,7,8,9,16],[],[true],[(5,[(0,.any),(1,.any),(7,.any),(8,.any)]),(6,[(4,.any)]),(7,[(0,.any),(1,.any),(7,.any),(8,.any)])]⟩ Tryz.f148
def LN:MarkK ab:=⟨[(0,.val (.slice 216 (.named .TRen)) (.no)),(1,.fn 103 [] [.rptr (.named .TRen)]),(7,.val (.int .i64) (.no)),(8,.val (.int .i64) (.no))],[(.ret,[(4,.val (.int .i64) (.no))]),((.exit 0),[(4,.undef)])],nD⟩
def C3:FnK ab:=⟨[.val (.slice 216 (.named .TRen)) (.no),.fn 103 [] [.rptr (.named .TRen)]],W .i64,fun a:xH=>A4 a.1 a.2.1.2.1,fun r:W .i64=>(.val (.int .i64) r (.no),[.undef,.undef])⟩
def t60:Tt:=tbl [(103,C2)]
def H3:Qt:=aG [(5,LN)]
def XV:=gx ⟨[0,1,4],[],[true],[]⟩ Tryz.f101
def C4:FnK ab:=⟨[.val (.slice 216 (.named .TRen)) (.no),.fn 103 [] [.rptr (.named .TRen)]],Bool,fun a:xH=>tK a.1 a.2.1.2.1,fun r:Bool=>(.val (.bool) r (.no),[.undef,.undef])⟩
def t61:Tt:=tbl [(148,C3)]
def XW:=gx ⟨[0,1,2,3],[],[true],[]⟩ Tryz.f102
def C5:FnK ab:=⟨[.val (.named .TRen) (.no),.rptr (.slice 216 (.named .TRen))],Bool,fun a:Nl=>lZ a.1 a.2.1,fun r:Bool=>(.val (.bool) r (.no),[.undef,.undef])⟩
def t62:Tt:=tbl [(101,C4)]
def px:=gx ⟨[0,1,4,5,7,8,9,16],[],[true],[(5,[(0,.any),(1,.any),(7,.any),(8,.any)]),(6,[(4,.any)]),(7,[(0,.any),(1,.any),(7,.any),(8,.any)])]⟩ Tryz.f148
def LO:MarkK ab:=⟨[(0,.val (.slice 216 (.named .TRen)) (.no)),(1,.fn 102 [] [.rptr (.slice 216 (.named .TRen))]),(7,.val (.int .i64) (.no)),(8,.val (.int .i64) (.no))],[(.ret,[(4,.val (.int .i64) (.no))]),((.exit 0),[(4,.undef)])],nF⟩
def C6:FnK ab:=⟨[.val (.slice 216 (.named .TRen)) (.no),.fn 102 [] [.rptr (.slice 216 (.named .TRen))]],W .i64,fun a:xj=>A3 a.1 a.2.1.2.1,fun r:W .i64=>(.val (.int .i64) r (.no),[.undef,.undef])⟩
def t63:Tt:=tbl [(102,C5)]
def H4:Qt:=aG [(5,LO)]
def XX:=gx ⟨[0,1,4],[],[true],[]⟩ Tryz.f101
def C7:FnK ab:=⟨[.val (.slice 216 (.named .TRen)) (.no),.fn 102 [] [.rptr (.slice 216 (.named .TRen))]],Bool,fun a:xj=>tJ a.1 a.2.1.2.1,fun r:Bool=>(.val (.bool) r (.no),[.undef,.undef])⟩
def t64:Tt:=tbl [(148,C6)]
def XY:=gx ⟨[0,1,3,4],[],[true],[]⟩ Tryz.f46
def C8:FnK ab:=⟨[.val (.slice 216 (.named .TRen)) (.no),.val (.slice 216 (.named .TRen)) (.no)],Bool,fun a:xI=>sO a.1 a.2.1,fun r:Bool=>(.val (.bool) r (.no),[.undef,.undef])⟩
def t65:Tt:=tbl [(101,C7)]
def py:=gx ⟨[0,1,2,4,5,7,9,10,11,12,20],[],[true],[(7,[(1,.any),(5,.own),(9,.any),(10,.any),(11,.any)]),(8,[(5,.any)]),(9,[(1,.any),(5,.own),(9,.any),(10,.any),(11,.any)])]⟩ Tryz.f105
def LP:MarkK ab:=⟨[(1,.val (.int .i64) (.no)),(5,.val (.slice 8 (.int .u64)) (.yes 0)),(9,.val (.slice 248 (.named .TRob)) (.no)),(10,.val (.int .i64) (.no)),(11,.val (.int .i64) (.no))],[((.exit 0),[(5,.val (.slice 8 (.int .u64)) (.yes 0))])],uk⟩
def C9:FnK ab:=⟨[.val (.named .TCore) (.no),.val (.int .i64) (.no)],Sl 8 (W .u64),fun a:dm=>mc a.1 a.2.1,fun r:Sl 8 (W .u64)=>(.val (.slice 8 (.int .u64)) r (.no),[.undef,.undef])⟩
def H5:Qt:=aG [(7,LP)]
def XZ:=gx ⟨[0,1,2,4],[],[true],[]⟩ Tryz.f106
def Da:FnK ab:=⟨[.val (.named .TLq) (.no),.val (.int .u64) (.no)],Bool,fun a:TLq×W .u64×Unit=>Js a.1 a.2.1,fun r:Bool=>(.val (.bool) r (.no),[.undef,.undef])⟩
def pz:=gx ⟨[0,1,2,6,7,8,9,14,15,16,17,18,30],[],[true],[(11,[(1,.any),(2,.any),(15,.any),(16,.any),(17,.any)]),(12,[(6,.any)]),(13,[(1,.any),(2,.any),(15,.any),(16,.any),(17,.any)])]⟩ Tryz.f104
def LQ:MarkK ab:=⟨[(1,.val (.slice 8 (.int .u64)) (.no)),(2,.fn 106 [] []),(15,.val (.slice 48 (.named .TLq)) (.no)),(16,.val (.int .i64) (.no)),(17,.val (.int .i64) (.no))],[(.ret,[(6,.val (.bool) (.no))]),((.exit 0),[(6,.undef)])],u9⟩
def Db:FnK ab:=⟨[.val (.slice 48 (.named .TLq)) (.no),.val (.slice 8 (.int .u64)) (.no),.fn 106 [] []],Bool,fun a:Of=>tQ a.1 a.2.1,fun r:Bool=>(.val (.bool) r (.no),[.undef,.undef,.undef])⟩
def t68:Tt:=tbl [(106,Da)]
def H6:Qt:=aG [(11,LQ)]
def X0:=gx ⟨[0,1,2,4],[],[true],[]⟩ Tryz.f108
def Dc:FnK ab:=⟨[.val (.named .TSq) (.no),.val (.int .u64) (.no)],Bool,fun a:TSq×W .u64×Unit=>Jt a.1 a.2.1,fun r:Bool=>(.val (.bool) r (.no),[.undef,.undef])⟩
def pA:=gx ⟨[0,1,2,6,7,8,9,14,15,16,17,18,30],[],[true],[(11,[(1,.any),(2,.any),(15,.any),(16,.any),(17,.any)]),(12,[(6,.any)]),(13,[(1,.any),(2,.any),(15,.any),(16,.any),(17,.any)])]⟩ Tryz.f107
def LR:MarkK ab:=⟨[(1,.val (.slice 8 (.int .u64)) (.no)),(2,.fn 108 [] []),(15,.val (.slice 32 (.named .TSq)) (.no)),(16,.val (.int .i64) (.no)),(17,.val (.int .i64) (.no))],[(.ret,[(6,.val (.bool) (.no))]),((.exit 0),[(6,.undef)])],vc⟩
def Dd:FnK ab:=⟨[.val (.slice 32 (.named .TSq)) (.no),.val (.slice 8 (.int .u64)) (.no),.fn 108 [] []],Bool,fun a:Oa=>tR a.1 a.2.1,fun r:Bool=>(.val (.bool) r (.no),[.undef,.undef,.undef])⟩
def t70:Tt:=tbl [(108,Dc)]
def H7:Qt:=aG [(11,LR)]
def X1:=gx ⟨[0,1,2,3],[],[true],[]⟩ Tryz.f47
def De:FnK ab:=⟨[.val (.named .TCore) (.no)],Bool,fun a:Y0=>mb a.1,fun r:Bool=>(.val (.bool) r (.no),[.undef])⟩
def t71:Tt:=tbl [(104,Db),(105,C9),(107,Dd)]
def X2:=gx ⟨[0,1,2,4],[],[true],[]⟩ Tryz.f149
def Df:FnK ab:=⟨[.val (.named .TPhys) (.no),.val (.int .i64) (.no)],Bool,fun a:gW=>te a.1 a.2.1,fun r:Bool=>(.val (.bool) r (.no),[.undef,.undef])⟩
def X3:=gx ⟨[0,1,2,4,5,6,11],[],[true,true],[]⟩ Tryz.f109
def vG:FnK ab:=⟨[.val (.named .TPhys) (.no),.val (.int .i64) (.no)],W .u32×Bool,fun a:gW=>gC a.1 a.2.1,fun r:W .u32×Bool=>(.tup [.val (.int .u32) r.1 (.no),.val (.bool) r.2 (.no)],[.undef,.undef])⟩
def t73:Tt:=tbl [(149,Df)]
def pB:=gx ⟨[0,1,2,3,4,5,6,8],[],[true],[(7,[(2,.any),(3,.any),(4,.any),(5,.any),(6,.any)]),(8,[(4,.any),(5,.any)]),(9,[(2,.any),(3,.any),(4,.any),(5,.any),(6,.any)])]⟩ Tryz.f48
def LS:MarkK ab:=⟨[(2,.box (.named .TPhys) (.no)),(3,.box (.arr 16 (.int .i64)) (.no)),(4,.box (.arr 16 (.int .u32)) (.no)),(5,.box (.arr 16 (.int .u32)) (.no)),(6,.val (.int .i64) (.no))],[((.exit 0),[(4,.box (.arr 16 (.int .u32)) (.no)),(5,.box (.arr 16 (.int .u32)) (.no))])],mV⟩
def Dg:FnK ab:=⟨[.val (.named .TPhys) (.no),.val (.arr 16 (.int .i64)) (.no)],Arr 16 (W .u32),fun a:wg=>j0 a.1 a.2.1,fun r:Arr 16 (W .u32)=>(.val (.arr 16 (.int .u32)) r (.no),[.undef,.undef])⟩
def t74:Tt:=tbl [(109,vG)]
def H8:Qt:=aG [(7,LS)]
def X4:=gx ⟨[0,2,3,10],[],[true],[]⟩ Tryz.f110
def Dh:FnK ab:=⟨[.val (.int .i64) (.no)],W .u32,fun a:Y7=>mg a.1,fun r:W .u32=>(.val (.int .u32) r (.no),[.undef])⟩
def pC:=gx ⟨[0,1,2,3,4,6,7,8,15],[],[true],[(5,[(1,.any),(6,.any),(7,.any)]),(6,[(1,.any),(2,.any)]),(7,[(1,.any),(6,.any),(7,.any)])]⟩ Tryz.f49
def LU:MarkK ab:=⟨[(1,.box (.named .TArch) (.no)),(6,.val (.arr 12 (.int .u32)) (.no)),(7,.val (.int .i64) (.no))],[(.ret,[(1,.box (.named .TArch) (.no)),(2,.val (.bool) (.no))]),((.exit 0),[(1,.box (.named .TArch) (.no)),(2,.undef)])],kp⟩
def Di:FnK ab:=⟨[.val (.named .TArch) (.no)],Bool,fun a:wz=>l9 a.1,fun r:Bool=>(.val (.bool) r (.no),[.undef])⟩
def t76:Tt:=tbl [(110,Dh)]
def H9:Qt:=aG [(5,LU)]
def X5:=gx ⟨[0,1,2,3,4,5],[],[true],[]⟩ Tryz.f112
def Dj:FnK ab:=⟨[.val (.named .TRob) (.no),.rptr (.named .TCore)],Bool,fun a:TRob×TCore×Unit=>me a.1 a.2.1,fun r:Bool=>(.val (.bool) r (.no),[.undef,.undef])⟩
def t77:Tt:=tbl [(109,vG)]
def pD:=gx ⟨[0,1,4,5,7,8,9,16],[],[true],[(5,[(0,.any),(1,.any),(7,.any),(8,.any)]),(6,[(4,.any)]),(7,[(0,.any),(1,.any),(7,.any),(8,.any)])]⟩ Tryz.f150
def LV:MarkK ab:=⟨[(0,.val (.slice 248 (.named .TRob)) (.no)),(1,.fn 112 [] [.rptr (.named .TCore)]),(7,.val (.int .i64) (.no)),(8,.val (.int .i64) (.no))],[(.ret,[(4,.val (.int .i64) (.no))]),((.exit 0),[(4,.undef)])],nG⟩
def Dk:FnK ab:=⟨[.val (.slice 248 (.named .TRob)) (.no),.fn 112 [] [.rptr (.named .TCore)]],W .i64,fun a:xl=>A5 a.1 a.2.1.2.1,fun r:W .i64=>(.val (.int .i64) r (.no),[.undef,.undef])⟩
def t78:Tt:=tbl [(112,Dj)]
def Ia:Qt:=aG [(5,LV)]
def X6:=gx ⟨[0,1,4],[],[true],[]⟩ Tryz.f111
def Dl:FnK ab:=⟨[.val (.slice 248 (.named .TRob)) (.no),.fn 112 [] [.rptr (.named .TCore)]],Bool,fun a:xl=>tL a.1 a.2.1.2.1,fun r:Bool=>(.val (.bool) r (.no),[.undef,.undef])⟩
def t79:Tt:=tbl [(150,Dk)]
def X7:=gx ⟨[0,1,2],[],[true],[]⟩ Tryz.f50
def Dm:FnK ab:=⟨[.val (.named .TCore) (.no)],Bool,fun a:Y0=>md a.1,fun r:Bool=>(.val (.bool) r (.no),[.undef])⟩
def t80:Tt:=tbl [(111,Dl)]
def pE:=gx ⟨[0,1,2,3,4,5,6,7,10,55,56,57,58,63],[],[false],[(15,[(5,.own),(55,.any),(56,.any),(57,.any)]),(16,[(5,.any)]),(17,[(5,.own),(55,.any),(56,.any),(57,.any)])]⟩ Tryz.f16
def LW:MarkK ab:=⟨[(5,.val (.slice 8 (.int .i64)) (.yes 0)),(55,.val (.slice 1 (.bool)) (.yes 0)),(56,.val (.int .i64) (.no)),(57,.val (.int .i64) (.no))],[((.exit 0),[(5,.val (.slice 8 (.int .i64)) (.yes 0))])],ko⟩
def Dn:FnK ab:=⟨[.val (.named .TCore) (.no)],Sl 8 (W .i64),fun a:Y0=>sL a.1,fun r:Sl 8 (W .i64)=>(.val (.slice 8 (.int .i64)) r (.yes 0),[.undef])⟩
def t81:Tt:=tbl [(40,CI),(41,CJ),(42,CM),(43,CW),(44,CN),(45,C1),(46,C8),(47,De),(48,Dg),(49,Di),(50,Dm)]
def Ib:Qt:=aG [(15,LW)]
def pF:=gx ⟨[0,1,4,5,7,8,9,16],[],[true],[(5,[(0,.any),(1,.any),(7,.any),(8,.any)]),(6,[(4,.any)]),(7,[(0,.any),(1,.any),(7,.any),(8,.any)])]⟩ Tryz.f51
def LX:MarkK ab:=⟨[(0,.val (.slice 8 (.int .i64)) (.no)),(1,.val (.int .i64) (.no)),(7,.val (.int .i64) (.no)),(8,.val (.int .i64) (.no))],[(.ret,[(4,.val (.int .i64) (.no))]),((.exit 0),[(4,.undef)])],vh⟩
def Dp:FnK ab:=⟨[.val (.slice 8 (.int .i64)) (.no),.val (.int .i64) (.no)],W .i64,fun a:kH=>A9 a.1 a.2.1,fun r:W .i64=>(.val (.int .i64) r (.no),[.undef,.undef])⟩
def Ic:Qt:=aG [(5,LX)]
def X8:=gx ⟨[0,1,4],[],[true],[]⟩ Tryz.f17
def Dq:FnK ab:=⟨[.val (.slice 8 (.int .i64)) (.no),.val (.int .i64) (.no)],Bool,fun a:kH=>tP a.1 a.2.1,fun r:Bool=>(.val (.bool) r (.no),[.undef,.undef])⟩
def t83:Tt:=tbl [(51,Dp)]
def X9:=gx ⟨[0,2],[],[true],[]⟩ Tryz.f52
def Dr:FnK ab:=⟨[.val (.slice 1 (.int .u8)) (.no)],Bool,fun a:cV=>sY a.1,fun r:Bool=>(.val (.bool) r (.no),[.undef])⟩
def Ya:=gx ⟨[0,1,2,4,8],[],[true],[]⟩ Tryz.f152
def nK:FnK ab:=⟨[.val (.named .TCache) (.no),.val (.int .u32) (.no)],W .i64,fun a:eB=>iJ a.1 a.2.1,fun r:W .i64=>(.val (.int .i64) r (.no),[.undef,.undef])⟩
def Yb:=gx ⟨[0,1,2,4,8],[],[true],[]⟩ Tryz.f169
def Ds:FnK ab:=⟨[.val (.named .TCache) (.no),.val (.int .u32) (.no)],Sl 40 (TWay),fun a:eB=>sD a.1 a.2.1,fun r:Sl 40 (TWay)=>(.val (.slice 40 (.named .TWay)) r (.no),[.undef,.undef])⟩
def t86:Tt:=tbl [(152,nK)]
def Yc:=gx ⟨[0,1,2,3],[],[true],[]⟩ Tryz.f170
def Dt:FnK ab:=⟨[.val (.named .TWay) (.no),.rptr (.int .u32)],Bool,fun a:TWay×W .u32×Unit=>sC a.1 a.2.1,fun r:Bool=>(.val (.bool) r (.no),[.undef,.undef])⟩
def pG:=gx ⟨[0,1,4,5,7,8,9,16],[],[true],[(5,[(0,.any),(1,.any),(7,.any),(8,.any)]),(6,[(4,.any)]),(7,[(0,.any),(1,.any),(7,.any),(8,.any)])]⟩ Tryz.f168
def LY:MarkK ab:=⟨[(0,.val (.slice 40 (.named .TWay)) (.no)),(1,.fn 170 [] [.rptr (.int .u32)]),(7,.val (.int .i64) (.no)),(8,.val (.int .i64) (.no))],[(.ret,[(4,.val (.int .i64) (.no))]),((.exit 0),[(4,.undef)])],ve⟩
def Du:FnK ab:=⟨[.val (.slice 40 (.named .TWay)) (.no),.fn 170 [] [.rptr (.int .u32)]],W .i64,fun a:Nm=>tS a.1 a.2.1.2.1,fun r:W .i64=>(.val (.int .i64) r (.no),[.undef,.undef])⟩
def t88:Tt:=tbl [(170,Dt)]
def Ie:Qt:=aG [(5,LY)]
def Yd:=gx ⟨[0,1,2,3,4,5,6,7,14],[],[true,true,true],[]⟩ Tryz.f151
def vH:FnK ab:=⟨[.val (.named .TCache) (.no),.val (.int .u32) (.no)],W .i64×W .i64×Bool,fun a:eB=>jV a.1 a.2.1,fun r:W .i64×W .i64×Bool=>(.tup [.val (.int .i64) r.1 (.no),.val (.int .i64) r.2.1 (.no),.val (.bool) r.2.2 (.no)],[.undef,.undef])⟩
def t89:Tt:=tbl [(152,nK),(168,Du),(169,Ds)]
def pH:=gx ⟨[0,1,2,4,5,6,7,8,10,24,28,29,30,31,61,75,78,97],[],[true],[(15,[(1,.any),(2,.any),(5,.any),(6,.any),(28,.any),(29,.any),(30,.any)]),(16,[(4,.any)]),(17,[(1,.any),(2,.any),(5,.any),(6,.any),(28,.any),(29,.any),(30,.any)])]⟩ Tryz.f113
def L0:MarkK ab:=⟨[(1,.val (.int .i64) (.no)),(2,.box (.named .TCache) (.no)),(5,.val (.slice 40 (.named .TWay)) (.no)),(6,.val (.slice 1 (.bool)) (.yes 0)),(28,.val (.slice 40 (.named .TWay)) (.no)),(29,.val (.int .i64) (.no)),(30,.val (.int .i64) (.no))],[(.ret,[(4,.val (.bool) (.no))]),((.exit 0),[(4,.undef)])],tV⟩
def Dv:FnK ab:=⟨[.val (.named .TCache) (.no),.val (.int .i64) (.no)],Bool,fun a:fw=>jX a.1 a.2.1,fun r:Bool=>(.val (.bool) r (.no),[.undef,.undef])⟩
def t90:Tt:=tbl [(151,vH),(152,nK)]
def Ig:Qt:=aG [(15,L0)]
def pI:=gx ⟨[0,1,2,3,13,16,17,18,37],[],[true],[(11,[(1,.any),(16,.any),(17,.any)]),(12,[(2,.any)]),(13,[(1,.any),(16,.any),(17,.any)])]⟩ Tryz.f53
def L1:MarkK ab:=⟨[(1,.box (.named .TCache) (.no)),(16,.val (.int .i64) (.no)),(17,.val (.int .i64) (.no))],[(.ret,[(2,.val (.bool) (.no))]),((.exit 0),[(2,.undef)])],tU⟩
def Dw:FnK ab:=⟨[.val (.named .TCache) (.no)],Bool,fun a:xM=>jW a.1,fun r:Bool=>(.val (.bool) r (.no),[.undef])⟩
def t91:Tt:=tbl [(113,Dv)]
def Ih:Qt:=aG [(11,L1)]
def Ye:=gx ⟨[0,1,4],[],[true],[]⟩ Tryz.f61
def vI:FnK ab:=⟨[.val (.slice 1 (.int .u8)) (.no),.val (.int .u32) (.no)],Bool,fun a:Nn=>lY a.1 a.2.1,fun r:Bool=>(.val (.bool) r (.no),[.undef,.undef])⟩
def pJ:=gx ⟨[0,1,2,4,5,7,8,9,10,11,13,14,15,16,26],[],[true],[(7,[(1,.any),(5,.own),(13,.any),(14,.any),(15,.any)]),(8,[(5,.any)]),(9,[(1,.any),(5,.own),(13,.any),(14,.any),(15,.any)])]⟩ Tryz.f115
def L2:MarkK ab:=⟨[(1,.val (.int .u32) (.no)),(5,.val (.slice 8 (.int .i64)) (.yes 0)),(13,.val (.slice 24 (.named .TCache)) (.no)),(14,.val (.int .i64) (.no)),(15,.val (.int .i64) (.no))],[((.exit 0),[(5,.val (.slice 8 (.int .i64)) (.yes 0))])],uf⟩
def Dy:FnK ab:=⟨[.val (.named .TCoh) (.no),.val (.int .u32) (.no)],Sl 8 (W .i64),fun a:kO=>sK a.1 a.2.1,fun r:Sl 8 (W .i64)=>(.val (.slice 8 (.int .i64)) r (.no),[.undef,.undef])⟩
def t93:Tt:=tbl [(151,vH)]
def Ii:Qt:=aG [(7,L2)]
def Yf:=gx ⟨[0,2],[],[true],[]⟩ Tryz.f155
def Dz:FnK ab:=⟨[.val (.int .i64) (.no)],Bool,fun a:Y7=>AL a.1,fun r:Bool=>(.val (.bool) r (.no),[.undef])⟩
def Yg:=gx ⟨[0,2],[],[true],[]⟩ Tryz.f154
def DA:FnK ab:=⟨[.val (.int .i64) (.no)],Bool,fun a:Y7=>ta a.1,fun r:Bool=>(.val (.bool) r (.no),[.undef])⟩
def t95:Tt:=tbl [(155,Dz)]
def pK:=gx ⟨[0,1,4,5,7,8,9,16],[],[true],[(5,[(0,.any),(1,.any),(7,.any),(8,.any)]),(6,[(4,.any)]),(7,[(0,.any),(1,.any),(7,.any),(8,.any)])]⟩ Tryz.f171
def L3:MarkK ab:=⟨[(0,.val (.slice 8 (.int .i64)) (.no)),(1,.fn 154 [] []),(7,.val (.int .i64) (.no)),(8,.val (.int .i64) (.no))],[(.ret,[(4,.val (.int .i64) (.no))]),((.exit 0),[(4,.undef)])],vg⟩
def DB:FnK ab:=⟨[.val (.slice 8 (.int .i64)) (.no),.fn 154 [] []],W .i64,fun a:xo=>A8 a.1,fun r:W .i64=>(.val (.int .i64) r (.no),[.undef,.undef])⟩
def t96:Tt:=tbl [(154,DA)]
def Ij:Qt:=aG [(5,L3)]
def Yh:=gx ⟨[0,1,4],[],[true],[]⟩ Tryz.f153
def DC:FnK ab:=⟨[.val (.slice 8 (.int .i64)) (.no),.fn 154 [] []],Bool,fun a:xo=>tO a.1,fun r:Bool=>(.val (.bool) r (.no),[.undef,.undef])⟩
def t97:Tt:=tbl [(171,DB)]
def pL:=gx ⟨[0,2,3,4,6,7,8,9,10,14],[],[true],[(7,[(0,.any),(3,.any),(4,.any),(7,.any),(8,.any),(9,.any)]),(8,[(0,.any),(3,.any),(4,.any)]),(9,[(0,.any),(3,.any),(4,.any),(7,.any),(8,.any),(9,.any)])]⟩ Tryz.f114
def L4:MarkK ab:=⟨[(0,.val (.slice 8 (.int .i64)) (.no)),(3,.val (.int .i64) (.no)),(4,.val (.bool) (.no)),(7,.val (.slice 8 (.int .i64)) (.no)),(8,.val (.int .i64) (.no)),(9,.val (.int .i64) (.no))],[((.exit 0),[(0,.val (.slice 8 (.int .i64)) (.no)),(3,.val (.int .i64) (.no)),(4,.val (.bool) (.no))])],mU⟩
def DD:FnK ab:=⟨[.val (.slice 8 (.int .i64)) (.no)],Bool,fun a:cq=>sZ a.1,fun r:Bool=>(.val (.bool) r (.no),[.undef])⟩
def t98:Tt:=tbl [(153,DC)]
def Ik:Qt:=aG [(7,L4)]
def pM:=gx ⟨[0,1,4,5,10,12,13,14,24],[],[true],[(11,[(0,.any),(1,.any),(12,.any),(13,.any)]),(12,[(4,.any)]),(13,[(0,.any),(1,.any),(12,.any),(13,.any)])]⟩ Tryz.f116
def L5:MarkK ab:=⟨[(0,.val (.slice 1 (.int .u8)) (.no)),(1,.val (.slice 1 (.int .u8)) (.no)),(12,.val (.int .i64) (.no)),(13,.val (.int .i64) (.no))],[(.ret,[(4,.val (.bool) (.no))]),((.exit 0),[(4,.undef)])],vd⟩
def DE:FnK ab:=⟨[.val (.slice 1 (.int .u8)) (.no),.val (.slice 1 (.int .u8)) (.no)],Bool,fun a:Nc=>mN a.1 a.2.1,fun r:Bool=>(.val (.bool) r (.no),[.undef,.undef])⟩
def Il:Qt:=aG [(11,L5)]
def WU:=gx ⟨[0,1,2,3,4,5,8,22],[],[true],[]⟩ Tryz.f56
def Bc:FnK ab:=⟨[.val (.named .TCoh) (.no),.val (.named .TWay) (.no)],Bool,fun a:TCoh×TWay×Unit=>sJ a.1 a.2.1,fun r:Bool=>(.val (.bool) r (.no),[.undef,.undef])⟩
def agV:Tt:=tbl [(61,vI),(114,DD),(115,Dy),(116,DE)]
def WV:=gx ⟨[0,1,2,3],[],[true],[]⟩ Tryz.f55
def Bd:FnK ab:=⟨[.val (.named .TWay) (.no),.rptr (.named .TCoh)],Bool,fun a:TWay×TCoh×Unit=>sF a.1 a.2.1,fun r:Bool=>(.val (.bool) r (.no),[.undef,.undef])⟩
def agW:Tt:=tbl [(56,Bc)]
def gi:=gx ⟨[0,1,2,4,6,8,10,12,13,14,15,19,20,21,22,25,26,27,28,34],[],[true],[(5,[(1,.any),(12,.any),(13,.any),(14,.any)]),(6,[(4,.any)]),(7,[(1,.any),(12,.any),(13,.any),(14,.any)]),(16,[(1,.any),(12,.any),(13,.any),(14,.any),(19,.any),(20,.any),(21,.any)]),(17,[(1,.any),(4,.any),(12,.any),(13,.any),(14,.any)]),(18,[(1,.any),(12,.any),(13,.any),(14,.any),(19,.any),(20,.any),(21,.any)]),(27,[(1,.any),(12,.any),(13,.any),(14,.any),(19,.any),(20,.any),(21,.any),(25,.any),(26,.any),(27,.any)]),(28,[(1,.any),(4,.any),(12,.any),(13,.any),(14,.any),(19,.any),(20,.any),(21,.any)]),(29,[(1,.any),(12,.any),(13,.any),(14,.any),(19,.any),(20,.any),(21,.any),(25,.any),(26,.any),(27,.any)])]⟩ Tryz.f54
def JN:MarkK ab:=⟨[(1,.fn 55 [] [.rptr (.named .TCoh)]),(12,.val (.slice 24 (.named .TCache)) (.no)),(13,.val (.int .i64) (.no)),(14,.val (.int .i64) (.no)),(19,.val (.slice 24 (.slice 40 (.named .TWay))) (.no)),(20,.val (.int .i64) (.no)),(21,.val (.int .i64) (.no)),(25,.val (.slice 40 (.named .TWay)) (.no)),(26,.val (.int .i64) (.no)),(27,.val (.int .i64) (.no))],[(.ret,[(1,.fn 55 [] [.rptr (.named .TCoh)]),(4,.val (.bool) (.no)),(12,.val (.slice 24 (.named .TCache)) (.no)),(13,.val (.int .i64) (.no)),(14,.val (.int .i64) (.no)),(19,.val (.slice 24 (.slice 40 (.named .TWay))) (.no)),(20,.val (.int .i64) (.no)),(21,.val (.int .i64) (.no))]),((.exit 4),[(1,.fn 55 [] [.rptr (.named .TCoh)]),(4,.undef),(12,.val (.slice 24 (.named .TCache)) (.no)),(13,.val (.int .i64) (.no)),(14,.val (.int .i64) (.no)),(19,.val (.slice 24 (.slice 40 (.named .TWay))) (.no)),(20,.val (.int .i64) (.no)),(21,.val (.int .i64) (.no))])],tY⟩
def JM:MarkK ab:=⟨[(1,.fn 55 [] [.rptr (.named .TCoh)]),(12,.val (.slice 24 (.named .TCache)) (.no)),(13,.val (.int .i64) (.no)),(14,.val (.int .i64) (.no)),(19,.val (.slice 24 (.slice 40 (.named .TWay))) (.no)),(20,.val (.int .i64) (.no)),(21,.val (.int .i64) (.no))],[(.ret,[(1,.fn 55 [] [.rptr (.named .TCoh)]),(4,.val (.bool) (.no)),(12,.val (.slice 24 (.named .TCache)) (.no)),(13,.val (.int .i64) (.no)),(14,.val (.int .i64) (.no))]),((.exit 2),[(1,.fn 55 [] [.rptr (.named .TCoh)]),(4,.undef),(12,.val (.slice 24 (.named .TCache)) (.no)),(13,.val (.int .i64) (.no)),(14,.val (.int .i64) (.no))])],tX⟩
def JO:MarkK ab:=⟨[(1,.fn 55 [] [.rptr (.named .TCoh)]),(12,.val (.slice 24 (.named .TCache)) (.no)),(13,.val (.int .i64) (.no)),(14,.val (.int .i64) (.no))],[(.ret,[(4,.val (.bool) (.no))]),((.exit 0),[(4,.undef)])],tZ⟩
def Be:FnK ab:=⟨[.val (.named .TCoh) (.no),.fn 55 [] [.rptr (.named .TCoh)]],Bool,fun a:Nd=>sI a.1 a.2.1.2.1,fun r:Bool=>(.val (.bool) r (.no),[.undef,.undef])⟩
def qt:Tt:=tbl [(55,Bd)]
def qb:Qt:=aG [(27,JN),(16,JM),(5,JO)]
def oh:=gx ⟨[0,1,2,4,20,22,23,24,25,30],[],[true],[(11,[(1,.any),(22,.any),(23,.any),(24,.any)]),(12,[(1,.any),(2,.any)]),(13,[(1,.any),(22,.any),(23,.any),(24,.any)])]⟩ Tryz.f18
def JP:MarkK ab:=⟨[(1,.box (.named .TCoh) (.no)),(22,.val (.slice 24 (.named .TCache)) (.no)),(23,.val (.int .i64) (.no)),(24,.val (.int .i64) (.no))],[(.ret,[(1,.box (.named .TCoh) (.no)),(2,.val (.bool) (.no))]),((.exit 0),[(1,.box (.named .TCoh) (.no)),(2,.undef)])],tW⟩
def Bf:FnK ab:=⟨[.val (.named .TCoh) (.no)],Bool,fun a:dM=>sE a.1,fun r:Bool=>(.val (.bool) r (.no),[.undef])⟩
def IH:Tt:=tbl [(52,Dr),(53,Dw),(54,Be)]
def Hl:Qt:=aG [(11,JP)]
def WW:=gx ⟨[0,2],[],[true],[]⟩ Tryz.f157
def Bg:FnK ab:=⟨[.val (.int .i64) (.no)],W .i64,fun a:Y7=>Jv a.1,fun r:W .i64=>(.val (.int .i64) r (.no),[.undef])⟩
def WX:=gx ⟨[0,1,4,5,6,7,8,9,10,11,12,13],[],[true,true],[]⟩ Tryz.f176
def Bh:FnK ab:=⟨[.val (.int .u64) (.no),.val (.int .u64) (.no)],W .u64×W .u64,fun a:xp=>Jr a.1 a.2.1,fun r:W .u64×W .u64=>(.tup [.val (.int .u64) r.1 (.no),.val (.int .u64) r.2 (.no)],[.undef,.undef])⟩
def WY:=gx ⟨[0,1,4,5,6,7,8,9],[],[true,true],[]⟩ Tryz.f172
def Bi:FnK ab:=⟨[.val (.int .u64) (.no),.val (.int .u64) (.no)],W .u64×W .u64,fun a:xp=>Jq a.1 a.2.1,fun r:W .u64×W .u64=>(.tup [.val (.int .u64) r.1 (.no),.val (.int .u64) r.2 (.no)],[.undef,.undef])⟩
def agX:Tt:=tbl [(176,Bh)]
def oq:=gx ⟨[0,1,4,5,6,7,8,10,26,37],[],[true],[(17,[(7,.any),(8,.any)]),(18,[(7,.any)]),(19,[(7,.any),(8,.any)])]⟩ Tryz.f156
def JQ:MarkK ab:=⟨[(7,.val (.slice 1 (.int .u8)) (.yes 0)),(8,.val (.int .i64) (.no))],[((.exit 0),[(7,.val (.slice 1 (.int .u8)) (.yes 0))])],Mi⟩
def Bj:FnK ab:=⟨[.val (.slice 1 (.int .u8)) (.no),.val (.int .i64) (.no)],Sl 1 (W .u8),fun a:kI=>JL a.1 a.2.1,fun r:Sl 1 (W .u8)=>(.val (.slice 1 (.int .u8)) r (.no),[.undef,.undef])⟩
def II:Tt:=tbl [(172,Bi)]
def Hm:Qt:=aG [(17,JQ)]
def WZ:=gx ⟨[0,2],[],[true],[]⟩ Tryz.f117
def Bl:FnK ab:=⟨[.val (.int .i64) (.no)],Sl 1 (W .u8),fun a:Y7=>AM a.1,fun r:Sl 1 (W .u8)=>(.val (.slice 1 (.int .u8)) r (.no),[.undef])⟩
def agY:Tt:=tbl [(156,Bj),(157,Bg)]
def W0:=gx ⟨[0,2],[],[true],[]⟩ Tryz.f118
def Bm:FnK ab:=⟨[.val (.int .i64) (.no)],Sl 16 (TBtb),fun a:Y7=>AF a.1,fun r:Sl 16 (TBtb)=>(.val (.slice 16 (.named .TBtb)) r (.no),[.undef])⟩
def W1:=gx ⟨[0,2],[],[true],[]⟩ Tryz.f119
def Bn:FnK ab:=⟨[.val (.int .i64) (.no)],Sl 4 (W .u32),fun a:Y7=>AN a.1,fun r:Sl 4 (W .u32)=>(.val (.slice 4 (.int .u32)) r (.no),[.undef])⟩
def W2:=gx ⟨[0,1,2],[],[true],[]⟩ Tryz.f62
def Bo:FnK ab:=⟨[.val (.named .TConf) (.no)],TPred,fun a:Y5=>td a.1,fun r:TPred=>(.val (.named .TPred) r (.no),[.undef])⟩
def agZ:Tt:=tbl [(117,Bl),(118,Bm),(119,Bn)]
def ou:=gx ⟨[0,2,3,4,7,15],[],[true],[(11,[(0,.any),(3,.any),(4,.any)]),(12,[(3,.any)]),(13,[(0,.any),(3,.any),(4,.any)])]⟩ Tryz.f120
def JR:MarkK ab:=⟨[(0,.val (.slice 1 (.int .u8)) (.no)),(3,.val (.int .u8) (.no)),(4,.val (.int .i64) (.no))],[((.exit 0),[(3,.val (.int .u8) (.no))])],nI⟩
def Bp:FnK ab:=⟨[.val (.slice 1 (.int .u8)) (.no)],W .u8,fun a:cV=>tT a.1,fun r:W .u8=>(.val (.int .u8) r (.no),[.undef])⟩
def Ho:Qt:=aG [(11,JR)]
def W3:=gx ⟨[0,2,3],[],[true],[]⟩ Tryz.f63
def Bq:FnK ab:=⟨[.val (.slice 1 (.int .u8)) (.no)],Bool,fun a:cV=>tc a.1,fun r:Bool=>(.val (.bool) r (.no),[.undef])⟩
def ag0:Tt:=tbl [(120,Bp)]
def W4:=gx ⟨[0,2],[],[true],[]⟩ Tryz.f121
def Br:FnK ab:=⟨[.val (.int .i64) (.no)],W .i64,fun a:Y7=>Ju a.1,fun r:W .i64=>(.val (.int .i64) r (.no),[.undef])⟩
def W5:=gx ⟨[0,2],[],[true],[]⟩ Tryz.f64
def Bt:FnK ab:=⟨[.val (.int .i64) (.no)],W .u32,fun a:Y7=>mj a.1,fun r:W .u32=>(.val (.int .u32) r (.no),[.undef])⟩
def ag1:Tt:=tbl [(121,Br)]
def W6:=gx ⟨[0,1,4],[],[true],[]⟩ Tryz.f65
def Bu:FnK ab:=⟨[.val (.int .i64) (.no),.val (.int .i64) (.no)],Bool,fun a:Y9=>ml a.1 a.2.1,fun r:Bool=>(.val (.bool) r (.no),[.undef,.undef])⟩
def W7:=gx ⟨[0,1,2,3,4,5],[],[true],[]⟩ Tryz.f21
def Bv:FnK ab:=⟨[.val (.named .TConf) (.no),.val (.named .TPred) (.no)],Bool,fun a:xq=>jZ a.1 a.2.1,fun r:Bool=>(.val (.bool) r (.no),[.undef,.undef])⟩
def ag2:Tt:=tbl [(62,Bo),(63,Bq),(64,Bt),(65,Bu)]
def oA:=gx ⟨[0,2,3,5,6,7,8,9,34],[],[true],[(7,[(3,.any),(6,.any),(7,.any),(8,.any)]),(8,[(2,.any)]),(9,[(3,.any),(6,.any),(7,.any),(8,.any)])]⟩ Tryz.f22
def JS:MarkK ab:=⟨[(3,.val (.int .u64) (.no)),(6,.val (.slice 48 (.named .TLq)) (.no)),(7,.val (.int .i64) (.no)),(8,.val (.int .i64) (.no))],[(.ret,[(2,.val (.bool) (.no))]),((.exit 0),[(2,.undef)])],uq⟩
def Bw:FnK ab:=⟨[.val (.slice 48 (.named .TLq)) (.no)],Bool,fun a:wF=>jY a.1,fun r:Bool=>(.val (.bool) r (.no),[.undef])⟩
def Hp:Qt:=aG [(7,JS)]
def oB:=gx ⟨[0,2,3,5,6,7,8,9,34],[],[true],[(7,[(3,.any),(6,.any),(7,.any),(8,.any)]),(8,[(2,.any)]),(9,[(3,.any),(6,.any),(7,.any),(8,.any)])]⟩ Tryz.f23
def JT:MarkK ab:=⟨[(3,.val (.int .u64) (.no)),(6,.val (.slice 32 (.named .TSq)) (.no)),(7,.val (.int .i64) (.no)),(8,.val (.int .i64) (.no))],[(.ret,[(2,.val (.bool) (.no))]),((.exit 0),[(2,.undef)])],vi⟩
def Bx:FnK ab:=⟨[.val (.slice 32 (.named .TSq)) (.no)],Bool,fun a:xO=>km a.1,fun r:Bool=>(.val (.bool) r (.no),[.undef])⟩
def Hq:Qt:=aG [(7,JT)]
def Mj:FnK ab:=OQ 1 (.int .u8)
def W8:=gx ⟨[0,1,2,3,12],[1],[true],[]⟩ Tryz.f60
def BA:FnK ab:=⟨[.val (.named .TWay) (.no),.box (.slice 1 (.int .u8)) (.yes 0)],Bool×Sl 1 (W .u8),fun a:Ob=>sH a.1 a.2.1,fun r:Bool×Sl 1 (W .u8)=>(.val (.bool) r.1 (.no),[.undef,.box 0 (.slice 1 (.int .u8)) r.2 (.yes 0)])⟩
def ag3:Tt:=tbl [(61,vI)]
def gj:=gx ⟨[0,1,2,4,6,8,10,12,13,14,15,19,20,21,22,25,26,27,28,34],[1],[true],[(5,[(1,.any),(12,.any),(13,.any),(14,.any)]),(6,[(1,.any),(4,.any)]),(7,[(1,.any),(12,.any),(13,.any),(14,.any)]),(16,[(1,.any),(12,.any),(13,.any),(14,.any),(19,.any),(20,.any),(21,.any)]),(17,[(1,.any),(4,.any),(12,.any),(13,.any),(14,.any)]),(18,[(1,.any),(12,.any),(13,.any),(14,.any),(19,.any),(20,.any),(21,.any)]),(27,[(1,.any),(12,.any),(13,.any),(14,.any),(19,.any),(20,.any),(21,.any),(25,.any),(26,.any),(27,.any)]),(28,[(1,.any),(4,.any),(12,.any),(13,.any),(14,.any),(19,.any),(20,.any),(21,.any)]),(29,[(1,.any),(12,.any),(13,.any),(14,.any),(19,.any),(20,.any),(21,.any),(25,.any),(26,.any),(27,.any)])]⟩ Tryz.f54
def JW:MarkK ab:=⟨[(1,.fnb 60 (.slice 1 (.int .u8)) (.yes 0)),(12,.val (.slice 24 (.named .TCache)) (.no)),(13,.val (.int .i64) (.no)),(14,.val (.int .i64) (.no)),(19,.val (.slice 24 (.slice 40 (.named .TWay))) (.no)),(20,.val (.int .i64) (.no)),(21,.val (.int .i64) (.no)),(25,.val (.slice 40 (.named .TWay)) (.no)),(26,.val (.int .i64) (.no)),(27,.val (.int .i64) (.no))],[(.ret,[(1,.fnb 60 (.slice 1 (.int .u8)) (.yes 0)),(4,.val (.bool) (.no)),(12,.val (.slice 24 (.named .TCache)) (.no)),(13,.val (.int .i64) (.no)),(14,.val (.int .i64) (.no)),(19,.val (.slice 24 (.slice 40 (.named .TWay))) (.no)),(20,.val (.int .i64) (.no)),(21,.val (.int .i64) (.no))]),((.exit 4),[(1,.fnb 60 (.slice 1 (.int .u8)) (.yes 0)),(4,.undef),(12,.val (.slice 24 (.named .TCache)) (.no)),(13,.val (.int .i64) (.no)),(14,.val (.int .i64) (.no)),(19,.val (.slice 24 (.slice 40 (.named .TWay))) (.no)),(20,.val (.int .i64) (.no)),(21,.val (.int .i64) (.no))])],ud⟩
def JV:MarkK ab:=⟨[(1,.fnb 60 (.slice 1 (.int .u8)) (.yes 0)),(12,.val (.slice 24 (.named .TCache)) (.no)),(13,.val (.int .i64) (.no)),(14,.val (.int .i64) (.no)),(19,.val (.slice 24 (.slice 40 (.named .TWay))) (.no)),(20,.val (.int .i64) (.no)),(21,.val (.int .i64) (.no))],[(.ret,[(1,.fnb 60 (.slice 1 (.int .u8)) (.yes 0)),(4,.val (.bool) (.no)),(12,.val (.slice 24 (.named .TCache)) (.no)),(13,.val (.int .i64) (.no)),(14,.val (.int .i64) (.no))]),((.exit 2),[(1,.fnb 60 (.slice 1 (.int .u8)) (.yes 0)),(4,.undef),(12,.val (.slice 24 (.named .TCache)) (.no)),(13,.val (.int .i64) (.no)),(14,.val (.int .i64) (.no))])],uc⟩
def JX:MarkK ab:=⟨[(1,.fnb 60 (.slice 1 (.int .u8)) (.yes 0)),(12,.val (.slice 24 (.named .TCache)) (.no)),(13,.val (.int .i64) (.no)),(14,.val (.int .i64) (.no))],[(.ret,[(1,.fnb 60 (.slice 1 (.int .u8)) (.yes 0)),(4,.val (.bool) (.no))]),((.exit 0),[(1,.fnb 60 (.slice 1 (.int .u8)) (.yes 0)),(4,.undef)])],ue⟩
def BB:FnK ab:=⟨[.val (.named .TCoh) (.no),.fnb 60 (.slice 1 (.int .u8)) (.yes 0)],Bool×Sl 1 (W .u8),fun a:Oc=>AG a.1 a.2.1,fun r:Bool×Sl 1 (W .u8)=>(.val (.bool) r.1 (.no),[.undef,.fnb 60 0 (.slice 1 (.int .u8)) r.2 (.yes 0)])⟩
def qu:Tt:=tbl [(60,BA)]
def qc:Qt:=aG [(27,JW),(16,JV),(5,JX)]
def W9:=gx ⟨[0,1,2,3],[],[true],[]⟩ Tryz.f20
def BC:FnK ab:=⟨[.val (.named .TCoh) (.no)],Sl 1 (W .u8),fun a:dM=>sG a.1,fun r:Sl 1 (W .u8)=>(.val (.slice 1 (.int .u8)) r (.no),[.undef])⟩
def ag4:Tt:=tbl [(54,BB),(59,Mj)]
def Xa:=gx ⟨[0,1,4],[],[true],[]⟩ Tryz.f57
def BD:FnK ab:=⟨[.val (.int .u32) (.no),.val (.int .i64) (.no)],Bool,fun a:W .u32×W .i64×Unit=>lX a.1 a.2.1,fun r:Bool=>(.val (.bool) r (.no),[.undef,.undef])⟩
def Xb:=gx ⟨[0,1,2,6,27],[],[true],[]⟩ Tryz.f58
def BE:FnK ab:=⟨[.val (.slice 1 (.int .u8)) (.no),.val (.int .u32) (.no),.val (.int .i64) (.no)],W .i64,fun a:v9=>sX a.1 a.2.1 a.2.2.1,fun r:W .i64=>(.val (.int .i64) r (.no),[.undef,.undef,.undef])⟩
def oD:=gx ⟨[0,1,4,6,9,10,11,12,13,30],[],[true],[(11,[(1,.any),(10,.any),(11,.any),(12,.any)]),(12,[(4,.any)]),(13,[(1,.any),(10,.any),(11,.any),(12,.any)])]⟩ Tryz.f19
def JY:MarkK ab:=⟨[(1,.val (.slice 1 (.int .u8)) (.no)),(10,.val (.slice 16 (.named .TSb)) (.no)),(11,.val (.int .i64) (.no)),(12,.val (.int .i64) (.no))],[(.ret,[(4,.val (.bool) (.no))]),((.exit 0),[(4,.undef)])],u7⟩
def BF:FnK ab:=⟨[.val (.slice 16 (.named .TSb)) (.no),.val (.slice 1 (.int .u8)) (.no)],Bool,fun a:xW=>tI a.1 a.2.1,fun r:Bool=>(.val (.bool) r (.no),[.undef,.undef])⟩
def IJ:Tt:=tbl [(57,BD),(58,BE)]
def Hs:Qt:=aG [(11,JY)]
def oE:=gx ⟨[0,1,2,3,4,5,6,7,8,9,13,50,51,52,53,58],[],[false],[(15,[(5,.any),(50,.any),(51,.any),(52,.any)]),(16,[(5,.any)]),(17,[(5,.any),(50,.any),(51,.any),(52,.any)])]⟩ Tryz.f8
def JZ:MarkK ab:=⟨[(5,.val (.slice 8 (.int .i64)) (.yes 0)),(50,.val (.slice 1 (.bool)) (.yes 0)),(51,.val (.int .i64) (.no)),(52,.val (.int .i64) (.no))],[((.exit 0),[(5,.val (.slice 8 (.int .i64)) (.yes 0))])],fp⟩
def nJ:FnK ab:=⟨[.val (.named .TCore) (.no),.val (.named .TCoh) (.no)],Sl 8 (W .i64),fun a:gQ=>iI a.1 a.2.1,fun r:Sl 8 (W .i64)=>(.val (.slice 8 (.int .i64)) r (.yes 0),[.undef,.undef])⟩
def IK:Tt:=tbl [(16,Dn),(17,Dq),(18,Bf),(19,BF),(20,BC),(21,Bv),(22,Bw),(23,Bx)]
def Ht:Qt:=aG [(15,JZ)]
def jg:=gx ⟨[0,1,2,3,4,5,7,18,21,22,23,24,31,32,33,34],[],[true],[(13,[(1,.any),(3,.own),(21,.any),(22,.any),(23,.any)]),(14,[(3,.own)]),(15,[(1,.any),(3,.own),(21,.any),(22,.any),(23,.any)]),(24,[(1,.any),(3,.own),(4,.any),(21,.any),(22,.any),(23,.any),(31,.any),(32,.any),(33,.any)]),(25,[(1,.any),(3,.any),(21,.any),(22,.any),(23,.any)]),(26,[(1,.any),(3,.own),(4,.any),(21,.any),(22,.any),(23,.any),(31,.any),(32,.any),(33,.any)])]⟩ Tryz.f10
def J1:MarkK ab:=⟨[(1,.box (.named .TDuo) (.no)),(3,.val (.slice 8 (.int .i64)) (.yes 0)),(4,.val (.int .i64) (.no)),(21,.val (.slice 1040 (.named .TCore)) (.no)),(22,.val (.int .i64) (.no)),(23,.val (.int .i64) (.no)),(31,.val (.slice 8 (.int .i64)) (.yes 0)),(32,.val (.int .i64) (.no)),(33,.val (.int .i64) (.no))],[((.exit 2),[(1,.box (.named .TDuo) (.no)),(3,.val (.slice 8 (.int .i64)) (.yes 0)),(21,.val (.slice 1040 (.named .TCore)) (.no)),(22,.val (.int .i64) (.no)),(23,.val (.int .i64) (.no))])],mQ⟩
def J0:MarkK ab:=⟨[(1,.box (.named .TDuo) (.no)),(3,.val (.slice 8 (.int .i64)) (.yes 0)),(21,.val (.slice 1040 (.named .TCore)) (.no)),(22,.val (.int .i64) (.no)),(23,.val (.int .i64) (.no))],[((.exit 0),[(3,.val (.slice 8 (.int .i64)) (.yes 0))])],mP⟩
def vl:FnK ab:=⟨[.val (.named .TDuo) (.no)],Sl 8 (W .i64),fun a:kM=>lW a.1,fun r:Sl 8 (W .i64)=>(.val (.slice 8 (.int .i64)) r (.no),[.undef])⟩
def zE:Tt:=tbl [(8,nJ)]
def za:Qt:=aG [(24,J1),(13,J0)]
def Xc:=gx ⟨[0,1,2,4,5,6,7],[],[true],[]⟩ Tryz.f6
def vm:FnK ab:=⟨[],Bool,fun a:Unit=>iK,fun r:Bool=>(.val (.bool) r (.no),[])⟩
def ag5:Tt:=tbl [(8,nJ),(10,vl),(13,CA),(14,N3),(15,CC)]
def Xe:=gx ⟨[0,1,2,3],[],[true],[]⟩ Tryz.f66
def BH:FnK ab:=⟨[.val (.named .TCore) (.no)],Bool,fun a:Y0=>tC a.1,fun r:Bool=>(.val (.bool) r (.no),[.undef])⟩
def ag6:Tt:=tbl [(31,N5)]
def oF:=gx ⟨[0,2,3,4,8,37,50,68],[],[true],[(5,[(0,.any),(3,.any)]),(6,[(0,.any),(2,.any)]),(7,[(0,.any),(3,.any)])]⟩ Tryz.f67
def J3:MarkK ab:=⟨[(0,.val (.slice 248 (.named .TRob)) (.no)),(3,.val (.int .i64) (.no))],[(.ret,[(0,.val (.slice 248 (.named .TRob)) (.no)),(2,.val (.bool) (.no))]),((.exit 0),[(0,.val (.slice 248 (.named .TRob)) (.no)),(2,.undef)])],ux⟩
def BI:FnK ab:=⟨[.val (.slice 248 (.named .TRob)) (.no)],Bool,fun a:xR=>tr a.1,fun r:Bool=>(.val (.bool) r (.no),[.undef])⟩
def Hu:Qt:=aG [(5,J3)]
def jh:=gx ⟨[0,1,2,4,5,6,9,11,24,27,36],[],[true],[(11,[(1,.any),(2,.any),(5,.any)]),(12,[(4,.any)]),(13,[(1,.any),(2,.any),(5,.any)]),(26,[(1,.any),(2,.any),(5,.any),(6,.any)]),(27,[(1,.any),(2,.any),(4,.any),(5,.any)]),(28,[(1,.any),(2,.any),(5,.any),(6,.any)])]⟩ Tryz.f122
def J5:MarkK ab:=⟨[(1,.val (.int .i64) (.no)),(2,.box (.arr 16 (.int .i64)) (.no)),(5,.val (.int .i64) (.no)),(6,.val (.int .i64) (.no))],[(.ret,[(1,.val (.int .i64) (.no)),(2,.box (.arr 16 (.int .i64)) (.no)),(4,.val (.bool) (.no)),(5,.val (.int .i64) (.no))]),((.exit 2),[(1,.val (.int .i64) (.no)),(2,.box (.arr 16 (.int .i64)) (.no)),(4,.undef),(5,.val (.int .i64) (.no))])],m8⟩
def J4:MarkK ab:=⟨[(1,.val (.int .i64) (.no)),(2,.box (.arr 16 (.int .i64)) (.no)),(5,.val (.int .i64) (.no))],[(.ret,[(4,.val (.bool) (.no))]),((.exit 0),[(4,.undef)])],m7⟩
def BJ:FnK ab:=⟨[.val (.arr 16 (.int .i64)) (.no),.val (.int .i64) (.no)],Bool,fun a:kK=>mB a.1 a.2.1,fun r:Bool=>(.val (.bool) r (.no),[.undef,.undef])⟩
def zb:Qt:=aG [(26,J5),(11,J4)]
def Xf:=gx ⟨[0,1,2,3,19],[],[true],[]⟩ Tryz.f158
def vo:FnK ab:=⟨[.val (.named .TFree) (.no)],Bool,fun a:gX=>mz a.1,fun r:Bool=>(.val (.bool) r (.no),[.undef])⟩
def oG:=gx ⟨[0,1,2,3,4,8,13],[],[false],[(13,[(1,.any),(3,.any),(4,.any)]),(14,[(3,.any)]),(15,[(1,.any),(3,.any),(4,.any)])]⟩ Tryz.f159
def J6:MarkK ab:=⟨[(1,.box (.named .TFree) (.no)),(3,.val (.slice 8 (.int .i64)) (.yes 0)),(4,.val (.int .i64) (.no))],[((.exit 0),[(3,.val (.slice 8 (.int .i64)) (.yes 0))])],mY⟩
def vp:FnK ab:=⟨[.val (.named .TFree) (.no)],Sl 8 (W .i64),fun a:gX=>mA a.1,fun r:Sl 8 (W .i64)=>(.val (.slice 8 (.int .i64)) r (.yes 0),[.undef])⟩
def IL:Tt:=tbl [(158,vo)]
def Hv:Qt:=aG [(13,J6)]
def ji:=gx ⟨[0,1,2,4,5,6,7,17,23,38,41,52],[],[true],[(13,[(1,.any),(5,.any),(6,.any)]),(14,[(4,.any)]),(15,[(1,.any),(5,.any),(6,.any)]),(28,[(1,.any),(5,.any),(6,.any),(7,.any)]),(29,[(1,.any),(4,.any),(5,.any),(6,.any)]),(30,[(1,.any),(5,.any),(6,.any),(7,.any)])]⟩ Tryz.f123
def J8:MarkK ab:=⟨[(1,.val (.int .i64) (.no)),(5,.val (.slice 8 (.int .i64)) (.yes 0)),(6,.val (.int .i64) (.no)),(7,.val (.int .i64) (.no))],[(.ret,[(1,.val (.int .i64) (.no)),(4,.val (.bool) (.no)),(5,.val (.slice 8 (.int .i64)) (.yes 0)),(6,.val (.int .i64) (.no))]),((.exit 2),[(1,.val (.int .i64) (.no)),(4,.undef),(5,.val (.slice 8 (.int .i64)) (.yes 0)),(6,.val (.int .i64) (.no))])],m6⟩
def J7:MarkK ab:=⟨[(1,.val (.int .i64) (.no)),(5,.val (.slice 8 (.int .i64)) (.yes 0)),(6,.val (.int .i64) (.no))],[(.ret,[(4,.val (.bool) (.no))]),((.exit 0),[(4,.undef)])],mZ⟩
def BK:FnK ab:=⟨[.val (.named .TFree) (.no),.val (.int .i64) (.no)],Bool,fun a:kJ=>tj a.1 a.2.1,fun r:Bool=>(.val (.bool) r (.no),[.undef,.undef])⟩
def zF:Tt:=tbl [(158,vo),(159,vp)]
def zd:Qt:=aG [(28,J8),(13,J7)]
def Xg:=gx ⟨[0,1,2],[],[true],[]⟩ Tryz.f124
def BL:FnK ab:=⟨[.val (.named .TUop) (.no)],Bool,fun a:vT=>tn a.1,fun r:Bool=>(.val (.bool) r (.no),[.undef])⟩
def oH:=gx ⟨[0,1,4,5,6,10,18],[],[true],[(7,[(0,.any),(1,.any),(5,.any),(6,.any)]),(8,[(5,.any)]),(9,[(0,.any),(1,.any),(5,.any),(6,.any)])]⟩ Tryz.f160
def J9:MarkK ab:=⟨[(0,.val (.slice 8 (.int .i64)) (.no)),(1,.val (.int .i64) (.no)),(5,.val (.int .i64) (.no)),(6,.val (.int .i64) (.no))],[((.exit 0),[(5,.val (.int .i64) (.no))])],nh⟩
def BM:FnK ab:=⟨[.val (.slice 8 (.int .i64)) (.no),.val (.int .i64) (.no)],W .i64,fun a:kH=>tq a.1 a.2.1,fun r:W .i64=>(.val (.int .i64) r (.no),[.undef,.undef])⟩
def Hw:Qt:=aG [(7,J9)]
def gk:=gx ⟨[0,1,2,3,6,7,8,9,10,15,28,36,47,53],[],[true],[(7,[(1,.any),(2,.any),(3,.any),(7,.any),(8,.any)]),(8,[(1,.any),(2,.any),(7,.any)]),(9,[(1,.any),(2,.any),(3,.any),(7,.any),(8,.any)]),(20,[(1,.any),(2,.any),(7,.any),(9,.any)]),(21,[(1,.any),(7,.any)]),(22,[(1,.any),(2,.any),(7,.any),(9,.any)]),(35,[(1,.any),(7,.any),(10,.any)]),(36,[(1,.any),(6,.any),(7,.any)]),(37,[(1,.any),(7,.any),(10,.any)])]⟩ Tryz.f125
def Kc:MarkK ab:=⟨[(1,.val (.int .i64) (.no)),(2,.val (.slice 216 (.named .TRen)) (.no)),(3,.box (.named .TNames) (.no)),(7,.val (.slice 8 (.int .i64)) (.yes 0)),(8,.val (.int .i64) (.no))],[((.exit 0),[(1,.val (.int .i64) (.no)),(2,.val (.slice 216 (.named .TRen)) (.no)),(7,.val (.slice 8 (.int .i64)) (.yes 0))])],ng⟩
def Ka:MarkK ab:=⟨[(1,.val (.int .i64) (.no)),(2,.val (.slice 216 (.named .TRen)) (.no)),(7,.val (.slice 8 (.int .i64)) (.yes 0)),(9,.val (.int .i64) (.no))],[((.exit 2),[(1,.val (.int .i64) (.no)),(7,.val (.slice 8 (.int .i64)) (.yes 0))])],na⟩
def Kb:MarkK ab:=⟨[(1,.val (.int .i64) (.no)),(7,.val (.slice 8 (.int .i64)) (.yes 0)),(10,.val (.int .i64) (.no))],[(.ret,[(1,.val (.int .i64) (.no)),(6,.val (.bool) (.no)),(7,.val (.slice 8 (.int .i64)) (.yes 0))]),((.exit 4),[(1,.val (.int .i64) (.no)),(6,.undef),(7,.val (.slice 8 (.int .i64)) (.yes 0))])],nf⟩
def BN:FnK ab:=⟨[.val (.named .TNames) (.no),.val (.int .i64) (.no),.val (.slice 216 (.named .TRen)) (.no)],Bool,fun a:kL=>tp a.1 a.2.1 a.2.2.1,fun r:Bool=>(.val (.bool) r (.no),[.undef,.undef,.undef])⟩
def qv:Tt:=tbl [(159,vp),(160,BM)]
def qd:Qt:=aG [(7,Kc),(20,Ka),(35,Kb)]
def oI:=gx ⟨[0,1,2,3,6,7,8,9,10,37,43,60,66,74,87],[],[true],[(15,[(1,.any),(2,.any),(3,.any),(7,.any),(8,.any),(9,.any)]),(16,[(1,.any),(2,.any),(3,.any),(6,.any),(7,.any)]),(17,[(1,.any),(2,.any),(3,.any),(7,.any),(8,.any),(9,.any)])]⟩ Tryz.f68
def Kd:MarkK ab:=⟨[(1,.val (.int .i64) (.no)),(2,.val (.slice 216 (.named .TRen)) (.no)),(3,.box (.named .TNames) (.no)),(7,.box (.arr 16 (.int .i64)) (.no)),(8,.val (.int .u64) (.no)),(9,.val (.int .i64) (.no))],[(.ret,[(1,.val (.int .i64) (.no)),(2,.val (.slice 216 (.named .TRen)) (.no)),(3,.box (.named .TNames) (.no)),(6,.val (.bool) (.no)),(7,.box (.arr 16 (.int .i64)) (.no))]),((.exit 0),[(1,.val (.int .i64) (.no)),(2,.val (.slice 216 (.named .TRen)) (.no)),(3,.box (.named .TNames) (.no)),(6,.undef),(7,.box (.arr 16 (.int .i64)) (.no))])],m9⟩
def BO:FnK ab:=⟨[.val (.named .TNames) (.no),.val (.int .i64) (.no),.val (.slice 216 (.named .TRen)) (.no)],Bool,fun a:kL=>ke a.1 a.2.1 a.2.2.1,fun r:Bool=>(.val (.bool) r (.no),[.undef,.undef,.undef])⟩
def IM:Tt:=tbl [(122,BJ),(123,BK),(124,BL),(125,BN)]
def Hx:Qt:=aG [(15,Kd)]
def oJ:=gx ⟨[0,1,2,3,4,5,10,29],[],[true],[(5,[(2,.any),(3,.any),(5,.any)]),(6,[(4,.any)]),(7,[(2,.any),(3,.any),(5,.any)])]⟩ Tryz.f126
def Ke:MarkK ab:=⟨[(2,.box (.named .TCore) (.no)),(3,.box (.named .TRen) (.no)),(5,.val (.int .i64) (.no))],[(.ret,[(4,.val (.bool) (.no))]),((.exit 0),[(4,.undef)])],u4⟩
def vq:FnK ab:=⟨[.val (.named .TCore) (.no),.val (.named .TRen) (.no)],Bool,fun a:xg=>mL a.1 a.2.1,fun r:Bool=>(.val (.bool) r (.no),[.undef,.undef])⟩
def Hy:Qt:=aG [(5,Ke)]
def jk:=gx ⟨[0,1,2,3,4,9,20,23,40],[],[true],[(5,[(1,.any),(3,.any)]),(6,[(2,.any)]),(7,[(1,.any),(3,.any)]),(20,[(1,.any),(3,.any),(4,.any)]),(21,[(1,.any),(2,.any),(3,.any)]),(22,[(1,.any),(3,.any),(4,.any)])]⟩ Tryz.f69
def Kf:MarkK ab:=⟨[(1,.box (.named .TCore) (.no)),(3,.val (.int .i64) (.no)),(4,.val (.int .i64) (.no))],[(.ret,[(1,.box (.named .TCore) (.no)),(2,.val (.bool) (.no)),(3,.val (.int .i64) (.no))]),((.exit 2),[(1,.box (.named .TCore) (.no)),(2,.undef),(3,.val (.int .i64) (.no))])],uV⟩
def Kg:MarkK ab:=⟨[(1,.box (.named .TCore) (.no)),(3,.val (.int .i64) (.no))],[(.ret,[(2,.val (.bool) (.no))]),((.exit 0),[(2,.undef)])],uW⟩
def BQ:FnK ab:=⟨[.val (.named .TCore) (.no)],Bool,fun a:Y0=>iM a.1,fun r:Bool=>(.val (.bool) r (.no),[.undef])⟩
def zG:Tt:=tbl [(126,vq)]
def ze:Qt:=aG [(20,Kf),(5,Kg)]
def gm:=gx ⟨[0,1,2,3,4,5,6,11,23,26,38,43,55],[],[true],[(5,[(1,.any),(3,.any)]),(6,[(2,.any)]),(7,[(1,.any),(3,.any)]),(22,[(1,.any),(3,.any),(4,.any),(5,.any)]),(23,[(1,.any),(2,.any),(3,.any),(4,.any)]),(24,[(1,.any),(3,.any),(4,.any),(5,.any)]),(39,[(1,.any),(3,.any),(4,.any),(6,.any)]),(40,[(1,.any),(2,.any),(3,.any)]),(41,[(1,.any),(3,.any),(4,.any),(6,.any)])]⟩ Tryz.f70
def Kh:MarkK ab:=⟨[(1,.box (.named .TCore) (.no)),(3,.val (.int .i64) (.no)),(4,.box (.named .TRen) (.no)),(5,.val (.int .i64) (.no))],[(.ret,[(1,.box (.named .TCore) (.no)),(2,.val (.bool) (.no)),(3,.val (.int .i64) (.no)),(4,.box (.named .TRen) (.no))]),((.exit 2),[(1,.box (.named .TCore) (.no)),(2,.undef),(3,.val (.int .i64) (.no)),(4,.box (.named .TRen) (.no))])],uQ⟩
def Ki:MarkK ab:=⟨[(1,.box (.named .TCore) (.no)),(3,.val (.int .i64) (.no)),(4,.box (.named .TRen) (.no)),(6,.val (.int .i64) (.no))],[(.ret,[(1,.box (.named .TCore) (.no)),(2,.val (.bool) (.no)),(3,.val (.int .i64) (.no))]),((.exit 4),[(1,.box (.named .TCore) (.no)),(2,.undef),(3,.val (.int .i64) (.no))])],uR⟩
def Kj:MarkK ab:=⟨[(1,.box (.named .TCore) (.no)),(3,.val (.int .i64) (.no))],[(.ret,[(2,.val (.bool) (.no))]),((.exit 0),[(2,.undef)])],uS⟩
def BR:FnK ab:=⟨[.val (.named .TCore) (.no)],Bool,fun a:Y0=>gG a.1,fun r:Bool=>(.val (.bool) r (.no),[.undef])⟩
def qw:Tt:=tbl [(126,vq)]
def qe:Qt:=aG [(22,Kh),(39,Ki),(5,Kj)]
def oK:=gx ⟨[0,1,2,4,5,6,12,24],[],[true],[(7,[(1,.any),(2,.any),(5,.any),(6,.any)]),(8,[(5,.any)]),(9,[(1,.any),(2,.any),(5,.any),(6,.any)])]⟩ Tryz.f127
def Kk:MarkK ab:=⟨[(1,.val (.int .i64) (.no)),(2,.box (.named .TCore) (.no)),(5,.val (.slice 8 (.int .u64)) (.yes 0)),(6,.val (.int .i64) (.no))],[((.exit 0),[(5,.val (.slice 8 (.int .u64)) (.yes 0))])],uX⟩
def BS:FnK ab:=⟨[.val (.named .TCore) (.no),.val (.int .i64) (.no)],Sl 8 (W .u64),fun a:dm=>mJ a.1 a.2.1,fun r:Sl 8 (W .u64)=>(.val (.slice 8 (.int .u64)) r (.no),[.undef,.undef])⟩
def Hz:Qt:=aG [(7,Kk)]
def jl:=gx ⟨[0,1,2,3,4,5,6,24,35,48,59,72],[],[true],[(13,[(1,.any),(3,.any),(4,.any),(5,.any)]),(14,[(1,.any),(2,.any),(4,.any)]),(15,[(1,.any),(3,.any),(4,.any),(5,.any)]),(30,[(1,.any),(4,.any),(6,.any)]),(31,[(2,.any)]),(32,[(1,.any),(4,.any),(6,.any)])]⟩ Tryz.f71
def Kl:MarkK ab:=⟨[(1,.box (.named .TCore) (.no)),(3,.val (.slice 8 (.int .u64)) (.no)),(4,.val (.slice 8 (.int .u64)) (.no)),(5,.val (.int .i64) (.no))],[(.ret,[(1,.box (.named .TCore) (.no)),(2,.val (.bool) (.no)),(4,.val (.slice 8 (.int .u64)) (.no))]),((.exit 0),[(1,.box (.named .TCore) (.no)),(2,.undef),(4,.val (.slice 8 (.int .u64)) (.no))])],uT⟩
def Km:MarkK ab:=⟨[(1,.box (.named .TCore) (.no)),(4,.val (.slice 8 (.int .u64)) (.no)),(6,.val (.int .i64) (.no))],[(.ret,[(2,.val (.bool) (.no))]),((.exit 2),[(2,.undef)])],uU⟩
def BT:FnK ab:=⟨[.val (.named .TCore) (.no)],Bool,fun a:Y0=>fS a.1,fun r:Bool=>(.val (.bool) r (.no),[.undef])⟩
def zH:Tt:=tbl [(127,BS)]
def zg:Qt:=aG [(13,Kl),(30,Km)]
def Xi:=gx ⟨[0,1,2,4,5,9,15],[],[true,true],[]⟩ Tryz.f128
def vr:FnK ab:=⟨[.val (.named .TPhys) (.no),.val (.int .i64) (.no)],W .u32×Bool,fun a:gW=>tl a.1 a.2.1,fun r:W .u32×Bool=>(.tup [.val (.int .u32) r.1 (.no),.val (.bool) r.2 (.no)],[.undef,.undef])⟩
def ag7:Tt:=tbl [(91,vA)]
def oL:=gx ⟨[0,1,2,3,4,5,6,8],[],[true],[(7,[(2,.any),(3,.any),(4,.any),(5,.any),(6,.any)]),(8,[(4,.any),(5,.any)]),(9,[(2,.any),(3,.any),(4,.any),(5,.any),(6,.any)])]⟩ Tryz.f72
def Kn:MarkK ab:=⟨[(2,.box (.named .TPhys) (.no)),(3,.box (.arr 16 (.int .i64)) (.no)),(4,.box (.arr 16 (.int .u32)) (.no)),(5,.box (.arr 16 (.int .u32)) (.no)),(6,.val (.int .i64) (.no))],[((.exit 0),[(4,.box (.arr 16 (.int .u32)) (.no)),(5,.box (.arr 16 (.int .u32)) (.no))])],Md⟩
def BU:FnK ab:=⟨[.val (.named .TPhys) (.no),.val (.arr 16 (.int .i64)) (.no)],Arr 16 (W .u32),fun a:wg=>fk a.1 a.2.1,fun r:Arr 16 (W .u32)=>(.val (.arr 16 (.int .u32)) r (.no),[.undef,.undef])⟩
def IP:Tt:=tbl [(128,vr)]
def HA:Qt:=aG [(7,Kn)]
def oM:=gx ⟨[0,1,2,3,5,19],[],[true],[(5,[(1,.any),(3,.any)]),(6,[(1,.any),(2,.any)]),(7,[(1,.any),(3,.any)])]⟩ Tryz.f73
def Ko:MarkK ab:=⟨[(1,.box (.named .TArch) (.no)),(3,.val (.int .i64) (.no))],[(.ret,[(1,.box (.named .TArch) (.no)),(2,.val (.bool) (.no))]),((.exit 0),[(1,.box (.named .TArch) (.no)),(2,.undef)])],uP⟩
def BV:FnK ab:=⟨[.val (.named .TArch) (.no)],Bool,fun a:wz=>eT a.1,fun r:Bool=>(.val (.bool) r (.no),[.undef])⟩
def IQ:Tt:=tbl [(82,N7)]
def HB:Qt:=aG [(5,Ko)]
def oN:=gx ⟨[0,1,2,3,4,5,6,11,32,49],[],[true],[(5,[(1,.any),(3,.any)]),(6,[(2,.any)]),(7,[(1,.any),(3,.any)])]⟩ Tryz.f74
def Kp:MarkK ab:=⟨[(1,.box (.named .TCore) (.no)),(3,.val (.int .i64) (.no))],[(.ret,[(2,.val (.bool) (.no))]),((.exit 0),[(2,.undef)])],u3⟩
def BW:FnK ab:=⟨[.val (.named .TCore) (.no)],Bool,fun a:Y0=>eA a.1,fun r:Bool=>(.val (.bool) r (.no),[.undef])⟩
def IU:Tt:=tbl [(128,vr)]
def HC:Qt:=aG [(5,Kp)]
def bH:=gx ⟨[0,1,2,3,4,5,8,16,53,64,70,76,82,95,102,108],[],[false],[(7,[(1,.any)]),(8,[(2,.any),(3,.any)]),(15,[(1,.any),(3,.any),(4,.any),(5,.any)]),(16,[(1,.any),(3,.any),(4,.any)]),(17,[(1,.any),(3,.any),(4,.any),(5,.any)]),(20,[(1,.any),(3,.any),(4,.any),(5,.any)]),(21,[(1,.any),(3,.any),(4,.any),(5,.any)]),(24,[(1,.any),(3,.any),(4,.any)]),(25,[(2,.any),(3,.any)]),(26,[(1,.any),(3,.any),(4,.any),(53,.any)]),(27,[(1,.any),(3,.any),(4,.any)]),(28,[(1,.any),(3,.any),(4,.any)]),(29,[(2,.any),(3,.any)]),(32,[(1,.any),(3,.any)]),(33,[(2,.any),(3,.any)]),(36,[(1,.any),(3,.any)]),(37,[(2,.any),(3,.any)]),(40,[(1,.any),(3,.any)]),(41,[(2,.any),(3,.any)]),(44,[(1,.any),(3,.any)]),(45,[(2,.any),(3,.any)]),(48,[(1,.any),(3,.any)]),(49,[(2,.any),(3,.any)]),(52,[(1,.any),(3,.any)]),(53,[(2,.any),(3,.any)]),(56,[(3,.any)]),(57,[(2,.any),(3,.any)])]⟩ Tryz.f24
def Kr:MarkK ab:=⟨[(1,.box (.named .TCore) (.no)),(3,.val (.slice 8 (.int .i64)) (.yes 0)),(4,.val (.slice 216 (.named .TRen)) (.yes 0)),(5,.val (.int .i64) (.no))],[(.normal,[(1,.box (.named .TCore) (.no)),(3,.val (.slice 8 (.int .i64)) (.yes 0)),(4,.val (.slice 216 (.named .TRen)) (.yes 0)),(5,.val (.int .i64) (.no))])],Ba⟩
def Kq:MarkK ab:=⟨[(1,.box (.named .TCore) (.no)),(3,.val (.slice 8 (.int .i64)) (.yes 0)),(4,.val (.slice 216 (.named .TRen)) (.yes 0)),(5,.val (.int .i64) (.no))],[((.exit 0),[(1,.box (.named .TCore) (.no)),(3,.val (.slice 8 (.int .i64)) (.yes 0)),(4,.val (.slice 216 (.named .TRen)) (.yes 0))])],nl⟩
def Kt:MarkK ab:=⟨[(1,.box (.named .TCore) (.no)),(3,.val (.slice 8 (.int .i64)) (.yes 0)),(4,.val (.slice 216 (.named .TRen)) (.yes 0)),(53,.val (.bool) (.no))],[(.normal,[(1,.box (.named .TCore) (.no)),(3,.val (.slice 8 (.int .i64)) (.yes 0)),(4,.val (.slice 216 (.named .TRen)) (.yes 0))])],iQ⟩
def KB:MarkK ab:=⟨[(3,.val (.slice 8 (.int .i64)) (.yes 0))],[(.ret,[(2,.ref 3 []),(3,.val (.slice 8 (.int .i64)) (.yes 0))])],uN⟩
def KA:MarkK ab:=⟨[(1,.box (.named .TCore) (.no)),(3,.val (.slice 8 (.int .i64)) (.yes 0))],[(.ret,[(2,.ref 3 []),(3,.val (.slice 8 (.int .i64)) (.yes 0))])],nw⟩
def Kz:MarkK ab:=⟨[(1,.box (.named .TCore) (.no)),(3,.val (.slice 8 (.int .i64)) (.yes 0))],[(.ret,[(2,.ref 3 []),(3,.val (.slice 8 (.int .i64)) (.yes 0))])],nv⟩
def Ky:MarkK ab:=⟨[(1,.box (.named .TCore) (.no)),(3,.val (.slice 8 (.int .i64)) (.yes 0))],[(.ret,[(2,.ref 3 []),(3,.val (.slice 8 (.int .i64)) (.yes 0))])],nu⟩
def Kx:MarkK ab:=⟨[(1,.box (.named .TCore) (.no)),(3,.val (.slice 8 (.int .i64)) (.yes 0))],[(.ret,[(2,.ref 3 []),(3,.val (.slice 8 (.int .i64)) (.yes 0))])],nr⟩
def Kw:MarkK ab:=⟨[(1,.box (.named .TCore) (.no)),(3,.val (.slice 8 (.int .i64)) (.yes 0))],[(.ret,[(2,.ref 3 []),(3,.val (.slice 8 (.int .i64)) (.yes 0))])],nq⟩
def Kv:MarkK ab:=⟨[(1,.box (.named .TCore) (.no)),(3,.val (.slice 8 (.int .i64)) (.yes 0))],[(.ret,[(2,.ref 3 []),(3,.val (.slice 8 (.int .i64)) (.yes 0))])],nm⟩
def Ku:MarkK ab:=⟨[(1,.box (.named .TCore) (.no)),(3,.val (.slice 8 (.int .i64)) (.yes 0)),(4,.val (.slice 216 (.named .TRen)) (.yes 0))],[(.ret,[(2,.ref 3 []),(3,.val (.slice 8 (.int .i64)) (.yes 0))])],ku⟩
def Ks:MarkK ab:=⟨[(1,.box (.named .TCore) (.no)),(3,.val (.slice 8 (.int .i64)) (.yes 0)),(4,.val (.slice 216 (.named .TRen)) (.yes 0))],[(.ret,[(2,.ref 3 []),(3,.val (.slice 8 (.int .i64)) (.yes 0))])],uM⟩
def KC:MarkK ab:=⟨[(1,.box (.named .TCore) (.no))],[(.ret,[(2,.ref 3 []),(3,.val (.slice 8 (.int .i64)) (.yes 0))])],uO⟩
def BX:FnK ab:=⟨[.val (.named .TCore) (.no)],Sl 8 (W .i64),fun a:Y0=>tB a.1,fun r:Sl 8 (W .i64)=>(.val (.slice 8 (.int .i64)) r (.yes 0),[.undef])⟩
def dI:Tt:=tbl [(66,BH),(67,BI),(68,BO),(69,BQ),(70,BR),(71,BT),(72,BU),(73,BV),(74,BW)]
def dD:Qt:=aG [(20,Kr),(15,Kq),(26,Kt),(56,KB),(52,KA),(48,Kz),(44,Ky),(40,Kx),(36,Kw),(32,Kv),(28,Ku),(24,Ks),(7,KC)]
def jm:=gx ⟨[0,1,2,4,5,6,7,8,17,23,32,36],[],[true],[(7,[(5,.any),(6,.any)]),(8,[(4,.any)]),(9,[(5,.any),(6,.any)]),(18,[(5,.any),(6,.any),(7,.any),(8,.any)]),(19,[(5,.any),(6,.any),(7,.any)]),(20,[(5,.any),(6,.any),(7,.any),(8,.any)])]⟩ Tryz.f161
def KD:MarkK ab:=⟨[(5,.val (.slice 40 (.named .TWay)) (.no)),(6,.val (.int .i64) (.no)),(7,.val (.int .i64) (.no)),(8,.val (.int .i64) (.no))],[((.exit 2),[(5,.val (.slice 40 (.named .TWay)) (.no)),(6,.val (.int .i64) (.no)),(7,.val (.int .i64) (.no))])],uD⟩
def KE:MarkK ab:=⟨[(5,.val (.slice 40 (.named .TWay)) (.no)),(6,.val (.int .i64) (.no))],[(.ret,[(4,.val (.bool) (.no))]),((.exit 0),[(4,.undef)])],uE⟩
def B0:FnK ab:=⟨[.val (.named .TCache) (.no),.val (.int .i64) (.no)],Bool,fun a:fw=>kg a.1 a.2.1,fun r:Bool=>(.val (.bool) r (.no),[.undef,.undef])⟩
def zh:Qt:=aG [(18,KD),(7,KE)]
def Xj:=gx ⟨[0,1,2,4,8],[],[true],[]⟩ Tryz.f173
def vt:FnK ab:=⟨[.val (.named .TCache) (.no),.val (.int .u32) (.no)],W .i64,fun a:eB=>gF a.1 a.2.1,fun r:W .i64=>(.val (.int .i64) r (.no),[.undef,.undef])⟩
def jn:=gx ⟨[0,1,2,4,5,6,7,16,32,74,77,106],[],[true],[(7,[(1,.any),(2,.any),(5,.any),(6,.any)]),(8,[(4,.any)]),(9,[(1,.any),(2,.any),(5,.any),(6,.any)]),(28,[(1,.any),(2,.any),(5,.any),(6,.any),(7,.any)]),(29,[(1,.any),(2,.any),(4,.any),(5,.any),(6,.any)]),(30,[(1,.any),(2,.any),(5,.any),(6,.any),(7,.any)])]⟩ Tryz.f162
def KF:MarkK ab:=⟨[(1,.val (.int .i64) (.no)),(2,.box (.named .TCache) (.no)),(5,.val (.slice 40 (.named .TWay)) (.no)),(6,.val (.int .i64) (.no)),(7,.val (.int .i64) (.no))],[(.ret,[(1,.val (.int .i64) (.no)),(2,.box (.named .TCache) (.no)),(4,.val (.bool) (.no)),(5,.val (.slice 40 (.named .TWay)) (.no)),(6,.val (.int .i64) (.no))]),((.exit 2),[(1,.val (.int .i64) (.no)),(2,.box (.named .TCache) (.no)),(4,.undef),(5,.val (.slice 40 (.named .TWay)) (.no)),(6,.val (.int .i64) (.no))])],iP⟩
def KG:MarkK ab:=⟨[(1,.val (.int .i64) (.no)),(2,.box (.named .TCache) (.no)),(5,.val (.slice 40 (.named .TWay)) (.no)),(6,.val (.int .i64) (.no))],[(.ret,[(4,.val (.bool) (.no))]),((.exit 0),[(4,.undef)])],uF⟩
def B1:FnK ab:=⟨[.val (.named .TCache) (.no),.val (.int .i64) (.no)],Bool,fun a:fw=>ki a.1 a.2.1,fun r:Bool=>(.val (.bool) r (.no),[.undef,.undef])⟩
def zI:Tt:=tbl [(173,vt)]
def zi:Qt:=aG [(28,KF),(7,KG)]
def oP:=gx ⟨[0,1,2,3,4,14,19,54],[],[true],[(11,[(1,.any),(3,.any)]),(12,[(2,.any)]),(13,[(1,.any),(3,.any)])]⟩ Tryz.f129
def KH:MarkK ab:=⟨[(1,.box (.named .TCache) (.no)),(3,.val (.int .i64) (.no))],[(.ret,[(2,.val (.bool) (.no))]),((.exit 0),[(2,.undef)])],uC⟩
def B2:FnK ab:=⟨[.val (.named .TCache) (.no)],Bool,fun a:xM=>mD a.1,fun r:Bool=>(.val (.bool) r (.no),[.undef])⟩
def IV:Tt:=tbl [(161,B0),(162,B1)]
def HE:Qt:=aG [(11,KH)]
def Xk:=gx ⟨[0,1,2,4],[],[true],[]⟩ Tryz.f130
def vu:FnK ab:=⟨[.val (.named .TCoh) (.no),.val (.int .u32) (.no)],Bool,fun a:kO=>mE a.1 a.2.1,fun r:Bool=>(.val (.bool) r (.no),[.undef,.undef])⟩
def oQ:=gx ⟨[0,1,2,4,5,6,9],[],[true],[(7,[(1,.any),(2,.any),(4,.any),(5,.any),(6,.any)]),(8,[(4,.any),(5,.any)]),(9,[(1,.any),(2,.any),(4,.any),(5,.any),(6,.any)])]⟩ Tryz.f131
def KI:MarkK ab:=⟨[(1,.val (.int .u32) (.no)),(2,.box (.named .TCoh) (.no)),(4,.box (.arr 16 (.int .u8)) (.no)),(5,.box (.arr 16 (.int .u8)) (.no)),(6,.val (.int .i64) (.no))],[((.exit 0),[(4,.box (.arr 16 (.int .u8)) (.no)),(5,.box (.arr 16 (.int .u8)) (.no))])],nj⟩
def B3:FnK ab:=⟨[.val (.named .TCoh) (.no),.val (.int .u32) (.no)],Arr 16 (W .u8),fun a:kO=>mF a.1 a.2.1,fun r:Arr 16 (W .u8)=>(.val (.arr 16 (.int .u8)) r (.no),[.undef,.undef])⟩
def HF:Qt:=aG [(7,KI)]
def Xl:=gx ⟨[0,1,2,4],[],[true],[]⟩ Tryz.f163
def B4:FnK ab:=⟨[.val (.named .TCoh) (.no),.val (.int .i64) (.no)],Bool,fun a:fx=>tu a.1 a.2.1,fun r:Bool=>(.val (.bool) r (.no),[.undef,.undef])⟩
def oS:=gx ⟨[0,1,2,4,5,6,7,8,13,21,46],[],[true,true,true],[(13,[(1,.any),(2,.any),(7,.any),(8,.any)]),(14,[(4,.any),(5,.any),(6,.any)]),(15,[(1,.any),(2,.any),(7,.any),(8,.any)])]⟩ Tryz.f174
def KJ:MarkK ab:=⟨[(1,.val (.int .u32) (.no)),(2,.box (.named .TCache) (.no)),(7,.val (.int .i64) (.no)),(8,.val (.int .i64) (.no))],[(.ret,[(4,.val (.int .i64) (.no)),(5,.val (.int .i64) (.no)),(6,.val (.bool) (.no))]),((.exit 0),[(4,.undef),(5,.undef),(6,.undef)])],uB⟩
def B5:FnK ab:=⟨[.val (.named .TCache) (.no),.val (.int .u32) (.no)],W .i64×W .i64×Bool,fun a:eB=>kf a.1 a.2.1,fun r:W .i64×W .i64×Bool=>(.tup [.val (.int .i64) r.1 (.no),.val (.int .i64) r.2.1 (.no),.val (.bool) r.2.2 (.no)],[.undef,.undef])⟩
def IW:Tt:=tbl [(173,vt)]
def HG:Qt:=aG [(13,KJ)]
def Xm:=gx ⟨[0,1,2,4,5,6,7,16],[],[true],[]⟩ Tryz.f164
def B6:FnK ab:=⟨[.val (.named .TCache) (.no),.val (.int .u32) (.no)],TWay,fun a:eB=>tz a.1 a.2.1,fun r:TWay=>(.val (.named .TWay) r (.no),[.undef,.undef])⟩
def ag8:Tt:=tbl [(174,B5)]
def Xn:=gx ⟨[0,1,2,3,6,10],[],[true],[]⟩ Tryz.f132
def B7:FnK ab:=⟨[.val (.named .TCoh) (.no),.val (.int .i64) (.no),.val (.int .u32) (.no)],W .i64,fun a:Ng=>tw a.1 a.2.1 a.2.2.1,fun r:W .i64=>(.val (.int .i64) r (.no),[.undef,.undef,.undef])⟩
def ag9:Tt:=tbl [(163,B4),(164,B6)]
def oT:=gx ⟨[0,2,3,4,5,9,23,28,35],[],[true],[(7,[(0,.any),(3,.any),(4,.any),(5,.any)]),(8,[(2,.any),(3,.any),(4,.any)]),(9,[(0,.any),(3,.any),(4,.any),(5,.any)])]⟩ Tryz.f133
def KL:MarkK ab:=⟨[(0,.val (.slice 8 (.int .i64)) (.no)),(3,.val (.int .i64) (.no)),(4,.val (.bool) (.no)),(5,.val (.int .i64) (.no))],[(.ret,[(2,.val (.bool) (.no)),(3,.val (.int .i64) (.no)),(4,.val (.bool) (.no))]),((.exit 0),[(2,.undef),(3,.val (.int .i64) (.no)),(4,.val (.bool) (.no))])],ni⟩
def B8:FnK ab:=⟨[.val (.slice 8 (.int .i64)) (.no)],Bool,fun a:cq=>mC a.1,fun r:Bool=>(.val (.bool) r (.no),[.undef])⟩
def HH:Qt:=aG [(7,KL)]
def eX:=gx ⟨[0,1,2,3,4,5,6,7,8,13,22,31,45,62,81,87,100],[],[true],[(5,[(1,.any),(3,.any)]),(6,[(2,.any)]),(7,[(1,.any),(3,.any)]),(20,[(1,.any),(3,.any),(4,.any)]),(21,[(1,.any),(2,.any),(3,.any)]),(22,[(1,.any),(3,.any),(4,.any)]),(29,[(1,.any),(3,.any),(4,.any),(5,.any)]),(30,[(1,.any),(2,.any),(3,.any),(4,.any)]),(31,[(1,.any),(3,.any),(4,.any),(5,.any)]),(52,[(1,.any),(3,.any),(4,.any),(5,.any),(6,.any),(7,.any),(8,.any)]),(53,[(1,.any),(3,.any),(4,.any),(5,.any),(7,.any)]),(54,[(1,.any),(3,.any),(4,.any),(5,.any),(6,.any),(7,.any),(8,.any)])]⟩ Tryz.f76
def KP:MarkK ab:=⟨[(1,.box (.named .TCoh) (.no)),(3,.val (.int .i64) (.no)),(4,.val (.int .i64) (.no)),(5,.val (.int .i64) (.no)),(6,.box (.named .TWay) (.no)),(7,.val (.slice 8 (.int .i64)) (.yes 0)),(8,.val (.int .i64) (.no))],[((.exit 6),[(1,.box (.named .TCoh) (.no)),(3,.val (.int .i64) (.no)),(4,.val (.int .i64) (.no)),(5,.val (.int .i64) (.no)),(7,.val (.slice 8 (.int .i64)) (.yes 0))])],kq⟩
def KN:MarkK ab:=⟨[(1,.box (.named .TCoh) (.no)),(3,.val (.int .i64) (.no)),(4,.val (.int .i64) (.no)),(5,.val (.int .i64) (.no))],[(.ret,[(1,.box (.named .TCoh) (.no)),(2,.val (.bool) (.no)),(3,.val (.int .i64) (.no)),(4,.val (.int .i64) (.no))]),((.exit 4),[(1,.box (.named .TCoh) (.no)),(2,.undef),(3,.val (.int .i64) (.no)),(4,.val (.int .i64) (.no))])],uH⟩
def KM:MarkK ab:=⟨[(1,.box (.named .TCoh) (.no)),(3,.val (.int .i64) (.no)),(4,.val (.int .i64) (.no))],[(.ret,[(1,.box (.named .TCoh) (.no)),(2,.val (.bool) (.no)),(3,.val (.int .i64) (.no))]),((.exit 2),[(1,.box (.named .TCoh) (.no)),(2,.undef),(3,.val (.int .i64) (.no))])],uG⟩
def KO:MarkK ab:=⟨[(1,.box (.named .TCoh) (.no)),(3,.val (.int .i64) (.no))],[(.ret,[(2,.val (.bool) (.no))]),((.exit 0),[(2,.undef)])],uI⟩
def B9:FnK ab:=⟨[.val (.named .TCoh) (.no)],Bool,fun a:dM=>tv a.1,fun r:Bool=>(.val (.bool) r (.no),[.undef])⟩
def lI:Tt:=tbl [(129,B2),(130,vu),(131,B3),(132,B7),(133,B8)]
def lA:Qt:=aG [(52,KP),(29,KN),(20,KM),(5,KO)]
def Xp:=gx ⟨[0,1,2],[],[true],[]⟩ Tryz.f25
def Ca:FnK ab:=⟨[.val (.named .TCoh) (.no)],Bool,fun a:dM=>mH a.1,fun r:Bool=>(.val (.bool) r (.no),[.undef])⟩
def aha:Tt:=tbl [(75,N6),(76,B9)]
def Xq:=gx ⟨[0,1,2,3,1000023],[],[false],[]⟩ Tryz.f134
def vx:FnK ab:=⟨[.val (.named .TCoh) (.no)],TCoh,fun a:dM=>mG a.1,fun r:TCoh=>(.val (.named .TCoh) r (.st [.yes 0,.yes 0]),[.undef])⟩
def oU:=gx ⟨[0,1,2,3,5,6,7,8,12,17],[],[true],[(13,[(1,.any),(5,.any),(6,.any),(7,.any),(8,.any)]),(14,[(6,.any),(7,.any)]),(15,[(1,.any),(5,.any),(6,.any),(7,.any),(8,.any)])]⟩ Tryz.f135
def KQ:MarkK ab:=⟨[(1,.val (.int .u32) (.no)),(5,.box (.arr 16 (.int .u8)) (.no)),(6,.box (.named .TCoh) (.st [.yes 0,.yes 0])),(7,.box (.named .TCoh) (.st [.yes 0,.yes 0])),(8,.val (.int .i64) (.no))],[((.exit 0),[(6,.box (.named .TCoh) (.st [.yes 0,.yes 0])),(7,.box (.named .TCoh) (.st [.yes 0,.yes 0]))])],nk⟩
def Cb:FnK ab:=⟨[.val (.named .TCoh) (.no),.val (.int .u32) (.no),.val (.arr 16 (.int .u8)) (.no)],TCoh,fun a:Nh=>tx a.1 a.2.1 a.2.2.1,fun r:TCoh=>(.val (.named .TCoh) r (.no),[.undef,.undef,.undef])⟩
def IX:Tt:=tbl [(130,vu),(134,vx)]
def HI:Qt:=aG [(13,KQ)]
def gn:=gx ⟨[0,1,2,3,4,5,6,7,15,26,40,57],[],[true],[(7,[(1,.any),(3,.any),(4,.any)]),(8,[(3,.any)]),(9,[(1,.any),(3,.any),(4,.any)]),(16,[(1,.any),(3,.any),(4,.any),(5,.any)]),(17,[(1,.any),(3,.any),(4,.any)]),(18,[(1,.any),(3,.any),(4,.any),(5,.any)]),(25,[(1,.any),(3,.any),(4,.any),(5,.any),(6,.any)]),(26,[(1,.any),(3,.any),(4,.any),(5,.any)]),(27,[(1,.any),(3,.any),(4,.any),(5,.any),(6,.any)])]⟩ Tryz.f78
def KS:MarkK ab:=⟨[(1,.box (.named .TCoh) (.no)),(3,.val (.slice 1 (.int .u8)) (.no)),(4,.val (.int .i64) (.no)),(5,.val (.int .i64) (.no)),(6,.val (.int .i64) (.no))],[((.exit 4),[(1,.box (.named .TCoh) (.no)),(3,.val (.slice 1 (.int .u8)) (.no)),(4,.val (.int .i64) (.no)),(5,.val (.int .i64) (.no))])],uK⟩
def KR:MarkK ab:=⟨[(1,.box (.named .TCoh) (.no)),(3,.val (.slice 1 (.int .u8)) (.no)),(4,.val (.int .i64) (.no)),(5,.val (.int .i64) (.no))],[((.exit 2),[(1,.box (.named .TCoh) (.no)),(3,.val (.slice 1 (.int .u8)) (.no)),(4,.val (.int .i64) (.no))])],uJ⟩
def KT:MarkK ab:=⟨[(1,.box (.named .TCoh) (.no)),(3,.val (.slice 1 (.int .u8)) (.no)),(4,.val (.int .i64) (.no))],[((.exit 0),[(3,.val (.slice 1 (.int .u8)) (.no))])],uL⟩
def Cc:FnK ab:=⟨[.val (.named .TCoh) (.no)],Sl 1 (W .u8),fun a:dM=>AZ a.1,fun r:Sl 1 (W .u8)=>(.val (.slice 1 (.int .u8)) r (.no),[.undef])⟩
def qx:Tt:=tbl [(134,vx),(135,Cb)]
def qf:Qt:=aG [(25,KS),(16,KR),(7,KT)]
def Xr:=gx ⟨[0,1,2],[],[true],[]⟩ Tryz.f27
def Cd:FnK ab:=⟨[.val (.named .TCoh) (.no)],Sl 1 (W .u8),fun a:dM=>tA a.1,fun r:Sl 1 (W .u8)=>(.val (.slice 1 (.int .u8)) r (.no),[.undef])⟩
def ahb:Tt:=tbl [(78,Cc)]
def Xs:=gx ⟨[0,1,2,6,25],[],[true],[]⟩ Tryz.f77
def Ce:FnK ab:=⟨[.val (.slice 1 (.int .u8)) (.no),.val (.int .u32) (.no),.val (.int .i64) (.no)],W .i64,fun a:v9=>kc a.1 a.2.1 a.2.2.1,fun r:W .i64=>(.val (.int .i64) r (.no),[.undef,.undef,.undef])⟩
def oV:=gx ⟨[0,1,4,5,6,9,13,52],[],[true],[(11,[(0,.any),(1,.any),(5,.any)]),(12,[(4,.any)]),(13,[(0,.any),(1,.any),(5,.any)])]⟩ Tryz.f26
def KU:MarkK ab:=⟨[(0,.val (.slice 16 (.named .TSb)) (.no)),(1,.val (.slice 1 (.int .u8)) (.no)),(5,.val (.int .i64) (.no))],[(.ret,[(4,.val (.bool) (.no))]),((.exit 0),[(4,.undef)])],uA⟩
def Cf:FnK ab:=⟨[.val (.slice 16 (.named .TSb)) (.no),.val (.slice 1 (.int .u8)) (.no)],Bool,fun a:xW=>iL a.1 a.2.1,fun r:Bool=>(.val (.bool) r (.no),[.undef,.undef])⟩
def IY:Tt:=tbl [(77,Ce)]
def HJ:Qt:=aG [(11,KU)]
def jo:=gx ⟨[0,2,3,4,5,7,24],[],[true],[(7,[(0,.any),(3,.any),(4,.any)]),(8,[(0,.any),(3,.any)]),(9,[(0,.any),(3,.any),(4,.any)]),(20,[(0,.any),(3,.any),(5,.any)]),(21,[(3,.any)]),(22,[(0,.any),(3,.any),(5,.any)])]⟩ Tryz.f79
def KW:MarkK ab:=⟨[(0,.val (.slice 1 (.int .u8)) (.no)),(3,.val (.bool) (.no)),(4,.val (.int .i64) (.no))],[((.exit 0),[(0,.val (.slice 1 (.int .u8)) (.no)),(3,.val (.bool) (.no))])],uw⟩
def KV:MarkK ab:=⟨[(0,.val (.slice 1 (.int .u8)) (.no)),(3,.val (.bool) (.no)),(5,.val (.int .i64) (.no))],[((.exit 2),[(3,.val (.bool) (.no))])],uv⟩
def Cg:FnK ab:=⟨[.val (.slice 1 (.int .u8)) (.no)],Bool,fun a:cV=>ti a.1,fun r:Bool=>(.val (.bool) r (.no),[.undef])⟩
def zJ:Tt:=tbl [(136,vk)]
def zj:Qt:=aG [(7,KW),(20,KV)]
def Xu:=gx ⟨[0,1,4],[],[true],[]⟩ Tryz.f80
def Ci:FnK ab:=⟨[.val (.int .i64) (.no),.val (.int .i64) (.no)],Bool,fun a:Y9=>my a.1 a.2.1,fun r:Bool=>(.val (.bool) r (.no),[.undef,.undef])⟩
def Xv:=gx ⟨[0,1,2,3,4,5,38],[],[true],[]⟩ Tryz.f28
def Cj:FnK ab:=⟨[.val (.named .TConf) (.no),.val (.named .TPred) (.no)],Bool,fun a:xq=>gD a.1 a.2.1,fun r:Bool=>(.val (.bool) r (.no),[.undef,.undef])⟩
def ahc:Tt:=tbl [(33,vw),(79,Cg),(80,Ci)]
def oW:=gx ⟨[0,2,3,7,64],[],[true],[(5,[(0,.any),(3,.any)]),(6,[(2,.any)]),(7,[(0,.any),(3,.any)])]⟩ Tryz.f29
def KX:MarkK ab:=⟨[(0,.val (.slice 48 (.named .TLq)) (.no)),(3,.val (.int .i64) (.no))],[(.ret,[(2,.val (.bool) (.no))]),((.exit 0),[(2,.undef)])],uz⟩
def Ck:FnK ab:=⟨[.val (.slice 48 (.named .TLq)) (.no)],Bool,fun a:wF=>fR a.1,fun r:Bool=>(.val (.bool) r (.no),[.undef])⟩
def HK:Qt:=aG [(5,KX)]
def oY:=gx ⟨[0,2,3,4,8,48],[],[true],[(7,[(0,.any),(3,.any),(4,.any)]),(8,[(2,.any)]),(9,[(0,.any),(3,.any),(4,.any)])]⟩ Tryz.f30
def KY:MarkK ab:=⟨[(0,.val (.slice 32 (.named .TSq)) (.no)),(3,.val (.int .u64) (.no)),(4,.val (.int .i64) (.no))],[(.ret,[(2,.val (.bool) (.no))]),((.exit 0),[(2,.undef)])],uy⟩
def Cm:FnK ab:=⟨[.val (.slice 32 (.named .TSq)) (.no)],Bool,fun a:xO=>fo a.1,fun r:Bool=>(.val (.bool) r (.no),[.undef])⟩
def HL:Qt:=aG [(7,KY)]
def cB:=gx ⟨[0,1,2,3,4,5,6,7,18,30,35,50,59,66,73],[],[false],[(5,[(2,.any),(3,.any),(5,.any),(18,.any)]),(6,[(2,.any),(3,.any),(4,.any),(5,.any)]),(9,[(2,.any),(3,.any),(5,.any)]),(10,[(4,.any),(5,.any)]),(17,[(2,.any),(3,.any),(5,.any),(6,.any),(7,.any)]),(18,[(4,.any),(5,.any)]),(21,[(2,.any),(3,.any),(5,.any),(6,.any),(7,.any)]),(22,[(4,.any),(5,.any)]),(23,[(2,.any),(5,.any),(50,.any)]),(24,[(2,.any),(5,.any)]),(25,[(2,.any),(5,.any)]),(26,[(4,.any),(5,.any)]),(29,[(2,.any),(5,.any)]),(30,[(4,.any),(5,.any)]),(33,[(2,.any),(5,.any)]),(34,[(4,.any),(5,.any)]),(37,[(5,.any)]),(38,[(4,.any),(5,.any)])]⟩ Tryz.f9
def K7:MarkK ab:=⟨[(2,.box (.named .TCore) (.no)),(3,.box (.named .TCoh) (.no)),(5,.val (.slice 8 (.int .i64)) (.yes 0)),(18,.val (.bool) (.no))],[(.ret,[(2,.box (.named .TCore) (.no)),(3,.box (.named .TCoh) (.no)),(4,.ref 5 []),(5,.val (.slice 8 (.int .i64)) (.yes 0))]),(.normal,[(2,.box (.named .TCore) (.no)),(3,.box (.named .TCoh) (.no)),(4,.undef),(5,.val (.slice 8 (.int .i64)) (.yes 0))])],kA⟩
def K2:MarkK ab:=⟨[(2,.box (.named .TCore) (.no)),(5,.val (.slice 8 (.int .i64)) (.yes 0)),(50,.val (.bool) (.no))],[(.normal,[(2,.box (.named .TCore) (.no)),(5,.val (.slice 8 (.int .i64)) (.yes 0))])],iS⟩
def K6:MarkK ab:=⟨[(5,.val (.slice 8 (.int .i64)) (.yes 0))],[(.ret,[(4,.ref 5 []),(5,.val (.slice 8 (.int .i64)) (.yes 0))])],u5⟩
def K5:MarkK ab:=⟨[(2,.box (.named .TCore) (.no)),(5,.val (.slice 8 (.int .i64)) (.yes 0))],[(.ret,[(4,.ref 5 []),(5,.val (.slice 8 (.int .i64)) (.yes 0))])],nA⟩
def K4:MarkK ab:=⟨[(2,.box (.named .TCore) (.no)),(5,.val (.slice 8 (.int .i64)) (.yes 0))],[(.ret,[(4,.ref 5 []),(5,.val (.slice 8 (.int .i64)) (.yes 0))])],nz⟩
def K3:MarkK ab:=⟨[(2,.box (.named .TCore) (.no)),(5,.val (.slice 8 (.int .i64)) (.yes 0))],[(.ret,[(4,.ref 5 []),(5,.val (.slice 8 (.int .i64)) (.yes 0))])],kz⟩
def K1:MarkK ab:=⟨[(2,.box (.named .TCore) (.no)),(3,.box (.named .TCoh) (.no)),(5,.val (.slice 8 (.int .i64)) (.yes 0)),(6,.val (.bool) (.no)),(7,.val (.bool) (.no))],[(.ret,[(4,.ref 5 []),(5,.val (.slice 8 (.int .i64)) (.yes 0))])],ny⟩
def KZ:MarkK ab:=⟨[(2,.box (.named .TCore) (.no)),(3,.box (.named .TCoh) (.no)),(5,.val (.slice 8 (.int .i64)) (.yes 0)),(6,.val (.bool) (.no)),(7,.val (.bool) (.no))],[(.ret,[(4,.ref 5 []),(5,.val (.slice 8 (.int .i64)) (.yes 0))])],nx⟩
def K8:MarkK ab:=⟨[(2,.box (.named .TCore) (.no)),(3,.box (.named .TCoh) (.no)),(5,.val (.slice 8 (.int .i64)) (.yes 0))],[(.ret,[(4,.ref 5 []),(5,.val (.slice 8 (.int .i64)) (.yes 0))])],nB⟩
def vy:FnK ab:=⟨[.val (.named .TCore) (.no),.val (.named .TCoh) (.no)],Sl 8 (W .i64),fun a:gQ=>kj a.1 a.2.1,fun r:Sl 8 (W .i64)=>(.val (.slice 8 (.int .i64)) r (.yes 0),[.undef,.undef])⟩
def fh:Tt:=tbl [(24,BX),(25,Ca),(26,Cf),(27,Cd),(28,Cj),(29,Ck),(30,Cm)]
def fe:Qt:=aG [(5,K7),(23,K2),(37,K6),(33,K5),(29,K4),(25,K3),(21,K1),(17,KZ),(9,K8)]
def oZ:=gx ⟨[0,1,4,5,10,20,31],[],[true],[(11,[(0,.any),(1,.any),(5,.any)]),(12,[(4,.any)]),(13,[(0,.any),(1,.any),(5,.any)])]⟩ Tryz.f7
def K9:MarkK ab:=⟨[(0,.val (.slice 8 (.int .i64)) (.no)),(1,.val (.slice 8 (.int .i64)) (.no)),(5,.val (.int .i64) (.no))],[(.ret,[(4,.val (.bool) (.no))]),((.exit 0),[(4,.undef)])],u6⟩
def vz:FnK ab:=⟨[.val (.slice 8 (.int .i64)) (.no),.val (.slice 8 (.int .i64)) (.no)],Bool,fun a:Ni=>mM a.1 a.2.1,fun r:Bool=>(.val (.bool) r (.no),[.undef,.undef])⟩
def HM:Qt:=aG [(11,K9)]
def Xw:=gx ⟨[0,1,2,3,4,8],[],[true],[]⟩ Tryz.f3
def Cn:FnK ab:=⟨[.val (.named .TCore) (.no),.val (.named .TCoh) (.no)],Bool,fun a:gQ=>RK a.1 a.2.1,fun r:Bool=>(.val (.bool) r (.no),[.undef,.undef])⟩
def ahd:Tt:=tbl [(5,N2),(6,vm),(7,vz),(8,nJ),(9,vy)]
def pa:=gx ⟨[0,1,2,3,4,5,16,35],[],[true],[(15,[(3,.any),(4,.any),(5,.any)]),(16,[(3,.any)]),(17,[(3,.any),(4,.any),(5,.any)])]⟩ Tryz.f11
def La:MarkK ab:=⟨[(3,.val (.slice 8 (.int .i64)) (.yes 0)),(4,.val (.slice 8 (.int .i64)) (.yes 0)),(5,.val (.int .i64) (.no))],[((.exit 0),[(3,.val (.slice 8 (.int .i64)) (.yes 0))])],nC⟩
def Co:FnK ab:=⟨[.val (.named .TDuo) (.no)],Sl 8 (W .i64),fun a:kM=>tD a.1,fun r:Sl 8 (W .i64)=>(.val (.slice 8 (.int .i64)) r (.no),[.undef])⟩
def IZ:Tt:=tbl [(9,vy)]
def HN:Qt:=aG [(15,La)]
def pb:=gx ⟨[0,1,2,3,7,13,24],[],[true],[(11,[(1,.any),(3,.any)]),(12,[(1,.any),(2,.any)]),(13,[(1,.any),(3,.any)])]⟩ Tryz.f4
def Lb:MarkK ab:=⟨[(1,.box (.named .TDuo) (.no)),(3,.val (.int .i64) (.no))],[(.ret,[(1,.box (.named .TDuo) (.no)),(2,.val (.bool) (.no))]),((.exit 0),[(1,.box (.named .TDuo) (.no)),(2,.undef)])],mT⟩
def Cp:FnK ab:=⟨[.val (.named .TDuo) (.no)],Bool,fun a:kM=>AK a.1,fun r:Bool=>(.val (.bool) r (.no),[.undef])⟩
def I0:Tt:=tbl [(5,N2),(6,vm),(7,vz),(10,vl),(11,Co)]
def HO:Qt:=aG [(11,Lb)]
end
end Go.Proofs.YtnpgljilkkipkaaGreat
