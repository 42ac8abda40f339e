/- YtnpgljilkkipkaaGreatTrees: the functions as decision trees. No statement of the seat is proved here. -/
import Derived.Test.YtnpgljilkkipkaaGreatTypes
import Derived.Test.YtnpgljilkkipkaaGreatA2D
set_option linter.unusedSimpArgs false
set_option linter.unusedVariables false
set_option maxRecDepth 100000
namespace Go.Proofs.YtnpgljilkkipkaaGreat
open Go Go.A2
abbrev Y0:=TCore×Unit
abbrev Y1:=Bool×Unit
abbrev Y2:=Bool×Bool×Bool×Bool×Unit
abbrev Y3:=TConf×Bool×Bool×Bool×Unit
abbrev Y4:=TConf×Bool×Bool×Unit
abbrev Y5:=TConf×Unit
abbrev Y6:=W .i64×W .i64×W .i64×Unit
abbrev Y7:=W .i64×Unit
abbrev Y8:=TFree×W .i64×TFree×W .i64×Unit
abbrev Y9:=W .i64×W .i64×Unit
abbrev vD:=TMach×TCore×TCore×W .i64×Unit
abbrev vL:=W .i64×Arr 96 (Bool)×Sl 8 (W .i64)×W .i64×W .i64×Unit
abbrev kI:=TFree×W .i64×Unit
abbrev Ni:=W .i64×W .i64×Bool×Arr 96 (W .i64)×Unit
abbrev kJ:=Arr 16 (W .i64)×W .i64×Unit
abbrev wx:=Sl 216 (TRen)×((Unit)×(Unit×Unit×Unit×Unit))×W .i64×Bool×Arr 96 (W .i64)×Bool×W .i64×Unit
abbrev wF:=Sl 216 (TRen)×W .i64×Bool×Arr 96 (W .i64)×Bool×W .i64×Unit
abbrev Nw:=Sl 216 (TRen)×((Unit)×(Unit×Unit×Unit×Unit))×W .i64×Bool×Arr 96 (W .i64)×Bool×Unit
abbrev wN:=TNames×W .i64×Sl 216 (TRen)×Bool×Arr 96 (W .i64)×Bool×((Unit)×(Unit×Unit×Unit×Unit))×((Unit)×(Unit×((Unit)×(Unit×Unit×Unit×Unit))×Unit×Unit×Unit×Unit×Unit))×Sl 8 (W .i64)×W .i64×W .i64×Unit
abbrev wP:=TNames×W .i64×Sl 216 (TRen)×Bool×Arr 96 (W .i64)×Bool×((Unit)×(Unit×Unit×Unit×Unit))×W .i64×((Unit)×(Unit×((Unit)×(Unit×Unit×Unit×Unit))×Unit×Unit×Unit×Unit×Unit))×Unit
abbrev kK:=TNames×W .i64×Sl 216 (TRen)×Unit
abbrev wQ:=Sl 248 (TRob)×((Unit)×(TRen×Unit))×W .i64×W .i64×Unit
abbrev wR:=Sl 248 (TRob)×((Unit)×(TRen×Unit))×Unit
abbrev wS:=TCore×TRen×Unit
abbrev wT:=TCore×(List (W .u64×W .i64))×Sl 216 (TRen)×W .i64×W .i64×Unit
abbrev NZ:=TCore×Sl 216 (TRen)×Unit
abbrev wU:=Sl 216 (TRen)×((Unit)×(Sl 216 (TRen)×Unit))×Unit
abbrev wV:=Sl 8 (W .u64)×((Unit)×(Unit))×Sl 32 (TSq)×W .i64×W .i64×Unit
abbrev N0:=Sl 32 (TSq)×Sl 8 (W .u64)×((Unit)×(Unit))×Unit
abbrev wW:=Sl 248 (TRob)×((Unit)×(TCore×Unit))×Unit
abbrev eB:=TCache×W .u32×Unit
abbrev wX:=Sl 8 (W .i64)×((Unit)×(Unit))×W .i64×W .i64×Unit
abbrev wY:=Sl 8 (W .i64)×((Unit)×(Unit))×Unit
abbrev wZ:=W .u64×W .u64×Unit
abbrev cU:=Sl 1 (W .u8)×Unit
abbrev w8:=TConf×TPred×Unit
abbrev Oa:=TWay×Sl 1 (W .u8)×Unit
abbrev w9:=Sl 1 (W .u8)×Sl 24 (TCache)×W .i64×W .i64×Sl 24 (Sl 40 (TWay))×W .i64×W .i64×Sl 40 (TWay)×W .i64×W .i64×Unit
abbrev xd:=Sl 1 (W .u8)×Sl 24 (TCache)×W .i64×W .i64×Sl 24 (Sl 40 (TWay))×W .i64×W .i64×Unit
abbrev xe:=Sl 1 (W .u8)×Sl 24 (TCache)×W .i64×W .i64×Unit
abbrev Ob:=TCoh×Sl 1 (W .u8)×Unit
abbrev dM:=TCoh×Unit
abbrev gM:=Sl 8 (W .i64)×Sl 1 (Bool)×W .i64×W .i64×Unit
abbrev gN:=TCore×TCoh×Unit
abbrev gP:=TCore×W .i64×TRen×W .i64×Unit
abbrev dk:=TCore×W .i64×Unit
abbrev xf:=W .i64×TCore×Sl 8 (W .u64)×W .i64×Unit
abbrev xg:=Sl 40 (TWay)×W .i64×W .i64×W .i64×Unit
abbrev xh:=Sl 40 (TWay)×W .i64×Unit
abbrev fw:=TCache×W .i64×Unit
abbrev fx:=TCoh×W .i64×Unit
abbrev gQ:=Sl 1 (W .u8)×Bool×W .i64×Unit
abbrev gR:=Sl 8 (W .i64)×Sl 8 (W .i64)×W .i64×Unit
abbrev kL:=TDuo×Unit
abbrev gS:=TCoh×W .i64×W .i64×Unit
abbrev xj:=W .i64×Sl 4 (W .u32)×W .i64×Unit
abbrev gU:=TPhys×W .i64×Unit
abbrev xk:=W .i64×W .i64×TCache×TCache×W .i64×Sl 40 (TWay)×W .i64×Unit
abbrev xl:=W .i64×W .i64×TCache×TCache×W .i64×Unit
abbrev xn:=Sl 24 (TBound)×((Unit)×(Unit))×Unit
abbrev xo:=TFree×((TFree×Unit)×(Unit))×Sl 8 (W .i64)×W .i64×W .i64×Unit
abbrev gV:=TFree×Unit
abbrev Oc:=Arr 16 (W .i64)×W .i64×W .i64×Unit
abbrev xp:=TNames×Arr 16 (W .i64)×W .u64×Sl 216 (TRen)×W .i64×W .i64×Unit
abbrev Od:=TNames×Sl 216 (TRen)×Unit
abbrev xq:=Sl 216 (TRen)×((Unit)×(TRen×Unit))×W .i64×W .i64×Unit
abbrev xr:=Sl 216 (TRen)×((Unit)×(TRen×Unit))×Unit
abbrev xt:=Sl 216 (TRen)×Sl 216 (TRen)×Unit
abbrev xu:=Sl 8 (W .u64)×((Unit)×(Unit))×Sl 48 (TLq)×W .i64×W .i64×Unit
abbrev Oe:=Sl 48 (TLq)×Sl 8 (W .u64)×((Unit)×(Unit))×Unit
abbrev xv:=Sl 248 (TRob)×((Unit)×(TCore×Unit))×W .i64×W .i64×Unit
abbrev xw:=TCache×W .i64×W .i64×Unit
abbrev xy:=TCache×Unit
abbrev xz:=W .u64×Sl 32 (TSq)×W .i64×W .i64×Unit
abbrev xB:=Sl 32 (TSq)×Unit
abbrev xC:=TDuo×Sl 8 (W .i64)×W .i64×Sl 1040 (TCore)×W .i64×W .i64×Sl 8 (W .i64)×W .i64×W .i64×Unit
abbrev kM:=TDuo×Sl 8 (W .i64)×Sl 1040 (TCore)×W .i64×W .i64×Unit
abbrev xD:=Sl 248 (TRob)×W .i64×Unit
abbrev xE:=Sl 248 (TRob)×Unit
abbrev gW:=W .i64×Arr 16 (W .i64)×W .i64×W .i64×Unit
abbrev gX:=W .i64×Arr 16 (W .i64)×W .i64×Unit
abbrev xF:=W .i64×Sl 216 (TRen)×TNames×Sl 8 (W .i64)×W .i64×Unit
abbrev xG:=W .i64×Sl 216 (TRen)×Sl 8 (W .i64)×W .i64×Unit
abbrev gY:=W .i64×Sl 8 (W .i64)×W .i64×Unit
abbrev gZ:=TCore×Sl 8 (W .i64)×Sl 216 (TRen)×W .i64×Unit
abbrev Of:=TCore×Sl 8 (W .i64)×Sl 216 (TRen)×Bool×Unit
abbrev ch:=Sl 8 (W .i64)×Unit
abbrev cG:=TCore×Sl 8 (W .i64)×Unit
abbrev hE:=TCore×Sl 8 (W .i64)×Sl 216 (TRen)×Unit
abbrev kN:=TCoh×W .u32×Unit
abbrev xH:=TCoh×Sl 1 (W .u8)×W .i64×W .i64×W .i64×Unit
abbrev kO:=TCoh×Sl 1 (W .u8)×W .i64×W .i64×Unit
abbrev kP:=TCoh×Sl 1 (W .u8)×W .i64×Unit
abbrev xI:=Sl 16 (TSb)×Sl 1 (W .u8)×W .i64×Unit
abbrev xJ:=Sl 16 (TSb)×Sl 1 (W .u8)×Unit
abbrev xK:=TMach×W .i64×Unit
abbrev hH:=W .i64×Sl 1 (W .u8)×W .i64×Unit
abbrev xL:=Arr 16 (W .i64)×Arr 16 (W .i64)×W .i64×Unit
abbrev Og:=TPhys×W .i64×W .u32×Unit
abbrev xM:=Sl 24 (TBound)×((Unit)×(Unit))×W .i64×W .i64×Unit
abbrev vE:=W .u64×W .i64×Sl 248 (TRob)×W .i64×W .i64×Unit
abbrev vF:=TUop×Unit
abbrev vG:=Sl 216 (TRen)×((Unit)×(Sl 216 (TRen)×Unit))×W .i64×W .i64×Unit
abbrev vH:=W .i64×Sl 8 (W .u64)×Sl 248 (TRob)×W .i64×W .i64×Unit
abbrev gK:=Sl 8 (W .i64)×W .i64×W .i64×W .i64×Unit
abbrev kG:=Sl 8 (W .i64)×W .i64×Unit
abbrev vI:=W .i64×TCache×Sl 40 (TWay)×Sl 1 (Bool)×Sl 40 (TWay)×W .i64×W .i64×Unit
abbrev vJ:=Sl 1 (W .u8)×Sl 1 (W .u8)×W .i64×W .i64×Unit
abbrev Nb:=Sl 1 (W .u8)×Sl 1 (W .u8)×Unit
abbrev vK:=((Unit)×(TCoh×Unit))×Sl 24 (TCache)×W .i64×W .i64×Sl 24 (Sl 40 (TWay))×W .i64×W .i64×Sl 40 (TWay)×W .i64×W .i64×Unit
abbrev vM:=((Unit)×(TCoh×Unit))×Sl 24 (TCache)×W .i64×W .i64×Sl 24 (Sl 40 (TWay))×W .i64×W .i64×Unit
abbrev vN:=((Unit)×(TCoh×Unit))×Sl 24 (TCache)×W .i64×W .i64×Unit
abbrev Nc:=TCoh×((Unit)×(TCoh×Unit))×Unit
abbrev vO:=TCoh×Sl 24 (TCache)×W .i64×W .i64×Unit
abbrev kH:=Sl 1 (W .u8)×W .i64×Unit
abbrev vP:=Sl 1 (W .u8)×W .u32×W .i64×Unit
abbrev vQ:=TFree×Sl 8 (W .i64)×W .i64×Unit
abbrev vR:=W .i64×Sl 8 (W .i64)×W .i64×W .i64×Unit
abbrev vT:=W .i64×Sl 216 (TRen)×TNames×Arr 16 (W .i64)×W .u64×W .i64×Unit
abbrev vU:=TCore×W .i64×W .i64×Unit
abbrev gL:=TPhys×Arr 16 (W .i64)×Arr 16 (W .u32)×Arr 16 (W .u32)×W .i64×Unit
abbrev vV:=TPhys×Arr 16 (W .i64)×Unit
abbrev vX:=W .i64×TCache×Sl 40 (TWay)×W .i64×W .i64×Unit
abbrev vY:=W .i64×TCache×Sl 40 (TWay)×W .i64×Unit
abbrev vZ:=W .u32×TCache×W .i64×W .i64×Unit
abbrev Nd:=TCoh×W .i64×W .u32×Unit
abbrev v3:=Sl 8 (W .i64)×W .i64×Bool×W .i64×Unit
abbrev v5:=W .u32×Arr 16 (W .u8)×TCoh×TCoh×W .i64×Unit
abbrev Ng:=TCoh×W .u32×Arr 16 (W .u8)×Unit
abbrev Nh:=Sl 8 (W .i64)×Sl 8 (W .i64)×Unit
abbrev v7:=W .i64×TPhys×TPhys×W .i64×Unit
abbrev Nj:=Sl 1 (W .u8)×W .i64×W .i64×W .i64×Unit
abbrev v8:=TCore×Sl 216 (TRen)×Sl 216 (TRen)×Sl 224 (TIq)×W .i64×W .i64×Unit
abbrev v9:=Sl 216 (TRen)×Sl 216 (TRen)×Sl 256 (TFlight)×W .i64×W .i64×Unit
abbrev wa:=Sl 216 (TRen)×Sl 248 (TRob)×W .i64×W .i64×Unit
abbrev Nk:=TRen×Sl 216 (TRen)×Unit
abbrev wb:=TArch×Arr 12 (W .u32)×W .i64×Unit
abbrev wc:=TArch×Unit
abbrev we:=Sl 40 (TWay)×((Unit)×(W .u32×Unit))×W .i64×W .i64×Unit
abbrev Nl:=Sl 40 (TWay)×((Unit)×(W .u32×Unit))×Unit
abbrev Nm:=Sl 1 (W .u8)×W .u32×Unit
abbrev wg:=W .u32×Sl 8 (W .i64)×Sl 24 (TCache)×W .i64×W .i64×Unit
abbrev wh:=Sl 8 (W .i64)×W .i64×Bool×Sl 8 (W .i64)×W .i64×W .i64×Unit
abbrev wj:=Sl 1 (W .u8)×W .u8×W .i64×Unit
abbrev wk:=W .u64×Sl 48 (TLq)×W .i64×W .i64×Unit
abbrev wm:=Sl 48 (TLq)×Unit
abbrev wo:=Sl 1 (W .u8)×Sl 16 (TSb)×W .i64×W .i64×Unit
abbrev wq:=TCore×TRen×W .i64×Unit
abbrev wu:=TCore×Sl 8 (W .u64)×Sl 8 (W .u64)×W .i64×Unit
abbrev wv:=TCore×Sl 8 (W .u64)×W .i64×Unit
abbrev wy:=TArch×W .i64×Unit
abbrev wz:=W .u32×TCoh×Arr 16 (W .u8)×Arr 16 (W .u8)×W .i64×Unit
abbrev wA:=TCoh×W .i64×W .i64×W .i64×TWay×Sl 8 (W .i64)×W .i64×Unit
abbrev wB:=TCoh×W .i64×W .i64×W .i64×Unit
abbrev wC:=Sl 48 (TLq)×W .i64×Unit
abbrev wD:=Sl 32 (TSq)×W .u64×W .i64×Unit
abbrev Nn:=TCore×TCoh×Sl 8 (W .i64)×Bool×Unit
abbrev Np:=TCore×Sl 8 (W .i64)×Bool×Unit
abbrev wE:=TCore×TCoh×Sl 8 (W .i64)×Bool×Bool×Unit
abbrev Nq:=TCore×TCoh×Sl 8 (W .i64)×Unit
abbrev wG:=TDuo×W .i64×Unit
abbrev wH:=(TCoh×Bool×W .i64×Unit)⊕(TCoh×Unit×W .i64×Unit)
abbrev aV:=(Bool×Unit)⊕(Unit×Unit)
abbrev cT:=(W .i64×Unit)⊕(Unit×Unit)
abbrev Nr:=Arr 16 (W .i64)×Arr 16 (W .i64)×Unit
abbrev Ns:=W .i64×W .i64×TCache×TCache×W .i64×Sl 40 (TWay)×Unit
abbrev Nt:=TCore×Sl 216 (TRen)×Sl 216 (TRen)×Unit
abbrev Nu:=(Bool×W .i64×Unit)⊕(Unit×W .i64×Unit)
abbrev wI:=(W .i64×Arr 16 (W .i64)×Bool×W .i64×Unit)⊕(W .i64×Arr 16 (W .i64)×Unit×W .i64×Unit)
abbrev Nv:=(TNames×Bool×Arr 16 (W .i64)×Unit)⊕(TNames×Unit×Arr 16 (W .i64)×Unit)
abbrev wJ:=Sl 216 (TRen)×W .i64×Bool×Arr 96 (W .i64)×Bool×Unit
abbrev Nx:=TNames×W .i64×Sl 216 (TRen)×Bool×Arr 96 (W .i64)×Bool×((Unit)×(Unit×Unit×Unit×Unit))×((Unit)×(Unit×((Unit)×(Unit×Unit×Unit×Unit))×Unit×Unit×Unit×Unit×Unit))×Unit
abbrev Ny:=TNames×W .i64×Sl 216 (TRen)×Bool×Arr 96 (W .i64)×Bool×((Unit)×(Unit×((Unit)×(Unit×Unit×Unit×Unit))×Unit×Unit×Unit×Unit×Unit))×Unit
abbrev wK:=Sl 8 (W .u64)×Unit
abbrev wL:=Arr 16 (W .u32)×Arr 16 (W .u32)×Unit
abbrev wM:=(TArch×Bool×Unit)⊕(TArch×Unit×Unit)
abbrev Nz:=Sl 8 (W .i64)×W .i64×Bool×Unit
abbrev NA:=(((Unit)×(TCoh×Unit))×Bool×Sl 24 (TCache)×W .i64×W .i64×Sl 24 (Sl 40 (TWay))×W .i64×W .i64×Unit)⊕(((Unit)×(TCoh×Unit))×Unit×Sl 24 (TCache)×W .i64×W .i64×Sl 24 (Sl 40 (TWay))×W .i64×W .i64×Unit)
abbrev NB:=(((Unit)×(TCoh×Unit))×Bool×Sl 24 (TCache)×W .i64×W .i64×Unit)⊕(((Unit)×(TCoh×Unit))×Unit×Sl 24 (TCache)×W .i64×W .i64×Unit)
abbrev NC:=(TCoh×Bool×Unit)⊕(TCoh×Unit×Unit)
abbrev ND:=(Sl 1 (W .u8)×Bool×Sl 24 (TCache)×W .i64×W .i64×Sl 24 (Sl 40 (TWay))×W .i64×W .i64×Unit)⊕(Sl 1 (W .u8)×Unit×Sl 24 (TCache)×W .i64×W .i64×Sl 24 (Sl 40 (TWay))×W .i64×W .i64×Unit)
abbrev NF:=(Sl 1 (W .u8)×Bool×Sl 24 (TCache)×W .i64×W .i64×Unit)⊕(Sl 1 (W .u8)×Unit×Sl 24 (TCache)×W .i64×W .i64×Unit)
abbrev NG:=(Sl 1 (W .u8)×Bool×Unit)⊕(Sl 1 (W .u8)×Unit×Unit)
abbrev NH:=(Sl 248 (TRob)×Bool×Unit)⊕(Sl 248 (TRob)×Unit×Unit)
abbrev NI:=(W .i64×Bool×Sl 8 (W .i64)×W .i64×Unit)⊕(W .i64×Unit×Sl 8 (W .i64)×W .i64×Unit)
abbrev NJ:=W .i64×Sl 216 (TRen)×Sl 8 (W .i64)×Unit
abbrev NK:=W .i64×Sl 8 (W .i64)×Unit
abbrev NL:=(W .i64×Bool×Sl 8 (W .i64)×Unit)⊕(W .i64×Unit×Sl 8 (W .i64)×Unit)
abbrev NM:=(W .i64×Sl 216 (TRen)×TNames×Bool×Arr 16 (W .i64)×Unit)⊕(W .i64×Sl 216 (TRen)×TNames×Unit×Arr 16 (W .i64)×Unit)
abbrev wO:=(TCore×Bool×W .i64×Unit)⊕(TCore×Unit×W .i64×Unit)
abbrev NN:=(TCore×Bool×W .i64×TRen×Unit)⊕(TCore×Unit×W .i64×TRen×Unit)
abbrev NO:=(TCore×Bool×Sl 8 (W .u64)×Unit)⊕(TCore×Unit×Sl 8 (W .u64)×Unit)
abbrev bt:=Unit×Sl 8 (W .i64)×Unit
abbrev NP:=Sl 40 (TWay)×W .i64×W .i64×Unit
abbrev NQ:=(W .i64×TCache×Bool×Sl 40 (TWay)×W .i64×Unit)⊕(W .i64×TCache×Unit×Sl 40 (TWay)×W .i64×Unit)
abbrev NR:=Arr 16 (W .u8)×Arr 16 (W .u8)×Unit
abbrev NS:=(W .i64×W .i64×Bool×Unit)⊕(Unit×Unit×Unit×Unit)
abbrev NT:=(Bool×W .i64×Bool×Unit)⊕(Unit×W .i64×Bool×Unit)
abbrev NU:=TCoh×W .i64×W .i64×W .i64×Sl 8 (W .i64)×Unit
abbrev NV:=(TCoh×Bool×W .i64×W .i64×Unit)⊕(TCoh×Unit×W .i64×W .i64×Unit)
abbrev NW:=Sl 1 (W .u8)×Bool×Unit
abbrev NX:=(TCore×TCoh×Unit×Sl 8 (W .i64)×Unit)⊕(TCore×TCoh×Unit×Sl 8 (W .i64)×Unit)
abbrev NY:=(TDuo×Bool×Unit)⊕(TDuo×Unit×Unit)
noncomputable section
def Ee (c:TCore):Tree (Bool):=
 .ite (W.le (Sl.len c.Queue) (W.of .i64 20)) (.ite (W.le (Sl.len c.Rob) (W.of .i64 70)) (.ite (W.le (Sl.len c.Iq) (W.of .i64 40)) (.ite (W.le (Sl.len c.Lq) (W.of .i64 20)) (.ite (W.le (Sl.len c.Sq) (W.of .i64 20)) (.ite (W.le (Sl.len c.Sb) (W.of .i64 10)) (.ite (W.le (Sl.len c.Units) (W.of .i64 80)) (.ite (W.le (Sl.len c.Phys.Val) (W.of .i64 100)) (.ite (W.le (Sl.len c.Phys.Ready) (W.of .i64 100)) (.ite (W.le (Sl.len c.Names.Free.Ring) (W.of .i64 100)) (.ite (W.le (Sl.len c.Shadow) (W.of .i64 2048)) (.ite (W.le (Sl.len c.Out) (W.of .i64 100)) (.ite (W.le (Sl.len c.Tlb) (W.of .i64 10)) (.ite (W.le (Sl.len c.Dep) (W.of .i64 20)) (.ite (W.le (Sl.len c.Pred.Table) (W.of .i64 300)) (.ite (W.le (Sl.len c.Pred.Btb) (W.of .i64 20)) (.ret (W.le (Sl.len c.Pred.Ras) (W.of .i64 20)))
 (.ret false))
 (.ret false))
 (.ret false))
 (.ret false))
 (.ret false))
 (.ret false))
 (.ret false))
 (.ret false))
 (.ret false))
 (.ret false))
 (.ret false))
 (.ret false))
 (.ret false))
 (.ret false))
 (.ret false))
 (.ret false)
def sK (c:TCore):Option (Bool):=(Ee c).eval
def qN (m:TCoh) (i k:W .i64):Tree (Rnd gS wH):=
 .opt (Sl.get? m.Caches i) fun y3=>
 .ite (W.lt k (Sl.len y3.Sets)) (.opt (Sl.get? m.Caches i) fun y4=>
 .opt (Sl.get? y4.Sets k) fun y5=>
 .ite (W.gt (Sl.len y5) (W.of .i64 6)) (.ret (.out (.inl (m,false,i,()))))
 (.ret (.next (m,i,(W.add k (W.of .i64 1)),()))))
 (.ret (.out (.inr (m,(),i,()))))
def tX (a:gS):Option wH:=az (fun a:gS=>(qN a.1 a.2.1 a.2.2.1).eval) aa a
def qM (m:TCoh) (i:W .i64):Tree (Rnd fx aV):=
 .ite (W.lt i (Sl.len m.Caches)) (.opt (Sl.get? m.Caches i) fun y2=>
 .ite (W.gt (Sl.len y2.Sets) (W.of .i64 10)) (.ret (.out (.inl (false,()))))
 (.opt (tX ((m,i,(W.of .i64 0),()))) fun o6=>
 .sum o6 (fun p7=>
 .ret (.out (.inl (p7.2.1,()))))
 (fun o8=>
 .ret (.next (o8.1,(W.add o8.2.2.1 (W.of .i64 1)),())))))
 (.ret (.out (.inr ((),()))))
def tW (a:fx):Option aV:=az (fun a:fx=>(qM a.1 a.2.1).eval) aa a
def Eg (c:TCore) (m:TCoh):Tree (Bool):=
 .opt (sK c) fun r1=>
 .ite (!r1) (.ret false)
 (.ite (W.gt (Sl.len m.Mem) (W.of .i64 2048)) (.ret false)
 (.ite (W.gt (Sl.len m.Caches) (W.of .i64 3)) (.ret false)
 (.opt (tW ((m,(W.of .i64 0),()))) fun o9=>
 .sum o9 (fun p10=>
 .ret p10.1)
 (fun o11=>
 .ret true))))
def mf (c:TCore) (m:TCoh):Option (Bool):=(Eg c m).eval
def M8 :Tree (TConf):=
 .ret (TConf.mk (W.of .i64 2) (W.of .i64 2) (W.of .i64 2) (W.of .i64 2) (W.of .i64 8) (W.of .i64 16) (W.of .i64 8) (W.of .i64 4) (W.of .i64 4) (W.of .i64 4) (W.of .i64 32) (W.of .i64 4) (W.of .i64 4) (W.of .i64 4) (W.of .i64 4) (W.of .i64 4) (W.of .i64 3) (W.of .i64 8) (W.of .i64 4) (W.of .i64 4) (W.of .i64 2) true)
def JB :Option (TConf):=(M8).eval
def Fe (aB from_1 to_2:W .i64):Tree (Bool):=
 .ite (W.ge aB from_1) (.ret (W.le aB to_2))
 (.ret false)
def bW (aB from_1 to_2:W .i64):Option (Bool):=(Fe aB from_1 to_2).eval
def Jc (t_113:Bool):Tree cT:=
 .ite t_113 (.ret (.inl ((W.of .i64 0),())))
 (.ret (.inr ((),())))
def ku (a:Y1):Option cT:=(Jc a.1).eval
def Jd :Tree Y7:=
 .ret ((W.of .i64 3),())
def kv (a:Unit):Option Y7:=(Jd).eval
def Af (wide rooms guesses times:Bool):Tree Y7:=
 .ite wide (.ite rooms (.ite guesses (.opt (ku ((times,()))) fun o22=>
 .sum o22 (fun p23=>
 .ret (p23.1,()))
 (fun o24=>
 .opt (kv (())) fun o25=>
 .ret (o25.1,())))
 (.opt (ku ((false,()))) fun o26=>
 .sum o26 (fun p27=>
 .ret (p27.1,()))
 (fun o28=>
 .opt (kv (())) fun o29=>
 .ret (o29.1,()))))
 (.opt (ku ((false,()))) fun o30=>
 .sum o30 (fun p31=>
 .ret (p31.1,()))
 (fun o32=>
 .opt (kv (())) fun o33=>
 .ret (o33.1,()))))
 (.opt (ku ((false,()))) fun o34=>
 .sum o34 (fun p35=>
 .ret (p35.1,()))
 (fun o36=>
 .opt (kv (())) fun o37=>
 .ret (o37.1,())))
def gG (a:Y2):Option Y7:=(Af a.1 a.2.1 a.2.2.1 a.2.2.2.1).eval
def Ae (c:TConf) (wide rooms guesses:Bool):Tree Y7:=
 .opt (bW c.MulLat (W.of .i64 1) (W.of .i64 32)) fun r17=>
 .ite r17 (.opt (bW c.DivLat (W.of .i64 1) (W.of .i64 32)) fun r18=>
 .ite r18 (.opt (bW c.MemLat (W.of .i64 1) (W.of .i64 32)) fun r19=>
 .ite r19 (.opt (bW c.Sets (W.of .i64 1) (W.of .i64 8)) fun r20=>
 .ite r20 (.opt (bW c.Ways (W.of .i64 1) (W.of .i64 4)) fun r21=>
 .opt (gG ((wide,rooms,guesses,r21,()))) fun o38=>
 .ret (o38.1,()))
 (.opt (gG ((wide,rooms,guesses,false,()))) fun o39=>
 .ret (o39.1,())))
 (.opt (gG ((wide,rooms,guesses,false,()))) fun o40=>
 .ret (o40.1,())))
 (.opt (gG ((wide,rooms,guesses,false,()))) fun o41=>
 .ret (o41.1,())))
 (.opt (gG ((wide,rooms,guesses,false,()))) fun o42=>
 .ret (o42.1,()))
def gF (a:Y3):Option Y7:=(Ae a.1 a.2.1 a.2.2.1 a.2.2.2.1).eval
def Ad (c:TConf) (wide rooms:Bool):Tree Y7:=
 .opt (bW c.Hist (W.of .i64 0) (W.of .i64 8)) fun r12=>
 .ite r12 (.opt (bW c.Btb (W.of .i64 0) (W.of .i64 16)) fun r13=>
 .ite r13 (.opt (bW c.Ras (W.of .i64 0) (W.of .i64 16)) fun r14=>
 .ite r14 (.opt (bW c.Dep (W.of .i64 0) (W.of .i64 16)) fun r15=>
 .ite r15 (.opt (bW c.Tlb (W.of .i64 0) (W.of .i64 8)) fun r16=>
 .opt (gF ((c,wide,rooms,r16,()))) fun o43=>
 .ret (o43.1,()))
 (.opt (gF ((c,wide,rooms,false,()))) fun o44=>
 .ret (o44.1,())))
 (.opt (gF ((c,wide,rooms,false,()))) fun o45=>
 .ret (o45.1,())))
 (.opt (gF ((c,wide,rooms,false,()))) fun o46=>
 .ret (o46.1,())))
 (.opt (gF ((c,wide,rooms,false,()))) fun o47=>
 .ret (o47.1,()))
def fq (a:Y4):Option Y7:=(Ad a.1 a.2.1 a.2.2.1).eval
def Ab (c:TConf) (wide:Bool):Tree Y7:=
 .opt (bW c.Queue (W.of .i64 1) (W.of .i64 16)) fun r5=>
 .ite r5 (.opt (bW c.Rob (W.of .i64 2) (W.of .i64 64)) fun r6=>
 .ite r6 (.opt (bW c.Iq (W.of .i64 2) (W.of .i64 32)) fun r7=>
 .ite r7 (.opt (bW c.Lq (W.of .i64 1) (W.of .i64 16)) fun r8=>
 .ite r8 (.opt (bW c.Sq (W.of .i64 1) (W.of .i64 16)) fun r9=>
 .ite r9 (.opt (bW c.Sb (W.of .i64 1) (W.of .i64 8)) fun r10=>
 .ite r10 (.opt (bW c.Phys (W.of .i64 18) (W.of .i64 96)) fun r11=>
 .opt (fq ((c,wide,r11,()))) fun o48=>
 .ret (o48.1,()))
 (.opt (fq ((c,wide,false,()))) fun o49=>
 .ret (o49.1,())))
 (.opt (fq ((c,wide,false,()))) fun o50=>
 .ret (o50.1,())))
 (.opt (fq ((c,wide,false,()))) fun o51=>
 .ret (o51.1,())))
 (.opt (fq ((c,wide,false,()))) fun o52=>
 .ret (o52.1,())))
 (.opt (fq ((c,wide,false,()))) fun o53=>
 .ret (o53.1,())))
 (.opt (fq ((c,wide,false,()))) fun o54=>
 .ret (o54.1,()))
def iP (a:TConf×Bool×Unit):Option Y7:=(Ab a.1 a.2.1).eval
def E9 (c:TConf):Tree (W .i64):=
 .opt (bW c.Fetch (W.of .i64 1) (W.of .i64 4)) fun r1=>
 .ite r1 (.opt (bW c.Wide (W.of .i64 1) (W.of .i64 4)) fun r2=>
 .ite r2 (.opt (bW c.Issue (W.of .i64 1) (W.of .i64 4)) fun r3=>
 .ite r3 (.opt (bW c.Retire (W.of .i64 1) (W.of .i64 4)) fun r4=>
 .opt (iP ((c,r4,()))) fun o55=>
 .ret o55.1)
 (.opt (iP ((c,false,()))) fun o56=>
 .ret o56.1))
 (.opt (iP ((c,false,()))) fun o57=>
 .ret o57.1))
 (.opt (iP ((c,false,()))) fun o58=>
 .ret o58.1)
def mE (c:TConf):Option (W .i64):=(E9 c).eval
def EA (m:Sl 1 (W .u8)):Tree (Bool):=
 .ite (W.eq (W.rem (Sl.len m) (W.of .i64 64)) (W.of .i64 0)) (.ite (W.ge (Sl.len m) (W.of .i64 64)) (.ret (W.le (Sl.len m) (W.of .i64 16384)))
 (.ret false))
 (.ret false)
def mj (m:Sl 1 (W .u8)):Option (Bool):=(EA m).eval
def MJ (aB:W .i64):Tree (W .u32):=
 .ite (W.eq aB (W.of .i64 0)) (.ret (W.of .u32 63))
 (.ite (W.eq aB (W.of .i64 1)) (.ret (W.of .u32 31))
 (.ite (W.eq aB (W.of .i64 9)) (.ret (W.of .u32 7))
 (.ite (W.eq aB (W.of .i64 10)) (.ret (W.of .u32 7))
 (.ite (W.eq aB (W.of .i64 5)) (.ret (W.of .u32 4294967232))
 (.ite (W.lt aB (W.of .i64 0)) (.ret (W.of .u32 0))
 (.ite (W.gt aB (W.of .i64 11)) (.ret (W.of .u32 0))
 (.ret (W.of .u32 4294967295))))))))
def ml (aB:W .i64):Option (W .u32):=(MJ aB).eval
def I0 (m:TMach) (i:W .i64):Tree (Rnd xK aV):=
 .ite (W.lt i (W.of .i64 12)) (.opt (aI 12 i) fun j2=>
 .opt (ml i) fun r3=>
 .opt (aI 12 i) fun j4=>
 .ite (W.ne (W.and (Arr.get m.A.C j2) r3) (Arr.get m.A.C j4)) (.ret (.out (.inl (false,()))))
 (.ret (.next (m,(W.add i (W.of .i64 1)),()))))
 (.ret (.out (.inr ((),()))))
def L2 (a:xK):Option aV:=az (fun a:xK=>(I0 a.1 a.2.1).eval) aa a
def ML (m:TMach):Tree (Bool):=
 .opt (mj m.Mem) fun r1=>
 .ite (!r1) (.ret false)
 (.ite (W.ne (Sl.len m.Shadow) (Sl.len m.Mem)) (.ret false)
 (.ite (W.ne (Arr.get m.A.R 0) (W.of .u32 0)) (.ret false)
 (.opt (L2 ((m,(W.of .i64 0),()))) fun o5=>
 .sum o5 (fun p6=>
 .ret p6.1)
 (fun o7=>
 .ret true))))
def Jo (m:TMach):Option (Bool):=(ML m).eval
def EC (c:TConf):Tree (W .i64):=
 .ret (W.min (W.max c.Hist (W.of .i64 0)) (W.of .i64 8))
def AG (c:TConf):Option (W .i64):=(EC c).eval
def MN (bits:W .i64):Tree (W .i64):=
 .ret (W.min (W.max bits (W.of .i64 0)) (W.of .i64 8))
def Jp (bits:W .i64):Option (W .i64):=(MN bits).eval
def I2 (bits n_3 i:W .i64):Tree (Rnd Y6 Y7):=
 .opt (Jp bits) fun r1=>
 .ite (W.lt i r1) (.ret (.next (bits,(W.mul (W.of .i64 2) n_3),(W.add i (W.of .i64 1)),())))
 (.ret (.out (n_3,())))
def L4 (a:Y6):Option Y7:=az (fun a:Y6=>(I2 a.1 a.2.1 a.2.2.1).eval) aa a
def MO (bits:W .i64):Tree (W .i64):=
 .opt (L4 ((bits,(W.of .i64 1),(W.of .i64 0),()))) fun o2=>
 .ret o2.1
def kc (bits:W .i64):Option (W .i64):=(MO bits).eval
def I1 (bits:W .i64) (out:Sl 1 (W .u8)) (i:W .i64):Tree (Rnd hH cU):=
 .opt (kc bits) fun r1=>
 .ite (W.lt i r1) (.opt (Sl.app? out (Sl.lit 1 [(W.of .u8 1)] rfl:Sl 1 (W .u8))) fun l2=>
 .ret (.next (bits,l2,(W.add i (W.of .i64 1)),())))
 (.ret (.out (out,())))
def L3 (a:hH):Option cU:=az (fun a:hH=>(I1 a.1 a.2.1 a.2.2.1).eval) aa a
def MM (bits:W .i64):Tree (Sl 1 (W .u8)):=
 .opt (L3 ((bits,(Sl.nil:Sl 1 (W .u8)),(W.of .i64 0),()))) fun o3=>
 .ret o3.1
def AD (bits:W .i64):Option (Sl 1 (W .u8)):=(MM bits).eval
def MQ (aB low high:W .i64):Tree (W .i64):=
 .ite (W.lt aB low) (.ret low)
 (.ite (W.gt aB high) (.ret high)
 (.ret aB))
def Jq (aB low high:W .i64):Option (W .i64):=(MQ aB low high).eval
def MP (aB:W .i64):Tree (Sl 16 (TBtb)):=
 .opt (Jq aB (W.of .i64 0) (W.of .i64 16)) fun r1=>
 .opt (Sl.make? 16 (TBtb.mk (W.of .u32 0) (W.of .u32 0) (W.of .i64 0)) r1 r1) fun l2=>
 .ret l2
def AE (aB:W .i64):Option (Sl 16 (TBtb)):=(MP aB).eval
def I3 (aB:W .i64) (out:Sl 4 (W .u32)) (i:W .i64):Tree (Rnd xj (Sl 4 (W .u32)×Unit)):=
 .ite (W.lt i aB) (.ite (W.lt i (W.of .i64 16)) (.opt (Sl.app? out (Sl.lit 4 [(W.of .u32 0)] rfl:Sl 4 (W .u32))) fun l1=>
 .ret (.next (aB,l1,(W.add i (W.of .i64 1)),())))
 (.ret (.out (out,()))))
 (.ret (.out (out,())))
def L5 (a:xj):Option (Sl 4 (W .u32)×Unit):=az (fun a:xj=>(I3 a.1 a.2.1 a.2.2.1).eval) aa a
def MR (aB:W .i64):Tree (Sl 4 (W .u32)):=
 .opt (L5 ((aB,(Sl.lit 4 [] rfl:Sl 4 (W .u32)),(W.of .i64 0),()))) fun o2=>
 .ret o2.1
def AF (aB:W .i64):Option (Sl 4 (W .u32)):=(MR aB).eval
def ED (c:TConf):Tree (TPred):=
 .opt (AG c) fun r1=>
 .opt (AD r1) fun r2=>
 .opt (AE c.Btb) fun r3=>
 .opt (AF c.Ras) fun r4=>
 .ret (TPred.mk (W.of .u32 0) r2 r3 (W.of .i64 0) r4 (W.of .i64 0))
def mn (c:TConf):Option (TPred):=(ED c).eval
def MT (aB low high:W .i64):Tree (W .i64):=
 .ite (W.lt aB low) (.ret low)
 (.ite (W.gt aB high) (.ret high)
 (.ret aB))
def Js (aB low high:W .i64):Option (W .i64):=(MT aB low high).eval
def MS (aB:W .i64):Tree (Sl 24 (TTlb)):=
 .opt (Js aB (W.of .i64 0) (W.of .i64 8)) fun r1=>
 .opt (Sl.make? 24 (TTlb.mk false (W.of .u32 0) (TPte.mk (W.of .u32 0) (W.of .i64 0))) r1 r1) fun l2=>
 .ret l2
def Jr (aB:W .i64):Option (Sl 24 (TTlb)):=(MS aB).eval
def I8 (aB:W .i64) (out:Sl 1 (W .u8)) (i:W .i64):Tree (Rnd hH cU):=
 .ite (W.lt i aB) (.ite (W.lt i (W.of .i64 16)) (.opt (Sl.app? out (Sl.lit 1 [(W.of .u8 0)] rfl:Sl 1 (W .u8))) fun l1=>
 .ret (.next (aB,l1,(W.add i (W.of .i64 1)),())))
 (.ret (.out (out,()))))
 (.ret (.out (out,())))
def Ma (a:hH):Option cU:=az (fun a:hH=>(I8 a.1 a.2.1 a.2.2.1).eval) aa a
def M4 (aB:W .i64):Tree (Sl 1 (W .u8)):=
 .opt (Ma ((aB,(Sl.nil:Sl 1 (W .u8)),(W.of .i64 0),()))) fun o2=>
 .ret o2.1
def Jy (aB:W .i64):Option (Sl 1 (W .u8)):=(M4 aB).eval
def I5 (t_0 m:Arr 16 (W .i64)) (r:W .i64):Tree (Rnd xL Nr):=
 .ite (W.lt r (W.of .i64 16)) (.opt (aI 16 r) fun j1=>
 .ret (.next (t_0,(Arr.set m j1 r),(W.add r (W.of .i64 1)),())))
 (.ret (.out (t_0,m,())))
def L7 (a:xL):Option Nr:=az (fun a:xL=>(I5 a.1 a.2.1 a.2.2.1).eval) aa a
def MW :Tree (Arr 16 (W .i64)):=
 .opt (L7 (((Arr.rep 16 (W.of .i64 0):Arr 16 (W .i64)),(Arr.lit 16 [(W.of .i64 0),(W.of .i64 0),(W.of .i64 0),(W.of .i64 0),(W.of .i64 0),(W.of .i64 0),(W.of .i64 0),(W.of .i64 0),(W.of .i64 0),(W.of .i64 0),(W.of .i64 0),(W.of .i64 0),(W.of .i64 0),(W.of .i64 0),(W.of .i64 0),(W.of .i64 0)] rfl:Arr 16 (W .i64)),(W.of .i64 0),()))) fun o2=>
 .ret (Arr.set o2.2.1 0 (W.of .i64 (-1)))
def AJ :Option (Arr 16 (W .i64)):=(MW).eval
def MV (aB low high:W .i64):Tree (W .i64):=
 .ite (W.lt aB low) (.ret low)
 (.ite (W.gt aB high) (.ret high)
 (.ret aB))
def AH (aB low high:W .i64):Option (W .i64):=(MV aB low high).eval
def I4 (t_4:TFree) (u:W .i64) (f:TFree) (i:W .i64):Tree (Rnd Y8 (TFree×TFree×Unit)):=
 .ite (W.lt i f.N) (.opt (aI (List.length f.Ring.l) i) fun j4=>
 .ret (.next (t_4,u,({ f with Ring:=(Sl.set f.Ring j4 (W.add u i)) }:TFree),(W.add i (W.of .i64 1)),())))
 (.ret (.out (t_4,f,())))
def L6 (a:Y8):Option (TFree×TFree×Unit):=az (fun a:Y8=>(I4 a.1 a.2.1 a.2.2.1 a.2.2.2.1).eval) aa a
def MU (aB used:W .i64):Tree (TFree):=
 .opt (AH aB (W.of .i64 0) (W.of .i64 96)) fun r1=>
 .opt (AH used (W.of .i64 0) r1) fun r2=>
 .opt (Sl.make? 8 (W.of .i64 0) r1 r1) fun l3=>
 .opt (L6 (((TFree.mk (Sl.nil:Sl 8 (W .i64)) (W.of .i64 0) (W.of .i64 0)),r2,(TFree.mk l3 (W.of .i64 0) (W.sub r1 r2)),(W.of .i64 0),()))) fun o5=>
 .ret o5.2.1
def Jt (aB used:W .i64):Option (TFree):=(MU aB used).eval
def M3 (aB:W .i64):Tree (TNames):=
 .opt (AJ) fun r1=>
 .opt (AJ) fun r2=>
 .opt (Jt aB (W.of .i64 16)) fun r3=>
 .ret (TNames.mk r1 r2 r3 (W.of .u64 1))
def Jx (aB:W .i64):Option (TNames):=(M3 aB).eval
def I6 (aB:W .i64) (t_2 f:TPhys) (i:W .i64):Tree (Rnd v7 (TPhys×TPhys×Unit)):=
 .ite (W.lt i aB) (.ite (W.lt i (W.of .i64 96)) (.opt (Sl.app? f.Val (Sl.lit 4 [(W.of .u32 0)] rfl:Sl 4 (W .u32))) fun l1=>
 .opt (Sl.app? f.Ready (Sl.lit 1 [true] rfl:Sl 1 (Bool))) fun l2=>
 .ret (.next (aB,t_2,(TPhys.mk l1 l2),(W.add i (W.of .i64 1)),())))
 (.ret (.out (t_2,f,()))))
 (.ret (.out (t_2,f,())))
def L8 (a:v7):Option (TPhys×TPhys×Unit):=az (fun a:v7=>(I6 a.1 a.2.1 a.2.2.1 a.2.2.2.1).eval) aa a
def MY (aB:W .i64):Tree (TPhys):=
 .opt (L8 ((aB,(TPhys.mk (Sl.nil:Sl 4 (W .u32)) (Sl.nil:Sl 1 (Bool))),(TPhys.mk (Sl.nil:Sl 4 (W .u32)) (Sl.nil:Sl 1 (Bool))),(W.of .i64 0),()))) fun o3=>
 .ret o3.2.1
def Ju (aB:W .i64):Option (TPhys):=(MY aB).eval
def M1 (f:TPhys):Tree (TPhys):=
 .ret (TPhys.mk f.Val f.Ready)
def Jw (f:TPhys):Option (TPhys):=(M1 f).eval
def M2 (f:TPhys) (p:W .i64):Tree (Bool):=
 .ite (W.ge p (W.of .i64 0)) (.ite (W.lt p (Sl.len f.Val)) (.ret (W.lt p (Sl.len f.Ready)))
 (.ret false))
 (.ret false)
def AK (f:TPhys) (p:W .i64):Option (Bool):=(M2 f p).eval
def MZ (f:TPhys) (p:W .i64) (v:W .u32):Tree (TPhys):=
 .opt (Jw f) fun r1=>
 .opt (AK f p) fun r2=>
 .ite r2 (.opt (aI (List.length r1.Val.l) p) fun j3=>
 .opt (aI (List.length r1.Ready.l) p) fun j4=>
 .ret (TPhys.mk (Sl.set r1.Val j3 v) (Sl.set r1.Ready j4 true)))
 (.ret r1)
def Jv (f:TPhys) (p:W .i64) (v:W .u32):Option (TPhys):=(MZ f p v).eval
def Je (m:TMach) (t_4 x:TCore) (r:W .i64):Tree (Rnd vD (TCore×TCore×Unit)):=
 .ite (W.lt r (W.of .i64 16)) (.opt (aI 16 r) fun j8=>
 .opt (Jv x.Phys r (Arr.get m.A.R j8)) fun r9=>
 .ret (.next (m,t_4,({ x with Phys:=r9 }:TCore),(W.add r (W.of .i64 1)),())))
 (.ret (.out (t_4,x,())))
def Md (a:vD):Option (TCore×TCore×Unit):=az (fun a:vD=>(Je a.1 a.2.1 a.2.2.1 a.2.2.2.1).eval) aa a
def M7 (c:TConf) (m:TMach):Tree (TCore×W .i64):=
 .opt (mE c) fun r1=>
 .ite (W.ne r1 (W.of .i64 0)) (.ret ((TCore.mk (TConf.mk (W.of .i64 0) (W.of .i64 0) (W.of .i64 0) (W.of .i64 0) (W.of .i64 0) (W.of .i64 0) (W.of .i64 0) (W.of .i64 0) (W.of .i64 0) (W.of .i64 0) (W.of .i64 0) (W.of .i64 0) (W.of .i64 0) (W.of .i64 0) (W.of .i64 0) (W.of .i64 0) (W.of .i64 0) (W.of .i64 0) (W.of .i64 0) (W.of .i64 0) (W.of .i64 0) false) (TArch.mk (W.of .u32 0) (Arr.rep 16 (W.of .u32 0):Arr 16 (W .u32)) (Arr.rep 12 (W.of .u32 0):Arr 12 (W .u32)) false) (Sl.nil:Sl 1 (W .u8)) (Sl.nil:Sl 4 (W .u32)) (W.of .u32 0) false (TPred.mk (W.of .u32 0) (Sl.nil:Sl 1 (W .u8)) (Sl.nil:Sl 16 (TBtb)) (W.of .i64 0) (Sl.nil:Sl 4 (W .u32)) (W.of .i64 0)) (Sl.nil:Sl 24 (TTlb)) (W.of .i64 0) (Sl.nil:Sl 56 (TSlot)) (TNames.mk (Arr.rep 16 (W.of .i64 0):Arr 16 (W .i64)) (Arr.rep 16 (W.of .i64 0):Arr 16 (W .i64)) (TFree.mk (Sl.nil:Sl 8 (W .i64)) (W.of .i64 0) (W.of .i64 0)) (W.of .u64 0)) (TPhys.mk (Sl.nil:Sl 4 (W .u32)) (Sl.nil:Sl 1 (Bool))) (Sl.nil:Sl 248 (TRob)) (Sl.nil:Sl 224 (TIq)) (Sl.nil:Sl 48 (TLq)) (Sl.nil:Sl 32 (TSq)) (Sl.nil:Sl 16 (TSb)) (Sl.nil:Sl 256 (TFlight)) (Sl.nil:Sl 1 (W .u8)) (W.of .i64 0) (W.of .i64 0)),(W.of .i64 3)))
 (.opt (Jo m) fun r2=>
 .ite (!r2) (.ret ((TCore.mk (TConf.mk (W.of .i64 0) (W.of .i64 0) (W.of .i64 0) (W.of .i64 0) (W.of .i64 0) (W.of .i64 0) (W.of .i64 0) (W.of .i64 0) (W.of .i64 0) (W.of .i64 0) (W.of .i64 0) (W.of .i64 0) (W.of .i64 0) (W.of .i64 0) (W.of .i64 0) (W.of .i64 0) (W.of .i64 0) (W.of .i64 0) (W.of .i64 0) (W.of .i64 0) (W.of .i64 0) false) (TArch.mk (W.of .u32 0) (Arr.rep 16 (W.of .u32 0):Arr 16 (W .u32)) (Arr.rep 12 (W.of .u32 0):Arr 12 (W .u32)) false) (Sl.nil:Sl 1 (W .u8)) (Sl.nil:Sl 4 (W .u32)) (W.of .u32 0) false (TPred.mk (W.of .u32 0) (Sl.nil:Sl 1 (W .u8)) (Sl.nil:Sl 16 (TBtb)) (W.of .i64 0) (Sl.nil:Sl 4 (W .u32)) (W.of .i64 0)) (Sl.nil:Sl 24 (TTlb)) (W.of .i64 0) (Sl.nil:Sl 56 (TSlot)) (TNames.mk (Arr.rep 16 (W.of .i64 0):Arr 16 (W .i64)) (Arr.rep 16 (W.of .i64 0):Arr 16 (W .i64)) (TFree.mk (Sl.nil:Sl 8 (W .i64)) (W.of .i64 0) (W.of .i64 0)) (W.of .u64 0)) (TPhys.mk (Sl.nil:Sl 4 (W .u32)) (Sl.nil:Sl 1 (Bool))) (Sl.nil:Sl 248 (TRob)) (Sl.nil:Sl 224 (TIq)) (Sl.nil:Sl 48 (TLq)) (Sl.nil:Sl 32 (TSq)) (Sl.nil:Sl 16 (TSb)) (Sl.nil:Sl 256 (TFlight)) (Sl.nil:Sl 1 (W .u8)) (W.of .i64 0) (W.of .i64 0)),(W.of .i64 1)))
 (.opt (mn c) fun r3=>
 .opt (Jr c.Tlb) fun r4=>
 .opt (Jy c.Dep) fun r5=>
 .opt (Jx c.Phys) fun r6=>
 .opt (Ju c.Phys) fun r7=>
 .opt (Md ((m,(TCore.mk (TConf.mk (W.of .i64 0) (W.of .i64 0) (W.of .i64 0) (W.of .i64 0) (W.of .i64 0) (W.of .i64 0) (W.of .i64 0) (W.of .i64 0) (W.of .i64 0) (W.of .i64 0) (W.of .i64 0) (W.of .i64 0) (W.of .i64 0) (W.of .i64 0) (W.of .i64 0) (W.of .i64 0) (W.of .i64 0) (W.of .i64 0) (W.of .i64 0) (W.of .i64 0) (W.of .i64 0) false) (TArch.mk (W.of .u32 0) (Arr.rep 16 (W.of .u32 0):Arr 16 (W .u32)) (Arr.rep 12 (W.of .u32 0):Arr 12 (W .u32)) false) (Sl.nil:Sl 1 (W .u8)) (Sl.nil:Sl 4 (W .u32)) (W.of .u32 0) false (TPred.mk (W.of .u32 0) (Sl.nil:Sl 1 (W .u8)) (Sl.nil:Sl 16 (TBtb)) (W.of .i64 0) (Sl.nil:Sl 4 (W .u32)) (W.of .i64 0)) (Sl.nil:Sl 24 (TTlb)) (W.of .i64 0) (Sl.nil:Sl 56 (TSlot)) (TNames.mk (Arr.rep 16 (W.of .i64 0):Arr 16 (W .i64)) (Arr.rep 16 (W.of .i64 0):Arr 16 (W .i64)) (TFree.mk (Sl.nil:Sl 8 (W .i64)) (W.of .i64 0) (W.of .i64 0)) (W.of .u64 0)) (TPhys.mk (Sl.nil:Sl 4 (W .u32)) (Sl.nil:Sl 1 (Bool))) (Sl.nil:Sl 248 (TRob)) (Sl.nil:Sl 224 (TIq)) (Sl.nil:Sl 48 (TLq)) (Sl.nil:Sl 32 (TSq)) (Sl.nil:Sl 16 (TSb)) (Sl.nil:Sl 256 (TFlight)) (Sl.nil:Sl 1 (W .u8)) (W.of .i64 0) (W.of .i64 0)),(TCore.mk c m.A m.Shadow m.Out m.A.PC false r3 r4 (W.of .i64 0) (Sl.nil:Sl 56 (TSlot)) r6 r7 (Sl.nil:Sl 248 (TRob)) (Sl.nil:Sl 224 (TIq)) (Sl.nil:Sl 48 (TLq)) (Sl.nil:Sl 32 (TSq)) (Sl.nil:Sl 16 (TSb)) (Sl.nil:Sl 256 (TFlight)) r5 (W.of .i64 0) (W.of .i64 0)),(W.of .i64 1),()))) fun o10=>
 .ret (o10.2.1,(W.of .i64 0))))
def JA (c:TConf) (m:TMach):Option (TCore×W .i64):=(M7 c m).eval
def I9 (sets ways:W .i64) (t_4 c:TCache) (i:W .i64) (l_7:Sl 40 (TWay)) (k:W .i64):Tree (Rnd xk Ns):=
 .ite (W.lt k (W.min (W.max ways (W.of .i64 1)) (W.of .i64 4))) (.opt (Sl.app? l_7 (Sl.lit 40 [(TWay.mk (W.of .i64 0) (W.of .u32 0) (Arr.rep 16 (W.of .u8 0):Arr 16 (W .u8)) k)] rfl:Sl 40 (TWay))) fun l1=>
 .ret (.next (sets,ways,t_4,c,i,l1,(W.add k (W.of .i64 1)),())))
 (.ret (.out (sets,ways,t_4,c,i,l_7,())))
def Mb (a:xk):Option Ns:=az (fun a:xk=>(I9 a.1 a.2.1 a.2.2.1 a.2.2.2.1 a.2.2.2.2.1 a.2.2.2.2.2.1 a.2.2.2.2.2.2.1).eval) aa a
def Ja (sets ways:W .i64) (t_4 c:TCache) (i:W .i64):Tree (Rnd xl (TCache×TCache×Unit)):=
 .ite (W.lt i (W.min (W.max sets (W.of .i64 1)) (W.of .i64 8))) (.opt (Mb ((sets,ways,t_4,c,i,(Sl.nil:Sl 40 (TWay)),(W.of .i64 0),()))) fun o2=>
 .opt (Sl.app? o2.2.2.2.1.Sets (Sl.lit 24 [o2.2.2.2.2.2.1] rfl:Sl 24 (Sl 40 (TWay)))) fun l3=>
 .ret (.next (o2.1,o2.2.1,o2.2.2.1,(TCache.mk l3),(W.add o2.2.2.2.2.1 (W.of .i64 1)),())))
 (.ret (.out (t_4,c,())))
def Mc (a:xl):Option (TCache×TCache×Unit):=az (fun a:xl=>(Ja a.1 a.2.1 a.2.2.1 a.2.2.2.1 a.2.2.2.2.1).eval) aa a
def M5 (sets ways:W .i64):Tree (TCache):=
 .opt (Mc ((sets,ways,(TCache.mk (Sl.nil:Sl 24 (Sl 40 (TWay)))),(TCache.mk (Sl.nil:Sl 24 (Sl 40 (TWay)))),(W.of .i64 0),()))) fun o4=>
 .ret o4.2.1
def AL (sets ways:W .i64):Option (TCache):=(M5 sets ways).eval
def M6 (m:Sl 1 (W .u8)) (sets ways cores:W .i64):Tree (TCoh):=
 .opt (AL sets ways) fun r1=>
 .ite (W.gt cores (W.of .i64 1)) (.opt (AL sets ways) fun r2=>
 .opt (Sl.app? (Sl.lit 24 [r1] rfl:Sl 24 (TCache)) (Sl.lit 24 [r2] rfl:Sl 24 (TCache))) fun l3=>
 .ret (TCoh.mk m l3))
 (.ret (TCoh.mk m (Sl.lit 24 [r1] rfl:Sl 24 (TCache))))
def Jz (m:Sl 1 (W .u8)) (sets ways cores:W .i64):Option (TCoh):=(M6 m sets ways cores).eval
def DV (c:TConf):Tree (Sl 24 (TBound)):=
 .ret (Sl.lit 24 [(TBound.mk c.Fetch (W.of .i64 1) (W.of .i64 4)),(TBound.mk c.Wide (W.of .i64 1) (W.of .i64 4)),(TBound.mk c.Issue (W.of .i64 1) (W.of .i64 4)),(TBound.mk c.Retire (W.of .i64 1) (W.of .i64 4)),(TBound.mk c.Queue (W.of .i64 1) (W.of .i64 16)),(TBound.mk c.Rob (W.of .i64 2) (W.of .i64 64)),(TBound.mk c.Iq (W.of .i64 2) (W.of .i64 32)),(TBound.mk c.Lq (W.of .i64 1) (W.of .i64 16)),(TBound.mk c.Sq (W.of .i64 1) (W.of .i64 16)),(TBound.mk c.Sb (W.of .i64 1) (W.of .i64 8)),(TBound.mk c.Phys (W.of .i64 18) (W.of .i64 96)),(TBound.mk c.Hist (W.of .i64 0) (W.of .i64 8)),(TBound.mk c.Btb (W.of .i64 0) (W.of .i64 16)),(TBound.mk c.Ras (W.of .i64 0) (W.of .i64 16)),(TBound.mk c.Dep (W.of .i64 0) (W.of .i64 16)),(TBound.mk c.Tlb (W.of .i64 0) (W.of .i64 8)),(TBound.mk c.MulLat (W.of .i64 1) (W.of .i64 32)),(TBound.mk c.DivLat (W.of .i64 1) (W.of .i64 32)),(TBound.mk c.MemLat (W.of .i64 1) (W.of .i64 32)),(TBound.mk c.Sets (W.of .i64 1) (W.of .i64 8)),(TBound.mk c.Ways (W.of .i64 1) (W.of .i64 4))] rfl:Sl 24 (TBound))
def Ax (c:TConf):Option (Sl 24 (TBound)):=(DV c).eval
def DS (b:TBound):Tree (Bool):=
 .ite (W.lt b.n_ b.least) (.ret true)
 (.ret (W.gt b.n_ b.most))
def sB (b:TBound):Option (Bool):=(DS b).eval
def lO (s:Sl 24 (TBound)) (t_7 t_8:W .i64):Tree (Rnd xM cT):=
 .ite (W.lt t_8 t_7) (.opt (Sl.get? s t_8) fun y1=>
 .opt (sB y1) fun r2=>
 .ite r2 (.ret (.out (.inl (t_8,()))))
 (.ret (.next (s,((),()),t_7,(W.add t_8 (W.of .i64 1)),()))))
 (.ret (.out (.inr ((),()))))
def uU (a:xM):Option cT:=az (fun a:xM=>(lO a.1 a.2.2.1 a.2.2.2.1).eval) aa a
def FM (s:Sl 24 (TBound)):Tree (W .i64):=
 .opt (uU ((s,((),()),(Sl.len s),(W.of .i64 0),()))) fun o3=>
 .sum o3 (fun p4=>
 .ret p4.1)
 (fun o5=>
 .ret (W.of .i64 (-1)))
def AS (s:Sl 24 (TBound)):Option (W .i64):=(FM s).eval
def FB (s:Sl 24 (TBound)):Tree (Bool):=
 .opt (AS s) fun r1=>
 .ret (W.ge r1 (W.of .i64 0))
def tA (s:Sl 24 (TBound)):Option (Bool):=(FB s).eval
def DR (c:TConf):Tree (W .i64):=
 .opt (Ax c) fun r1=>
 .opt (tA r1) fun r2=>
 .ite r2 (.ret (W.of .i64 3))
 (.ret (W.of .i64 0))
def sA (c:TConf):Option (W .i64):=(DR c).eval
def D4 (c:TCore):Tree (Bool):=
 .opt (sA c.Conf) fun r1=>
 .ite (W.ne r1 (W.of .i64 0)) (.ret false)
 (.ite (W.gt (Sl.len c.Queue) c.Conf.Queue) (.ret false)
 (.ite (W.gt (Sl.len c.Rob) c.Conf.Rob) (.ret false)
 (.ite (W.gt (Sl.len c.Iq) c.Conf.Iq) (.ret false)
 (.ite (W.gt (Sl.len c.Lq) c.Conf.Lq) (.ret false)
 (.ite (W.gt (Sl.len c.Sq) c.Conf.Sq) (.ret false)
 (.ite (W.gt (Sl.len c.Sb) c.Conf.Sb) (.ret false)
 (.ite (W.eq (Sl.len c.Phys.Val) c.Conf.Phys) (.ite (W.eq (Sl.len c.Phys.Ready) c.Conf.Phys) (.ite (W.eq (Sl.len c.Tlb) c.Conf.Tlb) (.ret (W.eq (Sl.len c.Dep) c.Conf.Dep))
 (.ret false))
 (.ret false))
 (.ret false))))))))
def sG (c:TCore):Option (Bool):=(D4 c).eval
def qH (c:TCore) (iq units:Sl 216 (TRen)) (t_9:Sl 224 (TIq)) (t_10 t_11:W .i64):Tree (Rnd v8 Nt):=
 .ite (W.lt t_11 t_10) (.opt (Sl.get? t_9 t_11) fun y1=>
 .opt (Sl.app? iq (Sl.lit 216 [y1.Ren] rfl:Sl 216 (TRen))) fun l2=>
 .ret (.next (c,l2,units,t_9,t_10,(W.add t_11 (W.of .i64 1)),())))
 (.ret (.out (c,iq,units,())))
def tT (a:v8):Option Nt:=az (fun a:v8=>(qH a.1 a.2.1 a.2.2.1 a.2.2.2.1 a.2.2.2.2.1 a.2.2.2.2.2.1).eval) aa a
def qG (iq units:Sl 216 (TRen)) (t_22:Sl 256 (TFlight)) (t_23 t_24:W .i64):Tree (Rnd v9 xt):=
 .ite (W.lt t_24 t_23) (.opt (Sl.get? t_22 t_24) fun y4=>
 .opt (Sl.app? units (Sl.lit 216 [y4.Ren] rfl:Sl 216 (TRen))) fun l5=>
 .ret (.next (iq,l5,t_22,t_23,(W.add t_24 (W.of .i64 1)),())))
 (.ret (.out (iq,units,())))
def tS (a:v9):Option xt:=az (fun a:v9=>(qG a.1 a.2.1 a.2.2.1 a.2.2.2.1 a.2.2.2.2.1).eval) aa a
def D0 (c:TCore):Tree (Sl 216 (TRen)×Sl 216 (TRen)):=
 .opt (tT ((c,(Sl.nil:Sl 216 (TRen)),(Sl.nil:Sl 216 (TRen)),c.Iq,(Sl.len c.Iq),(W.of .i64 0),()))) fun o3=>
 .opt (tS ((o3.2.1,o3.2.2.1,o3.1.Units,(Sl.len o3.1.Units),(W.of .i64 0),()))) fun o6=>
 .ret (o6.1,o6.2.1)
def sE (c:TCore):Option (Sl 216 (TRen)×Sl 216 (TRen)):=(D0 c).eval
def rU (last:W .u64) (part:W .i64) (t_7:Sl 248 (TRob)) (t_8 t_9:W .i64):Tree (Rnd vE Nu):=
 .ite (W.lt t_9 t_8) (.opt (Sl.get? t_7 t_9) fun y1=>
 .ite (W.le y1.Ren.Seq last) (.ret (.out (.inl (false,part,()))))
 (.ite (W.ne y1.Ren.Uop.Part part) (.ret (.out (.inl (false,part,()))))
 (.ite y1.Ren.Uop.Last (.ret (.next (y1.Ren.Seq,(W.of .i64 0),t_7,t_8,(W.add t_9 (W.of .i64 1)),())))
 (.ret (.next (y1.Ren.Seq,(W.add part (W.of .i64 1)),t_7,t_8,(W.add t_9 (W.of .i64 1)),()))))))
 (.ret (.out (.inr ((),part,()))))
def kF (a:vE):Option Nu:=az (fun a:vE=>(rU a.1 a.2.1 a.2.2.1 a.2.2.2.1 a.2.2.2.2.1).eval) aa a
def Ft (l_0:Sl 248 (TRob)):Tree (Bool):=
 .opt (kF (((W.of .u64 0),(W.of .i64 0),l_0,(Sl.len l_0),(W.of .i64 0),()))) fun o2=>
 .sum o2 (fun p3=>
 .ret p3.1)
 (fun o4=>
 .ret (W.eq o4.2.1 (W.of .i64 0)))
def tr (l_0:Sl 248 (TRob)):Option (Bool):=(Ft l_0).eval
def DZ (c:TCore):Tree (Bool):=
 .opt (tr c.Rob) fun r1=>
 .ite r1 (.ite (W.eq (Sl.len c.Rob) (W.of .i64 0)) (.ret true)
 (.opt (Sl.get? c.Rob (W.sub (Sl.len c.Rob) (W.of .i64 1))) fun y2=>
 .ret (W.lt y2.Ren.Seq c.Names.Seq)))
 (.ret false)
def sD (c:TCore):Option (Bool):=(DZ c).eval
def qI (l_3:Sl 216 (TRen)) (t_7:Sl 248 (TRob)) (t_8 t_9:W .i64):Tree (Rnd wa (Sl 216 (TRen)×Unit)):=
 .ite (W.lt t_9 t_8) (.opt (Sl.get? t_7 t_9) fun y1=>
 .opt (Sl.app? l_3 (Sl.lit 216 [y1.Ren] rfl:Sl 216 (TRen))) fun l2=>
 .ret (.next (l2,t_7,t_8,(W.add t_9 (W.of .i64 1)),())))
 (.ret (.out (l_3,())))
def tU (a:wa):Option (Sl 216 (TRen)×Unit):=az (fun a:wa=>(qI a.1 a.2.1 a.2.2.1 a.2.2.2.1).eval) aa a
def D3 (c:TCore):Tree (Sl 216 (TRen)):=
 .opt (tU (((Sl.nil:Sl 216 (TRen)),c.Rob,(Sl.len c.Rob),(W.of .i64 0),()))) fun o3=>
 .ret o3.1
def sF (c:TCore):Option (Sl 216 (TRen)):=(D3 c).eval
def qR (n_1:W .i64) (m:Arr 16 (W .i64)) (r q:W .i64):Tree (Rnd gW wI):=
 .ite (W.lt q r) (.opt (aI 16 q) fun j1=>
 .opt (aI 16 r) fun j2=>
 .ite (W.eq (Arr.get m j1) (Arr.get m j2)) (.ret (.out (.inl (n_1,m,false,r,()))))
 (.ret (.next (n_1,m,r,(W.add q (W.of .i64 1)),()))))
 (.ret (.out (.inr (n_1,m,(),r,()))))
def mQ (a:gW):Option wI:=az (fun a:gW=>(qR a.1 a.2.1 a.2.2.1 a.2.2.2.1).eval) aa a
def zP (n_1:W .i64) (m:Arr 16 (W .i64)) (r:W .i64):Tree (Rnd gX aV):=
 .ite (W.lt r (W.of .i64 16)) (.opt (mQ ((n_1,m,r,(W.of .i64 1),()))) fun o3=>
 .sum o3 (fun p4=>
 .ret (.out (.inl (p4.2.2.1,()))))
 (fun o5=>
 .opt (aI 16 o5.2.2.2.1) fun j6=>
 .ite (W.lt (Arr.get o5.2.1 j6) (W.of .i64 1)) (.ret (.out (.inl (false,()))))
 (.opt (aI 16 o5.2.2.2.1) fun j7=>
 .ite (W.ge (Arr.get o5.2.1 j7) o5.1) (.ret (.out (.inl (false,()))))
 (.ret (.next (o5.1,o5.2.1,(W.add o5.2.2.2.1 (W.of .i64 1)),()))))))
 (.ret (.out (.inr ((),()))))
def mP (a:gX):Option aV:=az (fun a:gX=>(zP a.1 a.2.1 a.2.2.1).eval) aa a
def Ew (m:Arr 16 (W .i64)) (n_1:W .i64):Tree (Bool):=
 .ite (W.ne (Arr.get m 0) (W.of .i64 (-1))) (.ret false)
 (.opt (mP ((n_1,m,(W.of .i64 1),()))) fun o8=>
 .sum o8 (fun p9=>
 .ret p9.1)
 (fun o10=>
 .ret true))
def mh (m:Arr 16 (W .i64)) (n_1:W .i64):Option (Bool):=(Ew m n_1).eval
def Ed (f:TFree):Tree (Bool):=
 .ite (W.le (Sl.len f.Ring) (W.of .i64 96)) (.ite (W.ge f.Head (W.of .i64 0)) (.ite (W.lt f.Head (Sl.len f.Ring)) (.ite (W.ge f.N (W.of .i64 0)) (.ret (W.le f.N (Sl.len f.Ring)))
 (.ret false))
 (.ite (W.eq f.Head (W.of .i64 0)) (.ite (W.ge f.N (W.of .i64 0)) (.ret (W.le f.N (Sl.len f.Ring)))
 (.ret false))
 (.ret false)))
 (.ret false))
 (.ret false)
def md (f:TFree):Option (Bool):=(Ed f).eval
def Ec (f:TFree) (k:W .i64):Tree (W .i64):=
 .opt (W.rem? (W.add f.Head k) (Sl.len f.Ring)) fun z1=>
 .opt (W.rem? (W.add z1 (Sl.len f.Ring)) (Sl.len f.Ring)) fun z2=>
 .ret z2
def sJ (f:TFree) (k:W .i64):Option (W .i64):=(Ec f k).eval
def qK (f placef0:TFree) (out:Sl 8 (W .i64)) (t_12 t_13:W .i64):Tree (Rnd xo ch):=
 .ite (W.lt t_13 t_12) (.opt (sJ placef0 t_13) fun r2=>
 .opt (Sl.get? f.Ring r2) fun y3=>
 .opt (Sl.app? out (Sl.lit 8 [y3] rfl:Sl 8 (W .i64))) fun l4=>
 .ret (.next (f,((placef0,()),()),l4,t_12,(W.add t_13 (W.of .i64 1)),())))
 (.ret (.out (out,())))
def mL (a:xo):Option ch:=az (fun a:xo=>(qK a.1 a.2.1.1.1 a.2.2.1 a.2.2.2.1 a.2.2.2.2.1).eval) aa a
def Ea (f:TFree):Tree (Sl 8 (W .i64)):=
 .opt (md f) fun r1=>
 .ite (!r1) (.ret (Sl.nil:Sl 8 (W .i64)))
 (.opt (mL ((f,((f,()),()),(Sl.nil:Sl 8 (W .i64)),f.N,(W.of .i64 0),()))) fun o5=>
 .ret o5.1)
def mc (f:TFree):Option (Sl 8 (W .i64)):=(Ea f).eval
def qL (n_1:W .i64) (seen:Arr 96 (Bool)) (t_19:Sl 8 (W .i64)) (t_20 t_21:W .i64):Tree (Rnd vL aV):=
 .ite (W.lt t_21 t_20) (.opt (Sl.get? t_19 t_21) fun y3=>
 .ite (W.lt y3 (W.of .i64 0)) (.ret (.out (.inl (false,()))))
 (.ite (W.ge y3 n_1) (.ret (.out (.inl (false,()))))
 (.opt (aI 96 y3) fun j4=>
 .ite (Arr.get seen j4) (.ret (.out (.inl (false,()))))
 (.opt (aI 96 y3) fun j5=>
 .ret (.next (n_1,(Arr.set seen j5 true),t_19,t_20,(W.add t_21 (W.of .i64 1)),()))))))
 (.ret (.out (.inr ((),()))))
def mM (a:vL):Option aV:=az (fun a:vL=>(qL a.1 a.2.1 a.2.2.1 a.2.2.2.1 a.2.2.2.2.1).eval) aa a
def Eb (f:TFree) (n_1:W .i64):Tree (Bool):=
 .opt (md f) fun r1=>
 .ite (!r1) (.ret false)
 (.ite (W.ne (Sl.len f.Ring) n_1) (.ret false)
 (.opt (mc f) fun r2=>
 .opt (mM ((n_1,(Arr.rep 96 false:Arr 96 (Bool)),r2,(Sl.len r2),(W.of .i64 0),()))) fun o6=>
 .sum o6 (fun p7=>
 .ret p7.1)
 (fun o8=>
 .ret true)))
def sI (f:TFree) (n_1:W .i64):Option (Bool):=(Eb f n_1).eval
def Fo (p a:W .i64) (a_2:Bool) (a_3:Arr 96 (W .i64)):Tree (W .i64×Bool×Arr 96 (W .i64)):=
 .ite (W.lt p (W.of .i64 1)) (.ret (a,true,a_3))
 (.ite (W.ge p a) (.ret (a,true,a_3))
 (.opt (aI 96 p) fun j1=>
 .opt (aI 96 p) fun j2=>
 .ret (a,a_2,(Arr.set a_3 j2 (W.add (Arr.get a_3 j1) (W.of .i64 1))))))
def kj (p a:W .i64) (a_2:Bool) (a_3:Arr 96 (W .i64)):Option (W .i64×Bool×Arr 96 (W .i64)):=(Fo p a a_2 a_3).eval
def Fs (u:TUop):Tree (Bool):=
 .ite (W.ge u.Dst (W.of .i64 1)) (.ret (W.lt u.Dst (W.of .i64 16)))
 (.ret false)
def tq (u:TUop):Option (Bool):=(Fs u).eval
def Ey (r:W .i64):Tree (Bool):=
 .ite (W.gt r (W.of .i64 0)) (.ret (W.lt r (W.of .i64 16)))
 (.ret false)
def mi (r:W .i64):Option (Bool):=(Ey r).eval
def Ev (m:Arr 16 (W .i64)) (r:W .i64):Tree (W .i64):=
 .opt (mi r) fun r1=>
 .ite (!r1) (.ret (W.of .i64 (-1)))
 (.opt (aI 16 r) fun j2=>
 .ret (Arr.get m j2))
def sS (m:Arr 16 (W .i64)) (r:W .i64):Option (W .i64):=(Ev m r).eval
def Ex (m:Arr 16 (W .i64)) (r p:W .i64):Tree (Arr 16 (W .i64)):=
 .opt (mi r) fun r1=>
 .ite r1 (.opt (aI 16 r) fun j2=>
 .ret (Arr.set m j2 p))
 (.ret m)
def sT (m:Arr 16 (W .i64)) (r p:W .i64):Option (Arr 16 (W .i64)):=(Ex m r p).eval
def rT (s:TNames) (m:Arr 16 (W .i64)) (last:W .u64) (t_11:Sl 216 (TRen)) (t_12 t_13:W .i64):Tree (Rnd xp Nv):=
 .ite (W.lt t_13 t_12) (.opt (Sl.get? t_11 t_13) fun y1=>
 .ite (W.le y1.Seq last) (.ret (.out (.inl (s,false,m,()))))
 (.ite (W.ge y1.Seq s.Seq) (.ret (.out (.inl (s,false,m,()))))
 (.opt (tq y1.Uop) fun r2=>
 .ite (!r2) (.ite (W.ne y1.Out (W.of .i64 (-1))) (.ret (.out (.inl (s,false,m,()))))
 (.ite (W.ne y1.Old (W.of .i64 (-1))) (.ret (.out (.inl (s,false,m,()))))
 (.ret (.next (s,m,y1.Seq,t_11,t_12,(W.add t_13 (W.of .i64 1)),())))))
 (.ite (W.eq y1.Out (W.of .i64 (-1))) (.ret (.out (.inl (s,false,m,()))))
 (.opt (sS m y1.Uop.Dst) fun r3=>
 .ite (W.ne y1.Old r3) (.ret (.out (.inl (s,false,m,()))))
 (.opt (sT m y1.Uop.Dst y1.Out) fun r4=>
 .ret (.next (s,r4,y1.Seq,t_11,t_12,(W.add t_13 (W.of .i64 1)),()))))))))
 (.ret (.out (.inr (s,(),m,()))))
def kE (a:xp):Option Nv:=az (fun a:xp=>(rT a.1 a.2.1 a.2.2.1 a.2.2.2.1 a.2.2.2.2.1 a.2.2.2.2.2.1).eval) aa a
def Fq (s:TNames) (flying:Sl 216 (TRen)):Tree (Bool):=
 .opt (kE ((s,s.Done,(W.of .u64 0),flying,(Sl.len flying),(W.of .i64 0),()))) fun o5=>
 .sum o5 (fun p6=>
 .ret p6.2.1)
 (fun o7=>
 .ret (Tab.eq ab (.arr 16 (.int .i64)) o7.2.2.1 o7.1.Map))
def tp (s:TNames) (flying:Sl 216 (TRen)):Option (Bool):=(Fq s flying).eval
def rR (t_0:Sl 216 (TRen)) (t_2:W .i64) (t_3:Bool) (t_4:Arr 96 (W .i64)) (t_5:Bool) (i:W .i64):Tree (Rnd wx wJ):=
 .ite (W.ge i (W.of .i64 0)) (.opt (Sl.get? t_0 i) fun y1=>
 .ite (W.ne y1.Out (W.of .i64 (-1))) (.opt (Sl.get? t_0 i) fun y2=>
 .opt (kj y2.Out t_2 t_5 t_4) fun r3=>
 .ret (.next (t_0,((),((),(),(),())),r3.1,t_3,r3.2.2,r3.2.1,(W.sub i (W.of .i64 1)),())))
 (.ret (.next (t_0,((),((),(),(),())),t_2,t_3,t_4,t_5,(W.sub i (W.of .i64 1)),()))))
 (.ret (.out (t_0,t_2,t_3,t_4,t_5,())))
def kC (a:wx):Option wJ:=az (fun a:wx=>(rR a.1 a.2.2.1 a.2.2.2.1 a.2.2.2.2.1 a.2.2.2.2.2.1 a.2.2.2.2.2.2.1).eval) aa a
def rQ (t_0:Sl 216 (TRen)) (t_2:W .i64) (t_3:Bool) (t_4:Arr 96 (W .i64)) (t_5:Bool) (p:W .i64):Tree (Rnd wF wJ):=
 .ite (W.lt p t_2) (.ite t_3 (.opt (aI 96 p) fun j5=>
 .ret (.next (t_0,t_2,(W.eq (Arr.get t_4 j5) (W.of .i64 1)),t_4,t_5,(W.add p (W.of .i64 1)),())))
 (.ret (.next (t_0,t_2,false,t_4,t_5,(W.add p (W.of .i64 1)),()))))
 (.ret (.out (t_0,t_2,t_3,t_4,t_5,())))
def kB (a:wF):Option wJ:=az (fun a:wF=>(rQ a.1 a.2.1 a.2.2.1 a.2.2.2.1 a.2.2.2.2.1 a.2.2.2.2.2.1).eval) aa a
def Fp (a:Sl 216 (TRen)) (a_2:W .i64) (a_3:Bool) (a_4:Arr 96 (W .i64)) (a_5:Bool):Tree (Sl 216 (TRen)×W .i64×Bool×Arr 96 (W .i64)×Bool):=
 .opt (kC ((a,((),((),(),(),())),a_2,a_3,a_4,a_5,(W.sub (Sl.len a) (W.of .i64 1)),()))) fun o4=>
 .opt (kB ((o4.1,o4.2.1,o4.2.2.1,o4.2.2.2.1,o4.2.2.2.2.1,(W.of .i64 1),()))) fun o6=>
 .ite o6.2.2.1 (.ret (o6.1,o6.2.1,(!o6.2.2.2.2.1),o6.2.2.2.1,o6.2.2.2.2.1))
 (.ret (o6.1,o6.2.1,false,o6.2.2.2.1,o6.2.2.2.2.1))
def AN (a:Sl 216 (TRen)) (a_2:W .i64) (a_3:Bool) (a_4:Arr 96 (W .i64)) (a_5:Bool):Option (Sl 216 (TRen)×W .i64×Bool×Arr 96 (W .i64)×Bool):=(Fp a a_2 a_3 a_4 a_5).eval
def rP (s:TNames) (n_4:W .i64) (flying:Sl 216 (TRen)) (ok:Bool) (times:Arr 96 (W .i64)) (strange:Bool) (t_44:Sl 8 (W .i64)) (t_45 t_46:W .i64):Tree (Rnd wN Nx):=
 .ite (W.lt t_46 t_45) (.opt (Sl.get? t_44 t_46) fun y5=>
 .opt (kj y5 n_4 strange times) fun r6=>
 .ret (.next (s,r6.1,flying,ok,r6.2.2,r6.2.1,((),((),(),(),())),((),((),((),((),(),(),())),(),(),(),(),())),t_44,t_45,(W.add t_46 (W.of .i64 1)),())))
 (.ret (.out (s,n_4,flying,ok,times,strange,((),((),(),(),())),((),((),((),((),(),(),())),(),(),(),(),())),())))
def kA (a:wN):Option Nx:=az (fun a:wN=>(rP a.1 a.2.1 a.2.2.1 a.2.2.2.1 a.2.2.2.2.1 a.2.2.2.2.2.1 a.2.2.2.2.2.2.2.2.1 a.2.2.2.2.2.2.2.2.2.1 a.2.2.2.2.2.2.2.2.2.2.1).eval) aa a
def Ap (s:TNames) (n_4:W .i64) (flying:Sl 216 (TRen)) (ok:Bool) (times:Arr 96 (W .i64)) (strange:Bool) (r:W .i64):Tree (Rnd wP Ny):=
 .ite (W.lt r (W.of .i64 16)) (.opt (aI 16 r) fun j8=>
 .opt (kj (Arr.get s.Done j8) n_4 strange times) fun r9=>
 .ret (.next (s,r9.1,flying,ok,r9.2.2,r9.2.1,((),((),(),(),())),(W.add r (W.of .i64 1)),((),((),((),((),(),(),())),(),(),(),(),())),())))
 (.ret (.out (s,n_4,flying,ok,times,strange,((),((),((),((),(),(),())),(),(),(),(),())),())))
def kD (a:wP):Option Ny:=az (fun a:wP=>(Ap a.1 a.2.1 a.2.2.1 a.2.2.2.1 a.2.2.2.2.1 a.2.2.2.2.2.1 a.2.2.2.2.2.2.2.1).eval) aa a
def Fm (s:TNames) (n_1:W .i64) (flying:Sl 216 (TRen)):Tree (Bool):=
 .ite (W.le n_1 (W.of .i64 16)) (.ret false)
 (.ite (W.gt n_1 (W.of .i64 96)) (.ret false)
 (.opt (mh s.Map n_1) fun r1=>
 .ite (!r1) (.ret false)
 (.opt (mh s.Done n_1) fun r2=>
 .ite (!r2) (.ret false)
 (.opt (sI s.Free n_1) fun r3=>
 .ite (!r3) (.ret false)
 (.opt (mc s.Free) fun r4=>
 .opt (kA ((s,n_1,flying,false,(Arr.rep 96 (W.of .i64 0):Arr 96 (W .i64)),false,((),((),(),(),())),((),((),((),((),(),(),())),(),(),(),(),())),r4,(Sl.len r4),(W.of .i64 0),()))) fun o7=>
 .opt (kD ((o7.1,o7.2.1,o7.2.2.1,o7.2.2.2.1,o7.2.2.2.2.1,o7.2.2.2.2.2.1,((),((),(),(),())),(W.of .i64 1),((),((),((),((),(),(),())),(),(),(),(),())),()))) fun o10=>
 .opt (tp o10.1 o10.2.2.1) fun r11=>
 .opt (AN o10.2.2.1 o10.2.1 r11 o10.2.2.2.2.1 o10.2.2.2.2.2.1) fun r12=>
 .ret r12.2.2.1)))))
def tn (s:TNames) (n_1:W .i64) (flying:Sl 216 (TRen)):Option (Bool):=(Fm s n_1 flying).eval
def D9 (e:TRob) (a:TRen):Tree (Bool):=
 .ite (Tab.eq ab (.named .TRen) e.Ren a) (.ret (!e.Done))
 (.ret false)
def ma (e:TRob) (a:TRen):Option (Bool):=(D9 e a).eval
def sd (s:Sl 248 (TRob)) (fc0:TRen) (t_7 t_8:W .i64):Tree (Rnd wQ cT):=
 .ite (W.lt t_8 t_7) (.opt (Sl.get? s t_8) fun y1=>
 .opt (ma y1 fc0) fun r2=>
 .ite r2 (.ret (.out (.inl (t_8,()))))
 (.ret (.next (s,((),(fc0,())),t_7,(W.add t_8 (W.of .i64 1)),()))))
 (.ret (.out (.inr ((),()))))
def ny (a:wQ):Option cT:=az (fun a:wQ=>(sd a.1 a.2.1.2.1 a.2.2.1 a.2.2.2.1).eval) aa a
def FK (s:Sl 248 (TRob)) (fc0:TRen):Tree (W .i64):=
 .opt (ny ((s,((),(fc0,())),(Sl.len s),(W.of .i64 0),()))) fun o3=>
 .sum o3 (fun p4=>
 .ret p4.1)
 (fun o5=>
 .ret (W.of .i64 (-1)))
def AR (s:Sl 248 (TRob)) (fc0:TRen):Option (W .i64):=(FK s fc0).eval
def FA (s:Sl 248 (TRob)) (fc0:TRen):Tree (Bool):=
 .opt (AR s fc0) fun r1=>
 .ret (W.ge r1 (W.of .i64 0))
def tz (s:Sl 248 (TRob)) (fc0:TRen):Option (Bool):=(FA s fc0).eval
def D8 (c:TCore) (r:TRen):Tree (Bool):=
 .opt (tz c.Rob r) fun r1=>
 .ret r1
def sH (c:TCore) (r:TRen):Option (Bool):=(D8 c r).eval
def qF (c:TCore) (seen:List (W .u64×W .i64)) (t_9:Sl 216 (TRen)) (t_10 t_11:W .i64):Tree (Rnd wT aV):=
 .ite (W.lt t_11 t_10) (.opt (Sl.get? t_9 t_11) fun y1=>
 .ite (W.gt (Option.getD (bS (W.eq) (ej (W.eq) seen y1.Seq (W.add (Option.getD (bS (W.eq) seen y1.Seq) (W.of .i64 0)) (W.of .i64 1))) y1.Seq) (W.of .i64 0)) (W.of .i64 1)) (.ret (.out (.inl (false,()))))
 (.opt (sH c y1) fun r2=>
 .ite (!r2) (.ret (.out (.inl (false,()))))
 (.ret (.next (c,(ej (W.eq) seen y1.Seq (W.add (Option.getD (bS (W.eq) seen y1.Seq) (W.of .i64 0)) (W.of .i64 1))),t_9,t_10,(W.add t_11 (W.of .i64 1)),())))))
 (.ret (.out (.inr ((),()))))
def tR (a:wT):Option aV:=az (fun a:wT=>(qF a.1 a.2.1 a.2.2.1 a.2.2.2.1 a.2.2.2.2.1).eval) aa a
def DX (c:TCore) (l_1:Sl 216 (TRen)):Tree (Bool):=
 .opt (tR ((c,([]:List (W .u64×W .i64)),l_1,(Sl.len l_1),(W.of .i64 0),()))) fun o3=>
 .sum o3 (fun p4=>
 .ret p4.1)
 (fun o5=>
 .ret true)
def lW (c:TCore) (l_1:Sl 216 (TRen)):Option (Bool):=(DX c l_1).eval
def My (s a:TRen):Tree (Bool):=
 .ret (W.eq a.Seq s.Seq)
def Aw (s a:TRen):Option (Bool):=(My s a).eval
def sa (s:Sl 216 (TRen)) (fc0:TRen) (t_7 t_8:W .i64):Tree (Rnd xq cT):=
 .ite (W.lt t_8 t_7) (.opt (Sl.get? s t_8) fun y1=>
 .opt (Aw y1 fc0) fun r2=>
 .ite r2 (.ret (.out (.inl (t_8,()))))
 (.ret (.next (s,((),(fc0,())),t_7,(W.add t_8 (W.of .i64 1)),()))))
 (.ret (.out (.inr ((),()))))
def nv (a:xq):Option cT:=az (fun a:xq=>(sa a.1 a.2.1.2.1 a.2.2.1 a.2.2.2.1).eval) aa a
def FI (s:Sl 216 (TRen)) (fc0:TRen):Tree (W .i64):=
 .opt (nv ((s,((),(fc0,())),(Sl.len s),(W.of .i64 0),()))) fun o3=>
 .sum o3 (fun p4=>
 .ret p4.1)
 (fun o5=>
 .ret (W.of .i64 (-1)))
def AP (s:Sl 216 (TRen)) (fc0:TRen):Option (W .i64):=(FI s fc0).eval
def Fx (s:Sl 216 (TRen)) (fc0:TRen):Tree (Bool):=
 .opt (AP s fc0) fun r1=>
 .ret (W.ge r1 (W.of .i64 0))
def tw (s:Sl 216 (TRen)) (fc0:TRen):Option (Bool):=(Fx s fc0).eval
def DU (r:TRen) (a:Sl 216 (TRen)):Tree (Bool):=
 .opt (tw a r) fun r1=>
 .ret r1
def lU (r:TRen) (a:Sl 216 (TRen)):Option (Bool):=(DU r a).eval
def sb (s fc0:Sl 216 (TRen)) (t_7 t_8:W .i64):Tree (Rnd vG cT):=
 .ite (W.lt t_8 t_7) (.opt (Sl.get? s t_8) fun y1=>
 .opt (lU y1 fc0) fun r2=>
 .ite r2 (.ret (.out (.inl (t_8,()))))
 (.ret (.next (s,((),(fc0,())),t_7,(W.add t_8 (W.of .i64 1)),()))))
 (.ret (.out (.inr ((),()))))
def nw (a:vG):Option cT:=az (fun a:vG=>(sb a.1 a.2.1.2.1 a.2.2.1 a.2.2.2.1).eval) aa a
def FH (s fc0:Sl 216 (TRen)):Tree (W .i64):=
 .opt (nw ((s,((),(fc0,())),(Sl.len s),(W.of .i64 0),()))) fun o3=>
 .sum o3 (fun p4=>
 .ret p4.1)
 (fun o5=>
 .ret (W.of .i64 (-1)))
def AO (s fc0:Sl 216 (TRen)):Option (W .i64):=(FH s fc0).eval
def Fw (s fc0:Sl 216 (TRen)):Tree (Bool):=
 .opt (AO s fc0) fun r1=>
 .ret (W.ge r1 (W.of .i64 0))
def tv (s fc0:Sl 216 (TRen)):Option (Bool):=(Fw s fc0).eval
def DT (a b:Sl 216 (TRen)):Tree (Bool):=
 .opt (tv a b) fun r1=>
 .ret (!r1)
def sC (a b:Sl 216 (TRen)):Option (Bool):=(DT a b).eval
def qJ (unit:W .i64) (l_5:Sl 8 (W .u64)) (t_9:Sl 248 (TRob)) (t_10 t_11:W .i64):Tree (Rnd vH wK):=
 .ite (W.lt t_11 t_10) (.opt (Sl.get? t_9 t_11) fun y1=>
 .ite (W.eq y1.Ren.Uop.Unit unit) (.opt (Sl.app? l_5 (Sl.lit 8 [y1.Ren.Seq] rfl:Sl 8 (W .u64))) fun l2=>
 .ret (.next (unit,l2,t_9,t_10,(W.add t_11 (W.of .i64 1)),())))
 (.ret (.next (unit,l_5,t_9,t_10,(W.add t_11 (W.of .i64 1)),()))))
 (.ret (.out (l_5,())))
def tV (a:vH):Option wK:=az (fun a:vH=>(qJ a.1 a.2.1 a.2.2.1 a.2.2.2.1 a.2.2.2.2.1).eval) aa a
def D5 (c:TCore) (unit:W .i64):Tree (Sl 8 (W .u64)):=
 .opt (tV ((unit,(Sl.nil:Sl 8 (W .u64)),c.Rob,(Sl.len c.Rob),(W.of .i64 0),()))) fun o3=>
 .ret o3.1
def lY (c:TCore) (unit:W .i64):Option (Sl 8 (W .u64)):=(D5 c unit).eval
def Mz (e:TLq) (n_1:W .u64):Tree (Bool):=
 .ret (W.eq e.Seq n_1)
def Jk (e:TLq) (n_1:W .u64):Option (Bool):=(Mz e n_1).eval
def rY (s2:Sl 8 (W .u64)) (t_15:Sl 48 (TLq)) (t_16 t_17:W .i64):Tree (Rnd xu aV):=
 .ite (W.lt t_17 t_16) (.opt (Sl.get? t_15 t_17) fun y1=>
 .opt (Sl.get? s2 t_17) fun y2=>
 .opt (Jk y1 y2) fun r3=>
 .ite (!r3) (.ret (.out (.inl (false,()))))
 (.ret (.next (s2,((),()),t_15,t_16,(W.add t_17 (W.of .i64 1)),()))))
 (.ret (.out (.inr ((),()))))
def uQ (a:xu):Option aV:=az (fun a:xu=>(rY a.1 a.2.2.1 a.2.2.2.1 a.2.2.2.2.1).eval) aa a
def FE (s1:Sl 48 (TLq)) (s2:Sl 8 (W .u64)):Tree (Bool):=
 .ite (W.ne (Sl.len s1) (Sl.len s2)) (.ret false)
 (.opt (uQ ((s2,((),()),s1,(Sl.len s1),(W.of .i64 0),()))) fun o4=>
 .sum o4 (fun p5=>
 .ret p5.1)
 (fun o6=>
 .ret true))
def tD (s1:Sl 48 (TLq)) (s2:Sl 8 (W .u64)):Option (Bool):=(FE s1 s2).eval
def MA (e:TSq) (n_1:W .u64):Tree (Bool):=
 .ret (W.eq e.Seq n_1)
def Jl (e:TSq) (n_1:W .u64):Option (Bool):=(MA e n_1).eval
def rZ (s2:Sl 8 (W .u64)) (t_15:Sl 32 (TSq)) (t_16 t_17:W .i64):Tree (Rnd wV aV):=
 .ite (W.lt t_17 t_16) (.opt (Sl.get? t_15 t_17) fun y1=>
 .opt (Sl.get? s2 t_17) fun y2=>
 .opt (Jl y1 y2) fun r3=>
 .ite (!r3) (.ret (.out (.inl (false,()))))
 (.ret (.next (s2,((),()),t_15,t_16,(W.add t_17 (W.of .i64 1)),()))))
 (.ret (.out (.inr ((),()))))
def uR (a:wV):Option aV:=az (fun a:wV=>(rZ a.1 a.2.2.1 a.2.2.2.1 a.2.2.2.2.1).eval) aa a
def FF (s1:Sl 32 (TSq)) (s2:Sl 8 (W .u64)):Tree (Bool):=
 .ite (W.ne (Sl.len s1) (Sl.len s2)) (.ret false)
 (.opt (uR ((s2,((),()),s1,(Sl.len s1),(W.of .i64 0),()))) fun o4=>
 .sum o4 (fun p5=>
 .ret p5.1)
 (fun o6=>
 .ret true))
def tE (s1:Sl 32 (TSq)) (s2:Sl 8 (W .u64)):Option (Bool):=(FF s1 s2).eval
def DY (c:TCore):Tree (Bool):=
 .opt (lY c (W.of .i64 5)) fun r1=>
 .opt (tD c.Lq r1) fun r2=>
 .ite r2 (.opt (lY c (W.of .i64 6)) fun r3=>
 .opt (tE c.Sq r3) fun r4=>
 .ret r4)
 (.ret false)
def lX (c:TCore):Option (Bool):=(DY c).eval
def Eu (f:TPhys) (p:W .i64):Tree (Bool):=
 .ite (W.ge p (W.of .i64 0)) (.ite (W.lt p (Sl.len f.Val)) (.ret (W.lt p (Sl.len f.Ready)))
 (.ret false))
 (.ret false)
def sR (f:TPhys) (p:W .i64):Option (Bool):=(Eu f p).eval
def Es (f:TPhys) (p:W .i64):Tree (W .u32×Bool):=
 .opt (sR f p) fun r1=>
 .ite (!r1) (.ret ((W.of .u32 0),true))
 (.opt (Sl.get? f.Ready p) fun y2=>
 .ite (!y2) (.ret ((W.of .u32 0),false))
 (.opt (Sl.get? f.Val p) fun y3=>
 .ret (y3,true)))
def gA (f:TPhys) (p:W .i64):Option (W .u32×Bool):=(Es f p).eval
def qQ (f:TPhys) (m:Arr 16 (W .i64)) (t_4 out:Arr 16 (W .u32)) (r:W .i64):Tree (Rnd gL wL):=
 .ite (W.lt r (W.of .i64 16)) (.opt (aI 16 r) fun j1=>
 .opt (gA f (Arr.get m j1)) fun r2=>
 .opt (aI 16 r) fun j3=>
 .ret (.next (f,m,t_4,(Arr.set out j3 r2.1),(W.add r (W.of .i64 1)),())))
 (.ret (.out (t_4,out,())))
def mO (a:gL):Option wL:=az (fun a:gL=>(qQ a.1 a.2.1 a.2.2.1 a.2.2.2.1 a.2.2.2.2.1).eval) aa a
def Et (f:TPhys) (m:Arr 16 (W .i64)):Tree (Arr 16 (W .u32)):=
 .opt (mO ((f,m,(Arr.rep 16 (W.of .u32 0):Arr 16 (W .u32)),(Arr.rep 16 (W.of .u32 0):Arr 16 (W .u32)),(W.of .i64 1),()))) fun o4=>
 .ret o4.2.1
def jZ (f:TPhys) (m:Arr 16 (W .i64)):Option (Arr 16 (W .u32)):=(Et f m).eval
def MB (aB:W .i64):Tree (W .u32):=
 .ite (W.lt aB (W.of .i64 0)) (.ret (W.of .u32 0))
 (.ite (W.ge aB (W.of .i64 12)) (.ret (W.of .u32 0))
 (.opt (aI 12 aB) fun j1=>
 .ret (Arr.get (Arr.lit 12 [(W.of .u32 63),(W.of .u32 31),(W.of .u32 4294967295),(W.of .u32 4294967295),(W.of .u32 4294967295),(W.of .u32 4294967232),(W.of .u32 4294967295),(W.of .u32 4294967295),(W.of .u32 4294967295),(W.of .u32 7),(W.of .u32 7),(W.of .u32 4294967295)] rfl:Arr 12 (W .u32)) j1)))
def mb (aB:W .i64):Option (W .u32):=(MB aB).eval
def qE (a:TArch) (t_6:Arr 12 (W .u32)) (t_7:W .i64):Tree (Rnd wb wM):=
 .ite (W.lt t_7 (W.of .i64 12)) (.opt (aI 12 t_7) fun j1=>
 .opt (mb t_7) fun r2=>
 .ite (W.ne (W.andNot (Arr.get t_6 j1) r2) (W.of .u32 0)) (.ret (.out (.inl (a,false,()))))
 (.ret (.next (a,t_6,(W.add t_7 (W.of .i64 1)),()))))
 (.ret (.out (.inr (a,(),()))))
def ko (a:wb):Option wM:=az (fun a:wb=>(qE a.1 a.2.1 a.2.2.1).eval) aa a
def DW (a:TArch):Tree (Bool):=
 .opt (ko ((a,a.C,(W.of .i64 0),()))) fun o3=>
 .sum o3 (fun p4=>
 .ret p4.2.1)
 (fun o5=>
 .ret (W.eq (Arr.get o5.1.R 0) (W.of .u32 0)))
def lV (a:TArch):Option (Bool):=(DW a).eval
def D7 (e:TRob) (a:TCore):Tree (Bool):=
 .opt (gA a.Phys e.Ren.Out) fun r1=>
 .ite e.Done (.ite (W.eq e.Cause (W.of .i64 0)) (.ite (W.ne e.Ren.Out (W.of .i64 (-1))) (.ite (!r1.2) (.ret true)
 (.ret (W.ne r1.1 e.Val)))
 (.ret false))
 (.ret false))
 (.ret false)
def l9 (e:TRob) (a:TCore):Option (Bool):=(D7 e a).eval
def sc (s:Sl 248 (TRob)) (fc0:TCore) (t_7 t_8:W .i64):Tree (Rnd xv cT):=
 .ite (W.lt t_8 t_7) (.opt (Sl.get? s t_8) fun y1=>
 .opt (l9 y1 fc0) fun r2=>
 .ite r2 (.ret (.out (.inl (t_8,()))))
 (.ret (.next (s,((),(fc0,())),t_7,(W.add t_8 (W.of .i64 1)),()))))
 (.ret (.out (.inr ((),()))))
def nx (a:xv):Option cT:=az (fun a:xv=>(sc a.1 a.2.1.2.1 a.2.2.1 a.2.2.2.1).eval) aa a
def FJ (s:Sl 248 (TRob)) (fc0:TCore):Tree (W .i64):=
 .opt (nx ((s,((),(fc0,())),(Sl.len s),(W.of .i64 0),()))) fun o3=>
 .sum o3 (fun p4=>
 .ret p4.1)
 (fun o5=>
 .ret (W.of .i64 (-1)))
def AQ (s:Sl 248 (TRob)) (fc0:TCore):Option (W .i64):=(FJ s fc0).eval
def Fy (s:Sl 248 (TRob)) (fc0:TCore):Tree (Bool):=
 .opt (AQ s fc0) fun r1=>
 .ret (W.ge r1 (W.of .i64 0))
def tx (s:Sl 248 (TRob)) (fc0:TCore):Option (Bool):=(Fy s fc0).eval
def D6 (c:TCore):Tree (Bool):=
 .opt (tx c.Rob c) fun r1=>
 .ret (!r1)
def lZ (c:TCore):Option (Bool):=(D6 c).eval
def IY (l_5:Sl 8 (W .i64)) (t_55:Sl 1 (Bool)) (t_56 t_57:W .i64):Tree (Rnd gM ch):=
 .ite (W.lt t_57 t_56) (.opt (aI (List.length t_55.l) t_57) fun j13=>
 .ite (!(List.getD t_55.l j13 false)) (.opt (Sl.app? l_5 (Sl.lit 8 [(W.add t_57 (W.of .i64 2))] rfl:Sl 8 (W .i64))) fun l14=>
 .ret (.next (l14,t_55,t_56,(W.add t_57 (W.of .i64 1)),())))
 (.ret (.next (l_5,t_55,t_56,(W.add t_57 (W.of .i64 1)),()))))
 (.ret (.out (l_5,())))
def km (a:gM):Option ch:=az (fun a:gM=>(IY a.1 a.2.1 a.2.2.1 a.2.2.2.1).eval) aa a
def DQ (c:TCore):Tree (Sl 8 (W .i64)):=
 .opt (sG c) fun r1=>
 .ite (!r1) (.ret (Sl.lit 8 [(W.of .i64 1)] rfl:Sl 8 (W .i64)))
 (.opt (sE c) fun r2=>
 .opt (sD c) fun r3=>
 .opt (sF c) fun r4=>
 .opt (tn c.Names c.Conf.Phys r4) fun r5=>
 .opt (lW c r2.1) fun r6=>
 .opt (lW c r2.2) fun r7=>
 .ite r7 (.opt (sC r2.1 r2.2) fun r8=>
 .opt (lX c) fun r9=>
 .opt (jZ c.Phys c.Names.Done) fun r10=>
 .opt (lV c.A) fun r11=>
 .opt (lZ c) fun r12=>
 .opt (km (((Sl.nil:Sl 8 (W .i64)),(Sl.lit 1 [r3,r5,r6,r8,r9,(Tab.eq ab (.arr 16 (.int .u32)) r10 c.A.R),r11,r12] rfl:Sl 1 (Bool)),(W.of .i64 8),(W.of .i64 0),()))) fun o15=>
 .ret o15.1)
 (.opt (lX c) fun r16=>
 .opt (jZ c.Phys c.Names.Done) fun r17=>
 .opt (lV c.A) fun r18=>
 .opt (lZ c) fun r19=>
 .opt (km (((Sl.nil:Sl 8 (W .i64)),(Sl.lit 1 [r3,r5,r6,false,r16,(Tab.eq ab (.arr 16 (.int .u32)) r17 c.A.R),r18,r19] rfl:Sl 1 (Bool)),(W.of .i64 8),(W.of .i64 0),()))) fun o20=>
 .ret o20.1))
def sy (c:TCore):Option (Sl 8 (W .i64)):=(DQ c).eval
def sg (s:Sl 8 (W .i64)) (v t_7 t_8:W .i64):Tree (Rnd gK cT):=
 .ite (W.lt t_8 t_7) (.opt (Sl.get? s t_8) fun y1=>
 .ite (W.eq v y1) (.ret (.out (.inl (t_8,()))))
 (.ret (.next (s,v,t_7,(W.add t_8 (W.of .i64 1)),()))))
 (.ret (.out (.inr ((),()))))
def uW (a:gK):Option cT:=az (fun a:gK=>(sg a.1 a.2.1 a.2.2.1 a.2.2.2.1).eval) aa a
def FO (s:Sl 8 (W .i64)) (v:W .i64):Tree (W .i64):=
 .opt (uW ((s,v,(Sl.len s),(W.of .i64 0),()))) fun o2=>
 .sum o2 (fun p3=>
 .ret p3.1)
 (fun o4=>
 .ret (W.of .i64 (-1)))
def AW (s:Sl 8 (W .i64)) (v:W .i64):Option (W .i64):=(FO s v).eval
def FD (s:Sl 8 (W .i64)) (v:W .i64):Tree (Bool):=
 .opt (AW s v) fun r1=>
 .ret (W.ge r1 (W.of .i64 0))
def tC (s:Sl 8 (W .i64)) (v:W .i64):Option (Bool):=(FD s v).eval
def Ej (m:Sl 1 (W .u8)):Tree (Bool):=
 .ite (W.ge (Sl.len m) (W.of .i64 64)) (.ite (W.le (Sl.len m) (W.of .i64 16384)) (.ret (W.eq (W.rem (Sl.len m) (W.of .i64 64)) (W.of .i64 0)))
 (.ret false))
 (.ret false)
def sM (m:Sl 1 (W .u8)):Option (Bool):=(Ej m).eval
def DE (c:TCache) (line:W .u32):Tree (W .i64):=
 .ite (W.eq (Sl.len c.Sets) (W.of .i64 0)) (.ret (W.of .i64 0))
 (.opt (W.rem? (W.conv (.u64) line) (W.conv (.u64) (Sl.len c.Sets))) fun z1=>
 .ret (W.conv (.i64) z1))
def iH (c:TCache) (line:W .u32):Option (W .i64):=(DE c line).eval
def DF (c:TCache) (line:W .u32):Tree (Sl 40 (TWay)):=
 .ite (W.eq (Sl.len c.Sets) (W.of .i64 0)) (.ret (Sl.nil:Sl 40 (TWay)))
 (.opt (iH c line) fun r1=>
 .opt (Sl.get? c.Sets r1) fun y2=>
 .ret y2)
def so (c:TCache) (line:W .u32):Option (Sl 40 (TWay)):=(DF c line).eval
def DB (w:TWay) (a:W .u32):Tree (Bool):=
 .ite (W.eq w.Tag a) (.ret (W.ne w.State (W.of .i64 0)))
 (.ret false)
def sn (w:TWay) (a:W .u32):Option (Bool):=(DB w a).eval
def se (s:Sl 40 (TWay)) (fc0:W .u32) (t_7 t_8:W .i64):Tree (Rnd we cT):=
 .ite (W.lt t_8 t_7) (.opt (Sl.get? s t_8) fun y1=>
 .opt (sn y1 fc0) fun r2=>
 .ite r2 (.ret (.out (.inl (t_8,()))))
 (.ret (.next (s,((),(fc0,())),t_7,(W.add t_8 (W.of .i64 1)),()))))
 (.ret (.out (.inr ((),()))))
def uT (a:we):Option cT:=az (fun a:we=>(se a.1 a.2.1.2.1 a.2.2.1 a.2.2.2.1).eval) aa a
def FL (s:Sl 40 (TWay)) (fc0:W .u32):Tree (W .i64):=
 .opt (uT ((s,((),(fc0,())),(Sl.len s),(W.of .i64 0),()))) fun o3=>
 .sum o3 (fun p4=>
 .ret p4.1)
 (fun o5=>
 .ret (W.of .i64 (-1)))
def tF (s:Sl 40 (TWay)) (fc0:W .u32):Option (W .i64):=(FL s fc0).eval
def DA (c:TCache) (line:W .u32):Tree (W .i64×W .i64×Bool):=
 .opt (so c line) fun r1=>
 .opt (tF r1 line) fun r2=>
 .ite (W.lt r2 (W.of .i64 0)) (.ret ((W.of .i64 0),(W.of .i64 0),false))
 (.opt (iH c line) fun r3=>
 .ret (r3,r2,true))
def jU (c:TCache) (line:W .u32):Option (W .i64×W .i64×Bool):=(DA c line).eval
def qv (set_1:W .i64) (c:TCache) (l_5:Sl 40 (TWay)) (seen:Sl 1 (Bool)) (t_28:Sl 40 (TWay)) (t_29 t_30:W .i64):Tree (Rnd vI aV):=
 .ite (W.lt t_30 t_29) (.opt (Sl.get? t_28 t_30) fun y3=>
 .ite (W.lt y3.Age (W.of .i64 0)) (.ret (.out (.inl (false,()))))
 (.ite (W.ge y3.Age (Sl.len l_5)) (.ret (.out (.inl (false,()))))
 (.opt (aI (List.length seen.l) y3.Age) fun j4=>
 .ite (List.getD seen.l j4 false) (.ret (.out (.inl (false,()))))
 (.ite (W.lt y3.State (W.of .i64 0)) (.ret (.out (.inl (false,()))))
 (.ite (W.gt y3.State (W.of .i64 3)) (.ret (.out (.inl (false,()))))
 (.opt (aI (List.length seen.l) y3.Age) fun j5=>
 .ite (W.eq y3.State (W.of .i64 0)) (.ite (!(Tab.eq ab (.named .TWay) y3 (TWay.mk (W.of .i64 0) (W.of .u32 0) (Arr.rep 16 (W.of .u8 0):Arr 16 (W .u8)) y3.Age))) (.ret (.out (.inl (false,()))))
 (.ite (W.eq y3.State (W.of .i64 0)) (.ret (.next (set_1,c,l_5,(Sl.set seen j5 true),t_28,t_29,(W.add t_30 (W.of .i64 1)),())))
 (.opt (jU c y3.Tag) fun r6=>
 .opt (iH c y3.Tag) fun r7=>
 .ite (W.ne r7 set_1) (.ret (.out (.inl (false,()))))
 (.ite (W.ne r6.2.1 t_30) (.ret (.out (.inl (false,()))))
 (.ret (.next (set_1,c,l_5,(Sl.set seen j5 true),t_28,t_29,(W.add t_30 (W.of .i64 1)),())))))))
 (.ite (W.eq y3.State (W.of .i64 0)) (.ret (.next (set_1,c,l_5,(Sl.set seen j5 true),t_28,t_29,(W.add t_30 (W.of .i64 1)),())))
 (.opt (jU c y3.Tag) fun r8=>
 .opt (iH c y3.Tag) fun r9=>
 .ite (W.ne r9 set_1) (.ret (.out (.inl (false,()))))
 (.ite (W.ne r8.2.1 t_30) (.ret (.out (.inl (false,()))))
 (.ret (.next (set_1,c,l_5,(Sl.set seen j5 true),t_28,t_29,(W.add t_30 (W.of .i64 1)),()))))))))))))
 (.ret (.out (.inr ((),()))))
def tI (a:vI):Option aV:=az (fun a:vI=>(qv a.1 a.2.1 a.2.2.1 a.2.2.2.1 a.2.2.2.2.1 a.2.2.2.2.2.1 a.2.2.2.2.2.2.1).eval) aa a
def DD (c:TCache) (set_1:W .i64):Tree (Bool):=
 .opt (Sl.get? c.Sets set_1) fun y1=>
 .ite (W.lt (Sl.len y1) (W.of .i64 1)) (.ret false)
 (.ite (W.gt (Sl.len y1) (W.of .i64 4)) (.ret false)
 (.opt (Sl.make? 1 false (Sl.len y1) (Sl.len y1)) fun l2=>
 .opt (tI ((set_1,c,y1,l2,y1,(Sl.len y1),(W.of .i64 0),()))) fun o10=>
 .sum o10 (fun p11=>
 .ret p11.1)
 (fun o12=>
 .ret true)))
def jW (c:TCache) (set_1:W .i64):Option (Bool):=(DD c set_1).eval
def qu (c:TCache) (t_16 t_17:W .i64):Tree (Rnd xw aV):=
 .ite (W.lt t_17 t_16) (.opt (Sl.get? c.Sets t_17) fun y1=>
 .opt (Sl.get? c.Sets (W.of .i64 0)) fun y2=>
 .ite (W.ne (Sl.len y1) (Sl.len y2)) (.ret (.out (.inl (false,()))))
 (.opt (jW c t_17) fun r3=>
 .ite (!r3) (.ret (.out (.inl (false,()))))
 (.ret (.next (c,t_16,(W.add t_17 (W.of .i64 1)),())))))
 (.ret (.out (.inr ((),()))))
def tH (a:xw):Option aV:=az (fun a:xw=>(qu a.1 a.2.1 a.2.2.1).eval) aa a
def DC (c:TCache):Tree (Bool):=
 .ite (W.lt (Sl.len c.Sets) (W.of .i64 1)) (.ret false)
 (.ite (W.gt (Sl.len c.Sets) (W.of .i64 8)) (.ret false)
 (.opt (tH ((c,(Sl.len c.Sets),(W.of .i64 0),()))) fun o4=>
 .sum o4 (fun p5=>
 .ret p5.1)
 (fun o6=>
 .ret true)))
def jV (c:TCache):Option (Bool):=(DC c).eval
def DN (m:Sl 1 (W .u8)) (line:W .u32):Tree (Bool):=
 .ret (W.le (W.add (W.mul (W.conv (.u64) line) (W.of .u64 16)) (W.of .u64 16)) (W.conv (.u64) (Sl.len m)))
def lS (m:Sl 1 (W .u8)) (line:W .u32):Option (Bool):=(DN m line).eval
def qD (line:W .u32) (out:Sl 8 (W .i64)) (t_13:Sl 24 (TCache)) (t_14 t_15:W .i64):Tree (Rnd wg ch):=
 .ite (W.lt t_15 t_14) (.opt (Sl.get? t_13 t_15) fun y1=>
 .opt (jU y1 line) fun r2=>
 .ite r2.2.2 (.opt (Sl.get? y1.Sets r2.1) fun y3=>
 .opt (Sl.get? y3 r2.2.1) fun y4=>
 .opt (Sl.app? out (Sl.lit 8 [y4.State] rfl:Sl 8 (W .i64))) fun l5=>
 .ret (.next (line,l5,t_13,t_14,(W.add t_15 (W.of .i64 1)),())))
 (.opt (Sl.app? out (Sl.lit 8 [(W.of .i64 0)] rfl:Sl 8 (W .i64))) fun l6=>
 .ret (.next (line,l6,t_13,t_14,(W.add t_15 (W.of .i64 1)),()))))
 (.ret (.out (out,())))
def tQ (a:wg):Option ch:=az (fun a:wg=>(qD a.1 a.2.1 a.2.2.1 a.2.2.2.1 a.2.2.2.2.1).eval) aa a
def DP (m:TCoh) (line:W .u32):Tree (Sl 8 (W .i64)):=
 .opt (tQ ((line,(Sl.nil:Sl 8 (W .i64)),m.Caches,(Sl.len m.Caches),(W.of .i64 0),()))) fun o7=>
 .ret o7.1
def sx (m:TCoh) (line:W .u32):Option (Sl 8 (W .i64)):=(DP m line).eval
def Em (state:W .i64):Tree (Bool):=
 .ite (W.ge state (W.of .i64 0)) (.ret (W.le state (W.of .i64 3)))
 (.ret false)
def Az (state:W .i64):Option (Bool):=(Em state).eval
def El (s:W .i64):Tree (Bool):=
 .opt (Az s) fun r1=>
 .ret (!r1)
def sO (s:W .i64):Option (Bool):=(El s).eval
def sf (s:Sl 8 (W .i64)) (t_7 t_8:W .i64):Tree (Rnd wX cT):=
 .ite (W.lt t_8 t_7) (.opt (Sl.get? s t_8) fun y1=>
 .opt (sO y1) fun r2=>
 .ite r2 (.ret (.out (.inl (t_8,()))))
 (.ret (.next (s,((),()),t_7,(W.add t_8 (W.of .i64 1)),()))))
 (.ret (.out (.inr ((),()))))
def uV (a:wX):Option cT:=az (fun a:wX=>(sf a.1 a.2.2.1 a.2.2.2.1).eval) aa a
def FN (s:Sl 8 (W .i64)):Tree (W .i64):=
 .opt (uV ((s,((),()),(Sl.len s),(W.of .i64 0),()))) fun o3=>
 .sum o3 (fun p4=>
 .ret p4.1)
 (fun o5=>
 .ret (W.of .i64 (-1)))
def AU (s:Sl 8 (W .i64)):Option (W .i64):=(FN s).eval
def FC (s:Sl 8 (W .i64)):Tree (Bool):=
 .opt (AU s) fun r1=>
 .ret (W.ge r1 (W.of .i64 0))
def tB (s:Sl 8 (W .i64)):Option (Bool):=(FC s).eval
def qP (states:Sl 8 (W .i64)) (have_3:W .i64) (alone:Bool) (t_7:Sl 8 (W .i64)) (t_8 t_9:W .i64):Tree (Rnd wh Nz):=
 .ite (W.lt t_9 t_8) (.opt (Sl.get? t_7 t_9) fun y1=>
 .ite (W.ne y1 (W.of .i64 0)) (.ite alone (.ret (.next (states,(W.add have_3 (W.of .i64 1)),true,t_7,t_8,(W.add t_9 (W.of .i64 1)),())))
 (.ite (W.eq y1 (W.of .i64 2)) (.ret (.next (states,(W.add have_3 (W.of .i64 1)),true,t_7,t_8,(W.add t_9 (W.of .i64 1)),())))
 (.ret (.next (states,(W.add have_3 (W.of .i64 1)),(W.eq y1 (W.of .i64 3)),t_7,t_8,(W.add t_9 (W.of .i64 1)),())))))
 (.ite alone (.ret (.next (states,have_3,true,t_7,t_8,(W.add t_9 (W.of .i64 1)),())))
 (.ite (W.eq y1 (W.of .i64 2)) (.ret (.next (states,have_3,true,t_7,t_8,(W.add t_9 (W.of .i64 1)),())))
 (.ret (.next (states,have_3,(W.eq y1 (W.of .i64 3)),t_7,t_8,(W.add t_9 (W.of .i64 1)),()))))))
 (.ret (.out (states,have_3,alone,())))
def mN (a:wh):Option Nz:=az (fun a:wh=>(qP a.1 a.2.1 a.2.2.1 a.2.2.2.1 a.2.2.2.2.1 a.2.2.2.2.2.1).eval) aa a
def Ek (states:Sl 8 (W .i64)):Tree (Bool):=
 .opt (mN ((states,(W.of .i64 0),false,states,(Sl.len states),(W.of .i64 0),()))) fun o2=>
 .opt (tB o2.1) fun r3=>
 .ite (!r3) (.ite (!o2.2.2.1) (.ret true)
 (.ret (W.eq o2.2.1 (W.of .i64 1))))
 (.ret false)
def sN (states:Sl 8 (W .i64)):Option (Bool):=(Ek states).eval
def r0 (s1 s2:Sl 1 (W .u8)) (t_12 t_13:W .i64):Tree (Rnd vJ aV):=
 .ite (W.lt t_13 t_12) (.opt (Sl.get? s1 t_13) fun y1=>
 .opt (Sl.get? s2 t_13) fun y2=>
 .ite (W.ne y1 y2) (.ret (.out (.inl (false,()))))
 (.ret (.next (s1,s2,t_12,(W.add t_13 (W.of .i64 1)),()))))
 (.ret (.out (.inr ((),()))))
def uS (a:vJ):Option aV:=az (fun a:vJ=>(r0 a.1 a.2.1 a.2.2.1 a.2.2.2.1).eval) aa a
def FG (s1 s2:Sl 1 (W .u8)):Tree (Bool):=
 .ite (W.ne (Sl.len s1) (Sl.len s2)) (.ret false)
 (.opt (uS ((s1,s2,(Sl.len s1),(W.of .i64 0),()))) fun o3=>
 .sum o3 (fun p4=>
 .ret p4.1)
 (fun o5=>
 .ret true))
def mI (s1 s2:Sl 1 (W .u8)):Option (Bool):=(FG s1 s2).eval
def DM (m:TCoh) (w:TWay):Tree (Bool):=
 .ite (W.eq w.State (W.of .i64 0)) (.ret true)
 (.opt (lS m.Mem w.Tag) fun r1=>
 .ite (!r1) (.ret false)
 (.opt (sx m w.Tag) fun r2=>
 .opt (sN r2) fun r3=>
 .ite (!r3) (.ret false)
 (.ite (W.eq w.State (W.of .i64 3)) (.ret true)
 (.opt (ek (W.mul (W.conv (.i64) w.Tag) (W.of .i64 16))) fun n4=>
 .opt (ek (W.add (W.mul (W.conv (.i64) w.Tag) (W.of .i64 16)) (W.of .i64 16))) fun n5=>
 .opt (Sl.sub? m.Mem n4 n5) fun l6=>
 .opt (mI (Sl.cut (Arr.sl 1 w.Data rfl) 0 16) l6) fun r7=>
 .ret r7))))
def sw (m:TCoh) (w:TWay):Option (Bool):=(DM m w).eval
def DH (w:TWay) (a:TCoh):Tree (Bool):=
 .opt (sw a w) fun r1=>
 .ret r1
def sr (w:TWay) (a:TCoh):Option (Bool):=(DH w a).eval
def qy (seec0:TCoh) (t_12:Sl 24 (TCache)) (t_13 t_14:W .i64) (t_19:Sl 24 (Sl 40 (TWay))) (t_20 t_21:W .i64) (t_25:Sl 40 (TWay)) (t_26 t_27:W .i64):Tree (Rnd vK NA):=
 .ite (W.lt t_27 t_26) (.opt (Sl.get? t_25 t_27) fun y3=>
 .opt (sr y3 seec0) fun r4=>
 .ite (!r4) (.ret (.out (.inl (((),(seec0,())),false,t_12,t_13,t_14,t_19,t_20,t_21,()))))
 (.ret (.next (((),(seec0,())),t_12,t_13,t_14,t_19,t_20,t_21,t_25,t_26,(W.add t_27 (W.of .i64 1)),()))))
 (.ret (.out (.inr (((),(seec0,())),(),t_12,t_13,t_14,t_19,t_20,t_21,()))))
def tL (a:vK):Option NA:=az (fun a:vK=>(qy a.1.2.1 a.2.1 a.2.2.1 a.2.2.2.1 a.2.2.2.2.1 a.2.2.2.2.2.1 a.2.2.2.2.2.2.1 a.2.2.2.2.2.2.2.1 a.2.2.2.2.2.2.2.2.1 a.2.2.2.2.2.2.2.2.2.1).eval) aa a
def qx (seec0:TCoh) (t_12:Sl 24 (TCache)) (t_13 t_14:W .i64) (t_19:Sl 24 (Sl 40 (TWay))) (t_20 t_21:W .i64):Tree (Rnd vM NB):=
 .ite (W.lt t_21 t_20) (.opt (Sl.get? t_19 t_21) fun y2=>
 .opt (tL ((((),(seec0,())),t_12,t_13,t_14,t_19,t_20,t_21,y2,(Sl.len y2),(W.of .i64 0),()))) fun o5=>
 .sum o5 (fun p6=>
 .ret (.out (.inl (((),(p6.1.2.1,())),p6.2.1,p6.2.2.1,p6.2.2.2.1,p6.2.2.2.2.1,()))))
 (fun o7=>
 .ret (.next (((),(o7.1.2.1,())),o7.2.2.1,o7.2.2.2.1,o7.2.2.2.2.1,o7.2.2.2.2.2.1,o7.2.2.2.2.2.2.1,(W.add o7.2.2.2.2.2.2.2.1 (W.of .i64 1)),()))))
 (.ret (.out (.inr (((),(seec0,())),(),t_12,t_13,t_14,()))))
def tK (a:vM):Option NB:=az (fun a:vM=>(qx a.1.2.1 a.2.1 a.2.2.1 a.2.2.2.1 a.2.2.2.2.1 a.2.2.2.2.2.1 a.2.2.2.2.2.2.1).eval) aa a
def qz (seec0:TCoh) (t_12:Sl 24 (TCache)) (t_13 t_14:W .i64):Tree (Rnd vN aV):=
 .ite (W.lt t_14 t_13) (.opt (Sl.get? t_12 t_14) fun y1=>
 .opt (tK ((((),(seec0,())),t_12,t_13,t_14,y1.Sets,(Sl.len y1.Sets),(W.of .i64 0),()))) fun o8=>
 .sum o8 (fun p9=>
 .ret (.out (.inl (p9.2.1,()))))
 (fun o10=>
 .ret (.next (((),(o10.1.2.1,())),o10.2.2.1,o10.2.2.2.1,(W.add o10.2.2.2.2.1 (W.of .i64 1)),()))))
 (.ret (.out (.inr ((),()))))
def tM (a:vN):Option aV:=az (fun a:vN=>(qz a.1.2.1 a.2.1 a.2.2.1 a.2.2.2.1).eval) aa a
def DK (m seec0:TCoh):Tree (Bool):=
 .opt (tM ((((),(seec0,())),m.Caches,(Sl.len m.Caches),(W.of .i64 0),()))) fun o11=>
 .sum o11 (fun p12=>
 .ret p12.1)
 (fun o13=>
 .ret true)
def sv (m seec0:TCoh):Option (Bool):=(DK m seec0).eval
def qw (m:TCoh) (t_22:Sl 24 (TCache)) (t_23 t_24:W .i64):Tree (Rnd vO NC):=
 .ite (W.lt t_24 t_23) (.opt (Sl.get? t_22 t_24) fun y2=>
 .opt (jV y2) fun r3=>
 .ite (!r3) (.ret (.out (.inl (m,false,()))))
 (.ret (.next (m,t_22,t_23,(W.add t_24 (W.of .i64 1)),()))))
 (.ret (.out (.inr (m,(),()))))
def tJ (a:vO):Option NC:=az (fun a:vO=>(qw a.1 a.2.1 a.2.2.1 a.2.2.2.1).eval) aa a
def DG (m:TCoh):Tree (Bool):=
 .opt (sM m.Mem) fun r1=>
 .ite (!r1) (.ret false)
 (.ite (W.lt (Sl.len m.Caches) (W.of .i64 1)) (.ret false)
 (.ite (W.gt (Sl.len m.Caches) (W.of .i64 2)) (.ret false)
 (.opt (tJ ((m,m.Caches,(Sl.len m.Caches),(W.of .i64 0),()))) fun o4=>
 .sum o4 (fun p5=>
 .ret p5.2.1)
 (fun o6=>
 .opt (sv o6.1 o6.1) fun r7=>
 .ret r7))))
def sq (m:TCoh):Option (Bool):=(DG m).eval
def MH (bits:W .i64):Tree (W .i64):=
 .ret (W.min (W.max bits (W.of .i64 0)) (W.of .i64 8))
def Jn (bits:W .i64):Option (W .i64):=(MH bits).eval
def Mv (x y:W .u64):Tree (W .u64×W .u64):=
 .ret ((W.add (W.add (W.mul (W.shr x (W.of .u64 32)) (W.shr y (W.of .u64 32))) (W.shr (W.add (W.mul (W.shr x (W.of .u64 32)) (W.and y (W.of .u64 4294967295))) (W.shr (W.mul (W.and x (W.of .u64 4294967295)) (W.and y (W.of .u64 4294967295))) (W.of .u64 32))) (W.of .u64 32))) (W.shr (W.add (W.and (W.add (W.mul (W.shr x (W.of .u64 32)) (W.and y (W.of .u64 4294967295))) (W.shr (W.mul (W.and x (W.of .u64 4294967295)) (W.and y (W.of .u64 4294967295))) (W.of .u64 32))) (W.of .u64 4294967295)) (W.mul (W.and x (W.of .u64 4294967295)) (W.shr y (W.of .u64 32)))) (W.of .u64 32))),(W.mul x y))
def Jj (x y:W .u64):Option (W .u64×W .u64):=(Mv x y).eval
def Mu (x y:W .u64):Tree (W .u64×W .u64):=
 .opt (Jj x y) fun r1=>
 .ret (r1.1,r1.2)
def Ji (x y:W .u64):Option (W .u64×W .u64):=(Mu x y).eval
def Jg (newslice:Sl 1 (W .u8)) (n_8:W .i64):Tree (Rnd kH cU):=
 .ite (W.lt n_8 (Sl.len newslice)) (.opt (ek n_8) fun n3=>
 .opt (vw? (List.length newslice.l) (some n3) (none)) fun j4=>
 .opt (ek n_8) fun n5=>
 .opt (vw? (List.length newslice.l) (none) (some n5)) fun j6=>
 .ret (.next ((Sl.copy newslice n3 (Sl.cut newslice 0 n5)),(W.add n_8 (Sl.copyLen newslice n3 (Sl.cut newslice 0 n5))),())))
 (.ret (.out (newslice,())))
def Mf (a:kH):Option cU:=az (fun a:kH=>(Jg a.1 a.2.1).eval) aa a
def Na (x:Sl 1 (W .u8)) (count:W .i64):Tree (Sl 1 (W .u8)):=
 .ite (W.lt count (W.of .i64 0)) (.fail)
 (.opt (Ji (W.conv (.u64) (Sl.len x)) (W.conv (.u64) count)) fun r1=>
 .ite (W.gt r1.1 (W.of .u64 0)) (.fail)
 (.ite (W.gt r1.2 (W.of .u64 9223372036854775807)) (.fail)
 (.opt (Sl.make? 1 (W.of .u8 0) (W.conv (.i64) r1.2) (W.conv (.i64) r1.2)) fun l2=>
 .opt (Mf (((Sl.copy l2 0 x),(Sl.copyLen l2 0 x),()))) fun o7=>
 .ret o7.1)))
def JE (x:Sl 1 (W .u8)) (count:W .i64):Option (Sl 1 (W .u8)):=(Na x count).eval
def MG (bits:W .i64):Tree (Sl 1 (W .u8)):=
 .opt (Jn bits) fun r1=>
 .opt (W.shl? (W.of .i64 1) r1) fun z2=>
 .opt (JE (Sl.lit 1 [(W.of .u8 1)] rfl:Sl 1 (W .u8)) z2) fun r3=>
 .ret r3
def AA (bits:W .i64):Option (Sl 1 (W .u8)):=(MG bits).eval
def Mw (aB:W .i64):Tree (Sl 16 (TBtb)):=
 .opt (Sl.make? 16 (TBtb.mk (W.of .u32 0) (W.of .u32 0) (W.of .i64 0)) (W.min (W.max aB (W.of .i64 0)) (W.of .i64 16)) (W.min (W.max aB (W.of .i64 0)) (W.of .i64 16))) fun l1=>
 .ret l1
def Au (aB:W .i64):Option (Sl 16 (TBtb)):=(Mw aB).eval
def MI (aB:W .i64):Tree (Sl 4 (W .u32)):=
 .opt (Sl.make? 4 (W.of .u32 0) (W.min (W.max aB (W.of .i64 0)) (W.of .i64 16)) (W.min (W.max aB (W.of .i64 0)) (W.of .i64 16))) fun l1=>
 .ret l1
def AB (aB:W .i64):Option (Sl 4 (W .u32)):=(MI aB).eval
def Eo (c:TConf):Tree (TPred):=
 .opt (AA c.Hist) fun r1=>
 .opt (Au c.Btb) fun r2=>
 .opt (AB c.Ras) fun r3=>
 .ret (TPred.mk (W.of .u32 0) r1 r2 (W.of .i64 0) r3 (W.of .i64 0))
def sQ (c:TConf):Option (TPred):=(Eo c).eval
def si (x:Sl 1 (W .u8)) (m:W .u8) (i:W .i64):Tree (Rnd wj (W .u8×Unit)):=
 .ite (W.lt i (Sl.len x)) (.opt (Sl.get? x i) fun y2=>
 .ret (.next (x,(W.max m y2),(W.add i (W.of .i64 1)),())))
 (.ret (.out (m,())))
def nz (a:wj):Option (W .u8×Unit):=az (fun a:wj=>(si a.1 a.2.1 a.2.2.1).eval) aa a
def FP (x:Sl 1 (W .u8)):Tree (W .u8):=
 .ite (W.lt (Sl.len x) (W.of .i64 1)) (.fail)
 (.opt (Sl.get? x (W.of .i64 0)) fun y1=>
 .opt (nz ((x,y1,(W.of .i64 1),()))) fun o3=>
 .ret o3.1)
def tG (x:Sl 1 (W .u8)):Option (W .u8):=(FP x).eval
def En (t:Sl 1 (W .u8)):Tree (Bool):=
 .ite (W.gt (Sl.len t) (W.of .i64 0)) (.ite (W.eq (W.and (Sl.len t) (W.sub (Sl.len t) (W.of .i64 1))) (W.of .i64 0)) (.ite (W.le (Sl.len t) (W.of .i64 256)) (.opt (tG t) fun r1=>
 .ret (W.le r1 (W.of .u8 3)))
 (.ret false))
 (.ret false))
 (.ret false)
def sP (t:Sl 1 (W .u8)):Option (Bool):=(En t).eval
def MD (bits:W .i64):Tree (W .i64):=
 .ret (W.min (W.max bits (W.of .i64 0)) (W.of .i64 8))
def Jm (bits:W .i64):Option (W .i64):=(MD bits).eval
def MC (bits:W .i64):Tree (W .u32):=
 .opt (Jm bits) fun r1=>
 .opt (W.shl? (W.of .u32 1) r1) fun z2=>
 .ret (W.sub z2 (W.of .u32 1))
def me (bits:W .i64):Option (W .u32):=(MC bits).eval
def Er (aB many:W .i64):Tree (Bool):=
 .ite (W.ge aB (W.of .i64 0)) (.ret (W.lt aB (W.max many (W.of .i64 1))))
 (.ret false)
def mg (aB many:W .i64):Option (Bool):=(Er aB many).eval
def Ep (c:TConf) (p:TPred):Tree (Bool):=
 .opt (sQ c) fun r1=>
 .ite (W.eq (Sl.len p.Table) (Sl.len r1.Table)) (.ite (W.eq (Sl.len p.Btb) (Sl.len r1.Btb)) (.ite (W.eq (Sl.len p.Ras) (Sl.len r1.Ras)) (.opt (sP p.Table) fun r2=>
 .ite r2 (.opt (me c.Hist) fun r3=>
 .ite (W.eq (W.andNot p.Hist r3) (W.of .u32 0)) (.opt (mg p.Next (Sl.len p.Btb)) fun r4=>
 .ite r4 (.opt (mg p.Top (Sl.len p.Ras)) fun r5=>
 .ret r5)
 (.ret false))
 (.ret false))
 (.ret false))
 (.ret false))
 (.ret false))
 (.ret false)
def jY (c:TConf) (p:TPred):Option (Bool):=(Ep c p).eval
def qO (last:W .u64) (t_6:Sl 48 (TLq)) (t_7 t_8:W .i64):Tree (Rnd wk aV):=
 .ite (W.lt t_8 t_7) (.opt (Sl.get? t_6 t_8) fun y1=>
 .ite (W.le y1.Seq last) (.ret (.out (.inl (false,()))))
 (.ite y1.Known (.ite (W.ne y1.Size (W.of .i64 1)) (.ite (W.ne y1.Size (W.of .i64 2)) (.ite (W.ne y1.Size (W.of .i64 4)) (.ret (.out (.inl (false,()))))
 (.ret (.next (y1.Seq,t_6,t_7,(W.add t_8 (W.of .i64 1)),()))))
 (.ret (.next (y1.Seq,t_6,t_7,(W.add t_8 (W.of .i64 1)),()))))
 (.ret (.next (y1.Seq,t_6,t_7,(W.add t_8 (W.of .i64 1)),()))))
 (.ret (.next (y1.Seq,t_6,t_7,(W.add t_8 (W.of .i64 1)),())))))
 (.ret (.out (.inr ((),()))))
def tY (a:wk):Option aV:=az (fun a:wk=>(qO a.1 a.2.1 a.2.2.1 a.2.2.2.1).eval) aa a
def Eh (l_0:Sl 48 (TLq)):Tree (Bool):=
 .opt (tY (((W.of .u64 0),l_0,(Sl.len l_0),(W.of .i64 0),()))) fun o2=>
 .sum o2 (fun p3=>
 .ret p3.1)
 (fun o4=>
 .ret true)
def jX (l_0:Sl 48 (TLq)):Option (Bool):=(Eh l_0).eval
def sj (last:W .u64) (t_6:Sl 32 (TSq)) (t_7 t_8:W .i64):Tree (Rnd xz aV):=
 .ite (W.lt t_8 t_7) (.opt (Sl.get? t_6 t_8) fun y1=>
 .ite (W.le y1.Seq last) (.ret (.out (.inl (false,()))))
 (.ite y1.Known (.ite (W.ne y1.Size (W.of .i64 1)) (.ite (W.ne y1.Size (W.of .i64 2)) (.ite (W.ne y1.Size (W.of .i64 4)) (.ret (.out (.inl (false,()))))
 (.ret (.next (y1.Seq,t_6,t_7,(W.add t_8 (W.of .i64 1)),()))))
 (.ret (.next (y1.Seq,t_6,t_7,(W.add t_8 (W.of .i64 1)),()))))
 (.ret (.next (y1.Seq,t_6,t_7,(W.add t_8 (W.of .i64 1)),()))))
 (.ret (.next (y1.Seq,t_6,t_7,(W.add t_8 (W.of .i64 1)),())))))
 (.ret (.out (.inr ((),()))))
def uX (a:xz):Option aV:=az (fun a:xz=>(sj a.1 a.2.1 a.2.2.1 a.2.2.2.1).eval) aa a
def FQ (l_0:Sl 32 (TSq)):Tree (Bool):=
 .opt (uX (((W.of .u64 0),l_0,(Sl.len l_0),(W.of .i64 0),()))) fun o2=>
 .sum o2 (fun p3=>
 .ret p3.1)
 (fun o4=>
 .ret true)
def kl (l_0:Sl 32 (TSq)):Option (Bool):=(FQ l_0).eval
def JD (s:Sl 1 (W .u8)):Option (Sl 1 (W .u8)):=some s
def DJ (w:TWay) (a:Sl 1 (W .u8)):Tree (Bool×Sl 1 (W .u8)):=
 .ite (W.eq w.State (W.of .i64 3)) (.opt (lS a w.Tag) fun r1=>
 .ite r1 (.opt (ek (W.mul (W.conv (.i64) w.Tag) (W.of .i64 16))) fun n2=>
 .opt (vw? (List.length a.l) (some n2) (none)) fun j3=>
 .ret (true,(Sl.copy a n2 (Sl.cut (Arr.sl 1 w.Data rfl) 0 16))))
 (.ret (true,a)))
 (.ret (true,a))
def su (w:TWay) (a:Sl 1 (W .u8)):Option (Bool×Sl 1 (W .u8)):=(DJ w a).eval
def qB (see:Sl 1 (W .u8)) (t_12:Sl 24 (TCache)) (t_13 t_14:W .i64) (t_19:Sl 24 (Sl 40 (TWay))) (t_20 t_21:W .i64) (t_25:Sl 40 (TWay)) (t_26 t_27:W .i64):Tree (Rnd w9 ND):=
 .ite (W.lt t_27 t_26) (.opt (Sl.get? t_25 t_27) fun y3=>
 .opt (su y3 see) fun r4=>
 .ite (!r4.1) (.ret (.out (.inl (r4.2,false,t_12,t_13,t_14,t_19,t_20,t_21,()))))
 (.ret (.next (r4.2,t_12,t_13,t_14,t_19,t_20,t_21,t_25,t_26,(W.add t_27 (W.of .i64 1)),()))))
 (.ret (.out (.inr (see,(),t_12,t_13,t_14,t_19,t_20,t_21,()))))
def tO (a:w9):Option ND:=az (fun a:w9=>(qB a.1 a.2.1 a.2.2.1 a.2.2.2.1 a.2.2.2.2.1 a.2.2.2.2.2.1 a.2.2.2.2.2.2.1 a.2.2.2.2.2.2.2.1 a.2.2.2.2.2.2.2.2.1 a.2.2.2.2.2.2.2.2.2.1).eval) aa a
def qA (see:Sl 1 (W .u8)) (t_12:Sl 24 (TCache)) (t_13 t_14:W .i64) (t_19:Sl 24 (Sl 40 (TWay))) (t_20 t_21:W .i64):Tree (Rnd xd NF):=
 .ite (W.lt t_21 t_20) (.opt (Sl.get? t_19 t_21) fun y2=>
 .opt (tO ((see,t_12,t_13,t_14,t_19,t_20,t_21,y2,(Sl.len y2),(W.of .i64 0),()))) fun o5=>
 .sum o5 (fun p6=>
 .ret (.out (.inl (p6.1,p6.2.1,p6.2.2.1,p6.2.2.2.1,p6.2.2.2.2.1,()))))
 (fun o7=>
 .ret (.next (o7.1,o7.2.2.1,o7.2.2.2.1,o7.2.2.2.2.1,o7.2.2.2.2.2.1,o7.2.2.2.2.2.2.1,(W.add o7.2.2.2.2.2.2.2.1 (W.of .i64 1)),()))))
 (.ret (.out (.inr (see,(),t_12,t_13,t_14,()))))
def tN (a:xd):Option NF:=az (fun a:xd=>(qA a.1 a.2.1 a.2.2.1 a.2.2.2.1 a.2.2.2.2.1 a.2.2.2.2.2.1 a.2.2.2.2.2.2.1).eval) aa a
def qC (see:Sl 1 (W .u8)) (t_12:Sl 24 (TCache)) (t_13 t_14:W .i64):Tree (Rnd xe NG):=
 .ite (W.lt t_14 t_13) (.opt (Sl.get? t_12 t_14) fun y1=>
 .opt (tN ((see,t_12,t_13,t_14,y1.Sets,(Sl.len y1.Sets),(W.of .i64 0),()))) fun o8=>
 .sum o8 (fun p9=>
 .ret (.out (.inl (p9.1,p9.2.1,()))))
 (fun o10=>
 .ret (.next (o10.1,o10.2.2.1,o10.2.2.2.1,(W.add o10.2.2.2.2.1 (W.of .i64 1)),()))))
 (.ret (.out (.inr (see,(),()))))
def tP (a:xe):Option NG:=az (fun a:xe=>(qC a.1 a.2.1 a.2.2.1 a.2.2.2.1).eval) aa a
def DL (m:TCoh) (see:Sl 1 (W .u8)):Tree (Bool×Sl 1 (W .u8)):=
 .opt (tP ((see,m.Caches,(Sl.len m.Caches),(W.of .i64 0),()))) fun o11=>
 .sum o11 (fun p12=>
 .ret (p12.2.1,p12.1))
 (fun o13=>
 .ret (true,o13.1))
def Av (m:TCoh) (see:Sl 1 (W .u8)):Option (Bool×Sl 1 (W .u8)):=(DL m see).eval
def DI (m:TCoh):Tree (Sl 1 (W .u8)):=
 .opt (JD m.Mem) fun r1=>
 .opt (Av m r1) fun r2=>
 .ret r2.2
def ss (m:TCoh):Option (Sl 1 (W .u8)):=(DI m).eval
def Dz (addr:W .u32) (size:W .i64):Tree (Bool):=
 .ite (W.eq size (W.of .i64 1)) (.ret (W.eq (W.and addr (W.conv (.u32) (W.sub size (W.of .i64 1)))) (W.of .u32 0)))
 (.ite (W.eq size (W.of .i64 2)) (.ret (W.eq (W.and addr (W.conv (.u32) (W.sub size (W.of .i64 1)))) (W.of .u32 0)))
 (.ite (W.eq size (W.of .i64 4)) (.ret (W.eq (W.and addr (W.conv (.u32) (W.sub size (W.of .i64 1)))) (W.of .u32 0)))
 (.ret false)))
def lR (addr:W .u32) (size:W .i64):Option (Bool):=(Dz addr size).eval
def Ei (m:Sl 1 (W .u8)) (addr:W .u32) (size:W .i64):Tree (W .i64):=
 .ite (W.ne size (W.of .i64 1)) (.ite (W.ne size (W.of .i64 2)) (.ite (W.ne size (W.of .i64 4)) (.ret (W.of .i64 9))
 (.ite (W.gt (W.add (W.conv (.u64) addr) (W.conv (.u64) size)) (W.conv (.u64) (Sl.len m))) (.ret (W.of .i64 9))
 (.ret (W.of .i64 0))))
 (.ite (W.gt (W.add (W.conv (.u64) addr) (W.conv (.u64) size)) (W.conv (.u64) (Sl.len m))) (.ret (W.of .i64 9))
 (.ret (W.of .i64 0))))
 (.ite (W.gt (W.add (W.conv (.u64) addr) (W.conv (.u64) size)) (W.conv (.u64) (Sl.len m))) (.ret (W.of .i64 9))
 (.ret (W.of .i64 0)))
def sL (m:Sl 1 (W .u8)) (addr:W .u32) (size:W .i64):Option (W .i64):=(Ei m addr size).eval
def rX (m:Sl 1 (W .u8)) (t_10:Sl 16 (TSb)) (t_11 t_12:W .i64):Tree (Rnd wo aV):=
 .ite (W.lt t_12 t_11) (.opt (Sl.get? t_10 t_12) fun y1=>
 .opt (lR y1.Addr y1.Size) fun r2=>
 .ite (!r2) (.ret (.out (.inl (false,()))))
 (.opt (sL m y1.Addr y1.Size) fun r3=>
 .ite (W.ne r3 (W.of .i64 0)) (.ret (.out (.inl (false,()))))
 (.ret (.next (m,t_10,t_11,(W.add t_12 (W.of .i64 1)),())))))
 (.ret (.out (.inr ((),()))))
def uP (a:wo):Option aV:=az (fun a:wo=>(rX a.1 a.2.1 a.2.2.1 a.2.2.2.1).eval) aa a
def Fv (l_0:Sl 16 (TSb)) (m:Sl 1 (W .u8)):Tree (Bool):=
 .ite (W.gt (Sl.len l_0) (W.of .i64 8)) (.ret false)
 (.opt (uP ((m,l_0,(Sl.len l_0),(W.of .i64 0),()))) fun o4=>
 .sum o4 (fun p5=>
 .ret p5.1)
 (fun o6=>
 .ret true))
def tu (l_0:Sl 16 (TSb)) (m:Sl 1 (W .u8)):Option (Bool):=(Fv l_0 m).eval
def qt (l_5:Sl 8 (W .i64)) (t_50:Sl 1 (Bool)) (t_51 t_52:W .i64):Tree (Rnd gM ch):=
 .ite (W.lt t_52 t_51) (.opt (aI (List.length t_50.l) t_52) fun j7=>
 .ite (!(List.getD t_50.l j7 false)) (.opt (Sl.app? l_5 (Sl.lit 8 [(W.add (W.of .i64 10) t_52)] rfl:Sl 8 (W .i64))) fun l8=>
 .ret (.next (l8,t_50,t_51,(W.add t_52 (W.of .i64 1)),())))
 (.ret (.next (l_5,t_50,t_51,(W.add t_52 (W.of .i64 1)),()))))
 (.ret (.out (l_5,())))
def fp (a:gM):Option ch:=az (fun a:gM=>(qt a.1 a.2.1 a.2.2.1 a.2.2.2.1).eval) aa a
def Dy (c:TCore) (m:TCoh):Tree (Sl 8 (W .i64)):=
 .opt (sy c) fun r1=>
 .opt (tC r1 (W.of .i64 1)) fun r2=>
 .ite r2 (.ret (Sl.lit 8 [(W.of .i64 1)] rfl:Sl 8 (W .i64)))
 (.opt (sq m) fun r3=>
 .ite (!(W.eq (Sl.len c.Shadow) (Sl.len m.Mem))) (.opt (jY c.Conf c.Pred) fun r4=>
 .opt (jX c.Lq) fun r5=>
 .opt (kl c.Sq) fun r6=>
 .opt (fp ((r1,(Sl.lit 1 [(W.eq (Sl.len c.Shadow) (Sl.len m.Mem)),r3,true,r4,r5,r6] rfl:Sl 1 (Bool)),(W.of .i64 6),(W.of .i64 0),()))) fun o9=>
 .ret o9.1)
 (.ite (!r3) (.opt (jY c.Conf c.Pred) fun r10=>
 .opt (jX c.Lq) fun r11=>
 .opt (kl c.Sq) fun r12=>
 .opt (fp ((r1,(Sl.lit 1 [(W.eq (Sl.len c.Shadow) (Sl.len m.Mem)),r3,true,r10,r11,r12] rfl:Sl 1 (Bool)),(W.of .i64 6),(W.of .i64 0),()))) fun o13=>
 .ret o13.1)
 (.opt (ss m) fun r14=>
 .opt (tu c.Sb r14) fun r15=>
 .opt (jY c.Conf c.Pred) fun r16=>
 .opt (jX c.Lq) fun r17=>
 .opt (kl c.Sq) fun r18=>
 .opt (fp ((r1,(Sl.lit 1 [(W.eq (Sl.len c.Shadow) (Sl.len m.Mem)),r3,r15,r16,r17,r18] rfl:Sl 1 (Bool)),(W.of .i64 6),(W.of .i64 0),()))) fun o19=>
 .ret o19.1)))
def iG (c:TCore) (m:TCoh):Option (Sl 8 (W .i64)):=(Dy c m).eval
def IX (d:TDuo) (l_3:Sl 8 (W .i64)) (i:W .i64) (t_21:Sl 1040 (TCore)) (t_22 t_23:W .i64) (t_31:Sl 8 (W .i64)) (t_32 t_33:W .i64):Tree (Rnd xC kM):=
 .ite (W.lt t_33 t_32) (.opt (aI (List.length t_31.l) t_33) fun j3=>
 .opt (Sl.app? l_3 (Sl.lit 8 [(W.add (List.getD t_31.l j3 (W.of .i64 0)) (W.mul i (W.of .i64 100)))] rfl:Sl 8 (W .i64))) fun l4=>
 .ret (.next (d,l4,i,t_21,t_22,t_23,t_31,t_32,(W.add t_33 (W.of .i64 1)),())))
 (.ret (.out (d,l_3,t_21,t_22,t_23,())))
def L0 (a:xC):Option kM:=az (fun a:xC=>(IX a.1 a.2.1 a.2.2.1 a.2.2.2.1 a.2.2.2.2.1 a.2.2.2.2.2.1 a.2.2.2.2.2.2.1 a.2.2.2.2.2.2.2.1 a.2.2.2.2.2.2.2.2.1).eval) aa a
def IW (d:TDuo) (l_3:Sl 8 (W .i64)) (t_21:Sl 1040 (TCore)) (t_22 t_23:W .i64):Tree (Rnd kM ch):=
 .ite (W.lt t_23 t_22) (.opt (Sl.get? t_21 t_23) fun y1=>
 .opt (iG y1 d.Mem) fun r2=>
 .opt (L0 ((d,l_3,t_23,t_21,t_22,t_23,r2,(Sl.len r2),(W.of .i64 0),()))) fun o5=>
 .ret (.next (o5.1,o5.2.1,o5.2.2.1,o5.2.2.2.1,(W.add o5.2.2.2.2.1 (W.of .i64 1)),())))
 (.ret (.out (l_3,())))
def LZ (a:kM):Option ch:=az (fun a:kM=>(IW a.1 a.2.1 a.2.2.1 a.2.2.2.1 a.2.2.2.2.1).eval) aa a
def Mt (d:TDuo):Tree (Sl 8 (W .i64)):=
 .ite (W.ne (Sl.len d.Cores) (W.of .i64 2)) (.ret (Sl.lit 8 [(W.of .i64 90)] rfl:Sl 8 (W .i64)))
 (.ite (W.ne (Sl.len d.Mem.Caches) (W.of .i64 2)) (.ret (Sl.lit 8 [(W.of .i64 90)] rfl:Sl 8 (W .i64)))
 (.opt (LZ ((d,(Sl.nil:Sl 8 (W .i64)),d.Cores,(Sl.len d.Cores),(W.of .i64 0),()))) fun o6=>
 .ret o6.1))
def As (d:TDuo):Option (Sl 8 (W .i64)):=(Mt d).eval
def MF :Tree (Bool):=
 .opt (Sl.make? 1 (W.of .u8 0) (W.of .i64 64) (W.of .i64 64)) fun l1=>
 .opt (Sl.make? 1 (W.of .u8 0) (W.of .i64 64) (W.of .i64 64)) fun l2=>
 .opt (JB) fun r3=>
 .opt (JA r3 (TMach.mk (TArch.mk (W.of .u32 0) (Arr.rep 16 (W.of .u32 0):Arr 16 (W .u32)) (Arr.rep 12 (W.of .u32 0):Arr 12 (W .u32)) false) l1 l2 (Sl.nil:Sl 4 (W .u32)))) fun r4=>
 .opt (Jz l1 (W.of .i64 4) (W.of .i64 2) (W.of .i64 1)) fun r5=>
 .opt (iG ({ r4.1 with A:=({ r4.1.A with R:=(Arr.set r4.1.A.R 3 (W.of .u32 1)) }:TArch) }:TCore) r5) fun r6=>
 .opt (As (TDuo.mk (Sl.nil:Sl 1040 (TCore)) (TCoh.mk (Sl.nil:Sl 1 (W .u8)) (Sl.nil:Sl 24 (TCache))))) fun r7=>
 .opt (iG r4.1 r5) fun r8=>
 .ite (W.eq (Sl.len r8) (W.of .i64 0)) (.ite (W.eq (Sl.len r6) (W.of .i64 1)) (.opt (aI (List.length r6.l) (W.of .i64 0)) fun j9=>
 .ite (W.eq (List.getD r6.l j9 (W.of .i64 0)) (W.of .i64 7)) (.ite (W.eq (Sl.len r7) (W.of .i64 1)) (.opt (Sl.get? r7 (W.of .i64 0)) fun y10=>
 .ret (W.eq y10 (W.of .i64 90)))
 (.ret false))
 (.ret false))
 (.ret false))
 (.ret false)
def iI :Option (Bool):=(MF).eval
def Fh (c:TCore):Tree (Bool):=
 .opt (mE c.Conf) fun r1=>
 .ite (W.eq r1 (W.of .i64 0)) (.ite (W.le (Sl.len c.Queue) c.Conf.Queue) (.ite (W.le (Sl.len c.Rob) c.Conf.Rob) (.ite (W.le (Sl.len c.Iq) c.Conf.Iq) (.ite (W.le (Sl.len c.Lq) c.Conf.Lq) (.ite (W.le (Sl.len c.Sq) c.Conf.Sq) (.ite (W.le (Sl.len c.Sb) c.Conf.Sb) (.ite (W.eq (Sl.len c.Phys.Val) c.Conf.Phys) (.ite (W.eq (Sl.len c.Phys.Ready) c.Conf.Phys) (.ite (W.eq (Sl.len c.Tlb) c.Conf.Tlb) (.ret (W.eq (Sl.len c.Dep) c.Conf.Dep))
 (.ret false))
 (.ret false))
 (.ret false))
 (.ret false))
 (.ret false))
 (.ret false))
 (.ret false))
 (.ret false))
 (.ret false))
 (.ret false)
def tl (c:TCore):Option (Bool):=(Fh c).eval
def lL (l_0:Sl 248 (TRob)) (i:W .i64):Tree (Rnd xD NH):=
 .ite (W.lt i (Sl.len l_0)) (.opt (Sl.get? l_0 i) fun y1=>
 .ite (W.lt y1.Ren.Seq (W.of .u64 1)) (.ret (.out (.inl (l_0,false,()))))
 (.ite (W.gt i (W.of .i64 0)) (.opt (Sl.get? l_0 i) fun y2=>
 .opt (Sl.get? l_0 (W.sub i (W.of .i64 1))) fun y3=>
 .ite (W.le y2.Ren.Seq y3.Ren.Seq) (.ret (.out (.inl (l_0,false,()))))
 (.ite (W.gt i (W.of .i64 0)) (.opt (Sl.get? l_0 (W.sub i (W.of .i64 1))) fun y4=>
 .ite (!y4.Ren.Uop.Last) (.opt (Sl.get? l_0 (W.sub i (W.of .i64 1))) fun y5=>
 .opt (Sl.get? l_0 i) fun y6=>
 .ite (W.ne y6.Ren.Uop.Part (W.add y5.Ren.Uop.Part (W.of .i64 1))) (.ret (.out (.inl (l_0,false,()))))
 (.ret (.next (l_0,(W.add i (W.of .i64 1)),()))))
 (.opt (Sl.get? l_0 i) fun y7=>
 .ite (W.ne y7.Ren.Uop.Part (W.of .i64 0)) (.ret (.out (.inl (l_0,false,()))))
 (.ret (.next (l_0,(W.add i (W.of .i64 1)),())))))
 (.opt (Sl.get? l_0 i) fun y8=>
 .ite (W.ne y8.Ren.Uop.Part (W.of .i64 0)) (.ret (.out (.inl (l_0,false,()))))
 (.ret (.next (l_0,(W.add i (W.of .i64 1)),()))))))
 (.ite (W.gt i (W.of .i64 0)) (.opt (Sl.get? l_0 (W.sub i (W.of .i64 1))) fun y9=>
 .ite (!y9.Ren.Uop.Last) (.opt (Sl.get? l_0 (W.sub i (W.of .i64 1))) fun y10=>
 .opt (Sl.get? l_0 i) fun y11=>
 .ite (W.ne y11.Ren.Uop.Part (W.add y10.Ren.Uop.Part (W.of .i64 1))) (.ret (.out (.inl (l_0,false,()))))
 (.ret (.next (l_0,(W.add i (W.of .i64 1)),()))))
 (.opt (Sl.get? l_0 i) fun y12=>
 .ite (W.ne y12.Ren.Uop.Part (W.of .i64 0)) (.ret (.out (.inl (l_0,false,()))))
 (.ret (.next (l_0,(W.add i (W.of .i64 1)),())))))
 (.opt (Sl.get? l_0 i) fun y13=>
 .ite (W.ne y13.Ren.Uop.Part (W.of .i64 0)) (.ret (.out (.inl (l_0,false,()))))
 (.ret (.next (l_0,(W.add i (W.of .i64 1)),())))))))
 (.ret (.out (.inr (l_0,(),()))))
def ud (a:xD):Option NH:=az (fun a:xD=>(lL a.1 a.2.1).eval) aa a
def EO (l_0:Sl 248 (TRob)):Tree (Bool):=
 .opt (ud ((l_0,(W.of .i64 0),()))) fun o14=>
 .sum o14 (fun p15=>
 .ret p15.2.1)
 (fun o16=>
 .ite (W.eq (Sl.len o16.1) (W.of .i64 0)) (.ret true)
 (.opt (Sl.get? o16.1 (W.sub (Sl.len o16.1) (W.of .i64 1))) fun y17=>
 .ret y17.Ren.Uop.Last))
def ta (l_0:Sl 248 (TRob)):Option (Bool):=(EO l_0).eval
def qW (n_1:W .i64) (m:Arr 16 (W .i64)) (r k:W .i64):Tree (Rnd gW wI):=
 .ite (W.lt k r) (.opt (aI 16 k) fun j3=>
 .opt (aI 16 r) fun j4=>
 .ite (W.eq (Arr.get m j3) (Arr.get m j4)) (.ret (.out (.inl (n_1,m,false,r,()))))
 (.ret (.next (n_1,m,r,(W.add k (W.of .i64 1)),()))))
 (.ret (.out (.inr (n_1,m,(),r,()))))
def mV (a:gW):Option wI:=az (fun a:gW=>(qW a.1 a.2.1 a.2.2.1 a.2.2.2.1).eval) aa a
def zQ (n_1:W .i64) (m:Arr 16 (W .i64)) (r:W .i64):Tree (Rnd gX aV):=
 .ite (W.lt r (W.of .i64 16)) (.opt (aI 16 r) fun j1=>
 .ite (W.lt (Arr.get m j1) (W.of .i64 1)) (.ret (.out (.inl (false,()))))
 (.opt (aI 16 r) fun j2=>
 .ite (W.ge (Arr.get m j2) n_1) (.ret (.out (.inl (false,()))))
 (.opt (mV ((n_1,m,r,(W.of .i64 1),()))) fun o5=>
 .sum o5 (fun p6=>
 .ret (.out (.inl (p6.2.2.1,()))))
 (fun o7=>
 .ret (.next (o7.1,o7.2.1,(W.add o7.2.2.2.1 (W.of .i64 1)),()))))))
 (.ret (.out (.inr ((),()))))
def mU (a:gX):Option aV:=az (fun a:gX=>(zQ a.1 a.2.1 a.2.2.1).eval) aa a
def EJ (m:Arr 16 (W .i64)) (n_1:W .i64):Tree (Bool):=
 .ite (W.ne (Arr.get m 0) (W.of .i64 (-1))) (.ret false)
 (.opt (mU ((n_1,m,(W.of .i64 1),()))) fun o8=>
 .sum o8 (fun p9=>
 .ret p9.1)
 (fun o10=>
 .ret true))
def mw (m:Arr 16 (W .i64)) (n_1:W .i64):Option (Bool):=(EJ m n_1).eval
def EG (f:TFree):Tree (Bool):=
 .ite (W.gt (Sl.len f.Ring) (W.of .i64 96)) (.ret false)
 (.ite (W.lt f.N (W.of .i64 0)) (.ret false)
 (.ite (W.gt f.N (Sl.len f.Ring)) (.ret false)
 (.ite (W.ge f.Head (W.of .i64 0)) (.ite (W.lt f.Head (Sl.len f.Ring)) (.ret true)
 (.ite (W.eq (Sl.len f.Ring) (W.of .i64 0)) (.ret (W.eq f.Head (W.of .i64 0)))
 (.ret false)))
 (.ite (W.eq (Sl.len f.Ring) (W.of .i64 0)) (.ret (W.eq f.Head (W.of .i64 0)))
 (.ret false)))))
def mr (f:TFree):Option (Bool):=(EG f).eval
def qT (f:TFree) (out:Sl 8 (W .i64)) (i:W .i64):Tree (Rnd vQ ch):=
 .ite (W.lt i f.N) (.opt (W.rem? (W.add f.Head i) (Sl.len f.Ring)) fun z2=>
 .opt (Sl.get? f.Ring z2) fun y3=>
 .opt (Sl.app? out (Sl.lit 8 [y3] rfl:Sl 8 (W .i64))) fun l4=>
 .ret (.next (f,l4,(W.add i (W.of .i64 1)),())))
 (.ret (.out (out,())))
def mR (a:vQ):Option ch:=az (fun a:vQ=>(qT a.1 a.2.1 a.2.2.1).eval) aa a
def EH (f:TFree):Tree (Sl 8 (W .i64)):=
 .opt (mr f) fun r1=>
 .ite (!r1) (.ret (Sl.lit 8 [] rfl:Sl 8 (W .i64)))
 (.opt (mR ((f,(Sl.lit 8 [] rfl:Sl 8 (W .i64)),(W.of .i64 0),()))) fun o5=>
 .ret o5.1)
def mu (f:TFree):Option (Sl 8 (W .i64)):=(EH f).eval
def qV (n_1:W .i64) (l_5:Sl 8 (W .i64)) (i k:W .i64):Tree (Rnd vR NI):=
 .ite (W.lt k i) (.opt (aI (List.length l_5.l) k) fun j5=>
 .opt (aI (List.length l_5.l) i) fun j6=>
 .ite (W.eq (List.getD l_5.l j5 (W.of .i64 0)) (List.getD l_5.l j6 (W.of .i64 0))) (.ret (.out (.inl (n_1,false,l_5,i,()))))
 (.ret (.next (n_1,l_5,i,(W.add k (W.of .i64 1)),()))))
 (.ret (.out (.inr (n_1,(),l_5,i,()))))
def mT (a:vR):Option NI:=az (fun a:vR=>(qV a.1 a.2.1 a.2.2.1 a.2.2.2.1).eval) aa a
def qU (n_1:W .i64) (l_5:Sl 8 (W .i64)) (i:W .i64):Tree (Rnd gY aV):=
 .ite (W.lt i (Sl.len l_5)) (.opt (aI (List.length l_5.l) i) fun j3=>
 .ite (W.lt (List.getD l_5.l j3 (W.of .i64 0)) (W.of .i64 0)) (.ret (.out (.inl (false,()))))
 (.opt (aI (List.length l_5.l) i) fun j4=>
 .ite (W.ge (List.getD l_5.l j4 (W.of .i64 0)) n_1) (.ret (.out (.inl (false,()))))
 (.opt (mT ((n_1,l_5,i,(W.of .i64 0),()))) fun o7=>
 .sum o7 (fun p8=>
 .ret (.out (.inl (p8.2.1,()))))
 (fun o9=>
 .ret (.next (o9.1,o9.2.2.1,(W.add o9.2.2.2.1 (W.of .i64 1)),()))))))
 (.ret (.out (.inr ((),()))))
def mS (a:gY):Option aV:=az (fun a:gY=>(qU a.1 a.2.1 a.2.2.1).eval) aa a
def EI (f:TFree) (n_1:W .i64):Tree (Bool):=
 .opt (mr f) fun r1=>
 .ite (!r1) (.ret false)
 (.ite (W.ne (Sl.len f.Ring) n_1) (.ret false)
 (.opt (mu f) fun r2=>
 .opt (mS ((n_1,r2,(W.of .i64 0),()))) fun o10=>
 .sum o10 (fun p11=>
 .ret p11.1)
 (fun o12=>
 .ret true)))
def sV (f:TFree) (n_1:W .i64):Option (Bool):=(EI f n_1).eval
def EL (u:TUop):Tree (Bool):=
 .ite (W.ge u.Dst (W.of .i64 1)) (.ret (W.le u.Dst (W.of .i64 15)))
 (.ret false)
def sX (u:TUop):Option (Bool):=(EL u).eval
def q9 (l_0:Sl 8 (W .i64)) (p n_5 i:W .i64):Tree (Rnd gK Y7):=
 .ite (W.lt i (Sl.len l_0)) (.opt (Sl.get? l_0 i) fun y1=>
 .ite (W.eq y1 p) (.ret (.next (l_0,p,(W.add n_5 (W.of .i64 1)),(W.add i (W.of .i64 1)),())))
 (.ret (.next (l_0,p,n_5,(W.add i (W.of .i64 1)),()))))
 (.ret (.out (n_5,())))
def m6 (a:gK):Option Y7:=az (fun a:gK=>(q9 a.1 a.2.1 a.2.2.1 a.2.2.2.1).eval) aa a
def EN (l_0:Sl 8 (W .i64)) (p:W .i64):Tree (W .i64):=
 .opt (m6 ((l_0,p,(W.of .i64 0),(W.of .i64 0),()))) fun o2=>
 .ret o2.1
def sZ (l_0:Sl 8 (W .i64)) (p:W .i64):Option (W .i64):=(EN l_0 p).eval
def zR (n_1:W .i64) (flying:Sl 216 (TRen)) (s:TNames) (all:Sl 8 (W .i64)) (k:W .i64):Tree (Rnd xF NJ):=
 .ite (W.lt k (W.of .i64 16)) (.opt (aI 16 k) fun j2=>
 .opt (Sl.app? all (Sl.lit 8 [(Arr.get s.Done j2)] rfl:Sl 8 (W .i64))) fun l3=>
 .ret (.next (n_1,flying,s,l3,(W.add k (W.of .i64 1)),())))
 (.ret (.out (n_1,flying,all,())))
def mZ (a:xF):Option NJ:=az (fun a:xF=>(zR a.1 a.2.1 a.2.2.1 a.2.2.2.1 a.2.2.2.2.1).eval) aa a
def qY (n_1:W .i64) (flying:Sl 216 (TRen)) (all:Sl 8 (W .i64)) (i:W .i64):Tree (Rnd xG NK):=
 .ite (W.lt i (Sl.len flying)) (.opt (Sl.get? flying i) fun y5=>
 .ite (W.ne y5.Out (W.of .i64 (-1))) (.opt (Sl.get? flying i) fun y6=>
 .opt (Sl.app? all (Sl.lit 8 [y6.Out] rfl:Sl 8 (W .i64))) fun l7=>
 .ret (.next (n_1,flying,l7,(W.add i (W.of .i64 1)),())))
 (.ret (.next (n_1,flying,all,(W.add i (W.of .i64 1)),()))))
 (.ret (.out (n_1,all,())))
def mX (a:xG):Option NK:=az (fun a:xG=>(qY a.1 a.2.1 a.2.2.1 a.2.2.2.1).eval) aa a
def qZ (n_1:W .i64) (all:Sl 8 (W .i64)) (p:W .i64):Tree (Rnd gY NL):=
 .ite (W.lt p n_1) (.opt (sZ all p) fun r9=>
 .ite (W.ne r9 (W.of .i64 1)) (.ret (.out (.inl (n_1,false,all,()))))
 (.ret (.next (n_1,all,(W.add p (W.of .i64 1)),()))))
 (.ret (.out (.inr (n_1,(),all,()))))
def mY (a:gY):Option NL:=az (fun a:gY=>(qZ a.1 a.2.1 a.2.2.1).eval) aa a
def EM (s:TNames) (n_1:W .i64) (flying:Sl 216 (TRen)):Tree (Bool):=
 .opt (mu s.Free) fun r1=>
 .opt (mZ ((n_1,flying,s,r1,(W.of .i64 1),()))) fun o4=>
 .opt (mX ((o4.1,o4.2.1,o4.2.2.1,(W.of .i64 0),()))) fun o8=>
 .opt (mY ((o8.1,o8.2.1,(W.of .i64 1),()))) fun o10=>
 .sum o10 (fun p11=>
 .ret p11.2.1)
 (fun o12=>
 .ret (W.eq (Sl.len o12.2.2.1) (W.sub o12.1 (W.of .i64 1))))
def sY (s:TNames) (n_1:W .i64) (flying:Sl 216 (TRen)):Option (Bool):=(EM s n_1 flying).eval
def qX (n_1:W .i64) (flying:Sl 216 (TRen)) (s:TNames) (m:Arr 16 (W .i64)) (last:W .u64) (i:W .i64):Tree (Rnd vT NM):=
 .ite (W.lt i (Sl.len flying)) (.opt (Sl.get? flying i) fun y4=>
 .ite (W.le y4.Seq last) (.ret (.out (.inl (n_1,flying,s,false,m,()))))
 (.ite (W.ge y4.Seq s.Seq) (.ret (.out (.inl (n_1,flying,s,false,m,()))))
 (.opt (sX y4.Uop) fun r5=>
 .ite (!r5) (.ite (W.ne y4.Out (W.of .i64 (-1))) (.ret (.out (.inl (n_1,flying,s,false,m,()))))
 (.ite (W.ne y4.Old (W.of .i64 (-1))) (.ret (.out (.inl (n_1,flying,s,false,m,()))))
 (.ret (.next (n_1,flying,s,m,y4.Seq,(W.add i (W.of .i64 1)),())))))
 (.ite (W.lt y4.Out (W.of .i64 0)) (.ret (.out (.inl (n_1,flying,s,false,m,()))))
 (.opt (aI 16 y4.Uop.Dst) fun j6=>
 .ite (W.ne y4.Old (Arr.get m j6)) (.ret (.out (.inl (n_1,flying,s,false,m,()))))
 (.opt (aI 16 y4.Uop.Dst) fun j7=>
 .ret (.next (n_1,flying,s,(Arr.set m j7 y4.Out),y4.Seq,(W.add i (W.of .i64 1)),()))))))))
 (.ret (.out (.inr (n_1,flying,s,(),m,()))))
def mW (a:vT):Option NM:=az (fun a:vT=>(qX a.1 a.2.1 a.2.2.1 a.2.2.2.1 a.2.2.2.2.1 a.2.2.2.2.2.1).eval) aa a
def EK (s:TNames) (n_1:W .i64) (flying:Sl 216 (TRen)):Tree (Bool):=
 .ite (W.lt n_1 (W.of .i64 17)) (.ret false)
 (.ite (W.gt n_1 (W.of .i64 96)) (.ret false)
 (.opt (mw s.Map n_1) fun r1=>
 .ite (!r1) (.ret false)
 (.opt (mw s.Done n_1) fun r2=>
 .ite (!r2) (.ret false)
 (.opt (sV s.Free n_1) fun r3=>
 .ite (!r3) (.ret false)
 (.opt (mW ((n_1,flying,s,s.Done,(W.of .u64 0),(W.of .i64 0),()))) fun o8=>
 .sum o8 (fun p9=>
 .ret p9.2.2.2.1)
 (fun o10=>
 .ite (Tab.eq ab (.arr 16 (.int .i64)) o10.2.2.2.2.1 o10.2.2.1.Map) (.opt (sY o10.2.2.1 o10.1 o10.2.1) fun r11=>
 .ret r11)
 (.ret false)))))))
def kd (s:TNames) (n_1:W .i64) (flying:Sl 216 (TRen)):Option (Bool):=(EK s n_1 flying).eval
def rO (c:TCore) (r:TRen) (i:W .i64):Tree (Rnd wq aV):=
 .ite (W.lt i (Sl.len c.Rob)) (.opt (Sl.get? c.Rob i) fun y1=>
 .ite (Tab.eq ab (.named .TRen) y1.Ren r) (.opt (Sl.get? c.Rob i) fun y2=>
 .ite (!y2.Done) (.ret (.out (.inl (true,()))))
 (.ret (.next (c,r,(W.add i (W.of .i64 1)),()))))
 (.ret (.next (c,r,(W.add i (W.of .i64 1)),()))))
 (.ret (.out (.inr ((),()))))
def uM (a:wq):Option aV:=az (fun a:wq=>(rO a.1 a.2.1 a.2.2.1).eval) aa a
def Fk (c:TCore) (r:TRen):Tree (Bool):=
 .opt (uM ((c,r,(W.of .i64 0),()))) fun o3=>
 .sum o3 (fun p4=>
 .ret p4.1)
 (fun o5=>
 .ret false)
def mG (c:TCore) (r:TRen):Option (Bool):=(Fk c r).eval
def rK (c:TCore) (i k:W .i64):Tree (Rnd vU wO):=
 .ite (W.lt k i) (.opt (Sl.get? c.Iq k) fun y3=>
 .opt (Sl.get? c.Iq i) fun y4=>
 .ite (W.eq y3.Ren.Seq y4.Ren.Seq) (.ret (.out (.inl (c,false,i,()))))
 (.ret (.next (c,i,(W.add k (W.of .i64 1)),()))))
 (.ret (.out (.inr (c,(),i,()))))
def uI (a:vU):Option wO:=az (fun a:vU=>(rK a.1 a.2.1 a.2.2.1).eval) aa a
def rL (c:TCore) (i:W .i64):Tree (Rnd dk aV):=
 .ite (W.lt i (Sl.len c.Iq)) (.opt (Sl.get? c.Iq i) fun y1=>
 .opt (mG c y1.Ren) fun r2=>
 .ite (!r2) (.ret (.out (.inl (false,()))))
 (.opt (uI ((c,i,(W.of .i64 0),()))) fun o5=>
 .sum o5 (fun p6=>
 .ret (.out (.inl (p6.2.1,()))))
 (fun o7=>
 .ret (.next (o7.1,(W.add o7.2.2.1 (W.of .i64 1)),())))))
 (.ret (.out (.inr ((),()))))
def uJ (a:dk):Option aV:=az (fun a:dk=>(rL a.1 a.2.1).eval) aa a
def Fg (c:TCore):Tree (Bool):=
 .opt (uJ ((c,(W.of .i64 0),()))) fun o8=>
 .sum o8 (fun p9=>
 .ret p9.1)
 (fun o10=>
 .ret true)
def iK (c:TCore):Option (Bool):=(Fg c).eval
def rF (c:TCore) (i:W .i64) (r:TRen) (k:W .i64):Tree (Rnd gP NN):=
 .ite (W.lt k i) (.opt (Sl.get? c.Units k) fun y3=>
 .ite (W.eq y3.Ren.Seq r.Seq) (.ret (.out (.inl (c,false,i,r,()))))
 (.ret (.next (c,i,r,(W.add k (W.of .i64 1)),()))))
 (.ret (.out (.inr (c,(),i,r,()))))
def uD (a:gP):Option NN:=az (fun a:gP=>(rF a.1 a.2.1 a.2.2.1 a.2.2.2.1).eval) aa a
def rG (c:TCore) (i:W .i64) (r:TRen) (k:W .i64):Tree (Rnd gP wO):=
 .ite (W.lt k (Sl.len c.Iq)) (.opt (Sl.get? c.Iq k) fun y7=>
 .ite (W.eq y7.Ren.Seq r.Seq) (.ret (.out (.inl (c,false,i,()))))
 (.ret (.next (c,i,r,(W.add k (W.of .i64 1)),()))))
 (.ret (.out (.inr (c,(),i,()))))
def uE (a:gP):Option wO:=az (fun a:gP=>(rG a.1 a.2.1 a.2.2.1 a.2.2.2.1).eval) aa a
def rH (c:TCore) (i:W .i64):Tree (Rnd dk aV):=
 .ite (W.lt i (Sl.len c.Units)) (.opt (Sl.get? c.Units i) fun y1=>
 .opt (mG c y1.Ren) fun r2=>
 .ite (!r2) (.ret (.out (.inl (false,()))))
 (.opt (uD ((c,i,y1.Ren,(W.of .i64 0),()))) fun o4=>
 .sum o4 (fun p5=>
 .ret (.out (.inl (p5.2.1,()))))
 (fun o6=>
 .opt (uE ((o6.1,o6.2.2.1,o6.2.2.2.1,(W.of .i64 0),()))) fun o8=>
 .sum o8 (fun p9=>
 .ret (.out (.inl (p9.2.1,()))))
 (fun o10=>
 .ret (.next (o10.1,(W.add o10.2.2.1 (W.of .i64 1)),()))))))
 (.ret (.out (.inr ((),()))))
def uF (a:dk):Option aV:=az (fun a:dk=>(rH a.1 a.2.1).eval) aa a
def Fc (c:TCore):Tree (Bool):=
 .opt (uF ((c,(W.of .i64 0),()))) fun o11=>
 .sum o11 (fun p12=>
 .ret p12.1)
 (fun o13=>
 .ret true)
def gD (c:TCore):Option (Bool):=(Fc c).eval
def rM (unit:W .i64) (c:TCore) (out:Sl 8 (W .u64)) (i:W .i64):Tree (Rnd xf wK):=
 .ite (W.lt i (Sl.len c.Rob)) (.opt (Sl.get? c.Rob i) fun y1=>
 .ite (W.eq y1.Ren.Uop.Unit unit) (.opt (Sl.get? c.Rob i) fun y2=>
 .opt (Sl.app? out (Sl.lit 8 [y2.Ren.Seq] rfl:Sl 8 (W .u64))) fun l3=>
 .ret (.next (unit,c,l3,(W.add i (W.of .i64 1)),())))
 (.ret (.next (unit,c,out,(W.add i (W.of .i64 1)),()))))
 (.ret (.out (out,())))
def uK (a:xf):Option wK:=az (fun a:xf=>(rM a.1 a.2.1 a.2.2.1 a.2.2.2.1).eval) aa a
def Fi (c:TCore) (unit:W .i64):Tree (Sl 8 (W .u64)):=
 .opt (uK ((unit,c,(Sl.lit 8 [] rfl:Sl 8 (W .u64)),(W.of .i64 0),()))) fun o4=>
 .ret o4.1
def mF (c:TCore) (unit:W .i64):Option (Sl 8 (W .u64)):=(Fi c unit).eval
def rI (c:TCore) (l_3 s:Sl 8 (W .u64)) (i:W .i64):Tree (Rnd wu NO):=
 .ite (W.lt i (Sl.len l_3)) (.ite (W.lt i (Sl.len c.Lq)) (.opt (Sl.get? c.Lq i) fun y3=>
 .opt (Sl.get? l_3 i) fun y4=>
 .ite (W.ne y3.Seq y4) (.ret (.out (.inl (c,false,s,()))))
 (.ret (.next (c,l_3,s,(W.add i (W.of .i64 1)),()))))
 (.ret (.out (.inr (c,(),s,())))))
 (.ret (.out (.inr (c,(),s,()))))
def uG (a:wu):Option NO:=az (fun a:wu=>(rI a.1 a.2.1 a.2.2.1 a.2.2.2.1).eval) aa a
def rJ (c:TCore) (s:Sl 8 (W .u64)) (i:W .i64):Tree (Rnd wv aV):=
 .ite (W.lt i (Sl.len s)) (.ite (W.lt i (Sl.len c.Sq)) (.opt (Sl.get? c.Sq i) fun y8=>
 .opt (Sl.get? s i) fun y9=>
 .ite (W.ne y8.Seq y9) (.ret (.out (.inl (false,()))))
 (.ret (.next (c,s,(W.add i (W.of .i64 1)),()))))
 (.ret (.out (.inr ((),())))))
 (.ret (.out (.inr ((),()))))
def uH (a:wv):Option aV:=az (fun a:wv=>(rJ a.1 a.2.1 a.2.2.1).eval) aa a
def Ff (c:TCore):Tree (Bool):=
 .opt (mF c (W.of .i64 5)) fun r1=>
 .opt (mF c (W.of .i64 6)) fun r2=>
 .ite (W.ne (Sl.len r1) (Sl.len c.Lq)) (.ret false)
 (.ite (W.ne (Sl.len r2) (Sl.len c.Sq)) (.ret false)
 (.opt (uG ((c,r1,r2,(W.of .i64 0),()))) fun o5=>
 .sum o5 (fun p6=>
 .ret p6.2.1)
 (fun o7=>
 .opt (uH ((o7.1,o7.2.2.1,(W.of .i64 0),()))) fun o10=>
 .sum o10 (fun p11=>
 .ret p11.1)
 (fun o12=>
 .ret true))))
def fS (c:TCore):Option (Bool):=(Ff c).eval
def MX (f:TPhys) (p:W .i64):Tree (W .u32×Bool):=
 .opt (AK f p) fun r1=>
 .ite (!r1) (.ret ((W.of .u32 0),true))
 (.opt (Sl.get? f.Ready p) fun y2=>
 .ite (!y2) (.ret ((W.of .u32 0),false))
 (.opt (Sl.get? f.Val p) fun y3=>
 .ret (y3,true)))
def sW (f:TPhys) (p:W .i64):Option (W .u32×Bool):=(MX f p).eval
def I7 (f:TPhys) (m:Arr 16 (W .i64)) (t_4 out:Arr 16 (W .u32)) (r:W .i64):Tree (Rnd gL wL):=
 .ite (W.lt r (W.of .i64 16)) (.opt (aI 16 r) fun j1=>
 .opt (sW f (Arr.get m j1)) fun r2=>
 .opt (aI 16 r) fun j3=>
 .ret (.next (f,m,t_4,(Arr.set out j3 r2.1),(W.add r (W.of .i64 1)),())))
 (.ret (.out (t_4,out,())))
def L9 (a:gL):Option wL:=az (fun a:gL=>(I7 a.1 a.2.1 a.2.2.1 a.2.2.2.1 a.2.2.2.2.1).eval) aa a
def M0 (f:TPhys) (m:Arr 16 (W .i64)):Tree (Arr 16 (W .u32)):=
 .opt (L9 ((f,m,(Arr.rep 16 (W.of .u32 0):Arr 16 (W .u32)),(Arr.rep 16 (W.of .u32 0):Arr 16 (W .u32)),(W.of .i64 1),()))) fun o4=>
 .ret o4.2.1
def fk (f:TPhys) (m:Arr 16 (W .i64)):Option (Arr 16 (W .u32)):=(M0 f m).eval
def Ag (a:TArch) (i:W .i64):Tree (Rnd wy wM):=
 .ite (W.lt i (W.of .i64 12)) (.opt (aI 12 i) fun j1=>
 .opt (ml i) fun r2=>
 .opt (aI 12 i) fun j3=>
 .ite (W.ne (W.and (Arr.get a.C j1) r2) (Arr.get a.C j3)) (.ret (.out (.inl (a,false,()))))
 (.ret (.next (a,(W.add i (W.of .i64 1)),()))))
 (.ret (.out (.inr (a,(),()))))
def uC (a:wy):Option wM:=az (fun a:wy=>(Ag a.1 a.2.1).eval) aa a
def Fa (a:TArch):Tree (Bool):=
 .opt (uC ((a,(W.of .i64 0),()))) fun o4=>
 .sum o4 (fun p5=>
 .ret p5.2.1)
 (fun o6=>
 .ret (W.eq (Arr.get o6.1.R 0) (W.of .u32 0)))
def eT (a:TArch):Option (Bool):=(Fa a).eval
def rN (c:TCore) (i:W .i64):Tree (Rnd dk aV):=
 .ite (W.lt i (Sl.len c.Rob)) (.opt (Sl.get? c.Rob i) fun y1=>
 .ite (!y1.Done) (.ret (.next (c,(W.add i (W.of .i64 1)),())))
 (.ite (W.ne y1.Cause (W.of .i64 0)) (.ret (.next (c,(W.add i (W.of .i64 1)),())))
 (.ite (W.eq y1.Ren.Out (W.of .i64 (-1))) (.ret (.next (c,(W.add i (W.of .i64 1)),())))
 (.opt (sW c.Phys y1.Ren.Out) fun r2=>
 .ite (!r2.2) (.ret (.out (.inl (false,()))))
 (.ite (W.ne r2.1 y1.Val) (.ret (.out (.inl (false,()))))
 (.ret (.next (c,(W.add i (W.of .i64 1)),()))))))))
 (.ret (.out (.inr ((),()))))
def uL (a:dk):Option aV:=az (fun a:dk=>(rN a.1 a.2.1).eval) aa a
def Fj (c:TCore):Tree (Bool):=
 .opt (uL ((c,(W.of .i64 0),()))) fun o3=>
 .sum o3 (fun p4=>
 .ret p4.1)
 (fun o5=>
 .ret true)
def eA (c:TCore):Option (Bool):=(Fj c).eval
def zS (c:TCore) (out:Sl 8 (W .i64)) (rens:Sl 216 (TRen)) (i:W .i64):Tree gZ:=
 .opt (Sl.get? c.Rob i) fun y2=>
 .opt (Sl.app? rens (Sl.lit 216 [y2.Ren] rfl:Sl 216 (TRen))) fun l3=>
 .ret (c,out,l3,(W.add i (W.of .i64 1)),())
def AY (a:gZ):Option gZ:=(zS a.1 a.2.1 a.2.2.1 a.2.2.2.1).eval
def rE (c:TCore) (out:Sl 8 (W .i64)) (rens:Sl 216 (TRen)) (i:W .i64):Tree (Rnd gZ hE):=
 .ite (W.lt i (Sl.len c.Rob)) (.opt (AY ((c,out,rens,i,()))) fun o4=>
 .ret (.next (o4.1,o4.2.1,o4.2.2.1,o4.2.2.2.1,())))
 (.ret (.out (c,out,rens,())))
def na (a:gZ):Option hE:=az (fun a:gZ=>(rE a.1 a.2.1 a.2.2.1 a.2.2.2.1).eval) aa a
def zU (c:TCore) (out:Sl 8 (W .i64)) (rens:Sl 216 (TRen)) (t_53:Bool):Tree hE:=
 .ite t_53 (.opt (Sl.app? out (Sl.lit 8 [(W.of .i64 2)] rfl:Sl 8 (W .i64))) fun l7=>
 .ret (c,l7,rens,()))
 (.ret (c,out,rens,()))
def iM (a:Of):Option hE:=(zU a.1 a.2.1 a.2.2.1 a.2.2.2.1).eval
def Jb (out:Sl 8 (W .i64)):Tree bt:=
 .ret ((),out,())
def uA (a:ch):Option bt:=(Jb a.1).eval
def z9 (c:TCore) (out:Sl 8 (W .i64)):Tree bt:=
 .opt (eA c) fun r21=>
 .ite (!r21) (.opt (Sl.app? out (Sl.lit 8 [(W.of .i64 9)] rfl:Sl 8 (W .i64))) fun l22=>
 .opt (uA ((l22,()))) fun o23=>
 .ret ((),o23.2.1,()))
 (.opt (uA ((out,()))) fun o24=>
 .ret ((),o24.2.1,()))
def nk (a:cG):Option bt:=(z9 a.1 a.2.1).eval
def z8 (c:TCore) (out:Sl 8 (W .i64)):Tree bt:=
 .opt (eT c.A) fun r19=>
 .ite (!r19) (.opt (Sl.app? out (Sl.lit 8 [(W.of .i64 8)] rfl:Sl 8 (W .i64))) fun l20=>
 .opt (nk ((c,l20,()))) fun o25=>
 .ret ((),o25.2.1,()))
 (.opt (nk ((c,out,()))) fun o26=>
 .ret ((),o26.2.1,()))
def nj (a:cG):Option bt:=(z8 a.1 a.2.1).eval
def zZ (c:TCore) (out:Sl 8 (W .i64)):Tree bt:=
 .opt (fk c.Phys c.Names.Done) fun r17=>
 .ite (!(Tab.eq ab (.arr 16 (.int .u32)) r17 c.A.R)) (.opt (Sl.app? out (Sl.lit 8 [(W.of .i64 7)] rfl:Sl 8 (W .i64))) fun l18=>
 .opt (nj ((c,l18,()))) fun o27=>
 .ret ((),o27.2.1,()))
 (.opt (nj ((c,out,()))) fun o28=>
 .ret ((),o28.2.1,()))
def ni (a:cG):Option bt:=(zZ a.1 a.2.1).eval
def zY (c:TCore) (out:Sl 8 (W .i64)):Tree bt:=
 .opt (fS c) fun r15=>
 .ite (!r15) (.opt (Sl.app? out (Sl.lit 8 [(W.of .i64 6)] rfl:Sl 8 (W .i64))) fun l16=>
 .opt (ni ((c,l16,()))) fun o29=>
 .ret ((),o29.2.1,()))
 (.opt (ni ((c,out,()))) fun o30=>
 .ret ((),o30.2.1,()))
def nh (a:cG):Option bt:=(zY a.1 a.2.1).eval
def zX (c:TCore) (out:Sl 8 (W .i64)):Tree bt:=
 .opt (gD c) fun r13=>
 .ite (!r13) (.opt (Sl.app? out (Sl.lit 8 [(W.of .i64 5)] rfl:Sl 8 (W .i64))) fun l14=>
 .opt (nh ((c,l14,()))) fun o31=>
 .ret ((),o31.2.1,()))
 (.opt (nh ((c,out,()))) fun o32=>
 .ret ((),o32.2.1,()))
def ng (a:cG):Option bt:=(zX a.1 a.2.1).eval
def zW (c:TCore) (out:Sl 8 (W .i64)):Tree bt:=
 .opt (iK c) fun r11=>
 .ite (!r11) (.opt (Sl.app? out (Sl.lit 8 [(W.of .i64 4)] rfl:Sl 8 (W .i64))) fun l12=>
 .opt (ng ((c,l12,()))) fun o33=>
 .ret ((),o33.2.1,()))
 (.opt (ng ((c,out,()))) fun o34=>
 .ret ((),o34.2.1,()))
def nf (a:cG):Option bt:=(zW a.1 a.2.1).eval
def zV (c:TCore) (out:Sl 8 (W .i64)) (rens:Sl 216 (TRen)):Tree bt:=
 .opt (kd c.Names c.Conf.Phys rens) fun r9=>
 .ite (!r9) (.opt (Sl.app? out (Sl.lit 8 [(W.of .i64 3)] rfl:Sl 8 (W .i64))) fun l10=>
 .opt (nf ((c,l10,()))) fun o35=>
 .ret ((),o35.2.1,()))
 (.opt (nf ((c,out,()))) fun o36=>
 .ret ((),o36.2.1,()))
def kq (a:hE):Option bt:=(zV a.1 a.2.1 a.2.2.1).eval
def zT (c:TCore) (out:Sl 8 (W .i64)) (rens:Sl 216 (TRen)):Tree bt:=
 .opt (ta c.Rob) fun r6=>
 .ite (!r6) (.opt (iM ((c,out,rens,true,()))) fun o8=>
 .opt (kq ((o8.1,o8.2.1,o8.2.2.1,()))) fun o37=>
 .ret ((),o37.2.1,()))
 (.ite (W.gt (Sl.len c.Rob) (W.of .i64 0)) (.opt (Sl.get? c.Rob (W.sub (Sl.len c.Rob) (W.of .i64 1))) fun y38=>
 .opt (iM ((c,out,rens,(W.ge y38.Ren.Seq c.Names.Seq),()))) fun o39=>
 .opt (kq ((o39.1,o39.2.1,o39.2.2.1,()))) fun o40=>
 .ret ((),o40.2.1,()))
 (.opt (iM ((c,out,rens,false,()))) fun o41=>
 .opt (kq ((o41.1,o41.2.1,o41.2.2.1,()))) fun o42=>
 .ret ((),o42.2.1,())))
def uz (a:hE):Option bt:=(zT a.1 a.2.1 a.2.2.1).eval
def Aa (c:TCore):Tree bt:=
 .opt (na ((c,(Sl.lit 8 [] rfl:Sl 8 (W .i64)),(Sl.lit 216 [] rfl:Sl 216 (TRen)),(W.of .i64 0),()))) fun o5=>
 .opt (uz ((o5.1,o5.2.1,o5.2.2.1,()))) fun o43=>
 .ret ((),o43.2.1,())
def uB (a:Y0):Option bt:=(Aa a.1).eval
def E8 (c:TCore):Tree (Sl 8 (W .i64)):=
 .opt (tl c) fun r1=>
 .ite (!r1) (.ret (Sl.lit 8 [(W.of .i64 1)] rfl:Sl 8 (W .i64)))
 (.opt (uB ((c,()))) fun o44=>
 .ret o44.2.1)
def tj (c:TCore):Option (Sl 8 (W .i64)):=(E8 c).eval
def rk (l_5:Sl 40 (TWay)) (a some k:W .i64):Tree (Rnd xg NP):=
 .ite (W.lt k (Sl.len l_5)) (.opt (Sl.get? l_5 k) fun y2=>
 .ite (W.eq y2.Age a) (.ret (.next (l_5,a,(W.add some (W.of .i64 1)),(W.add k (W.of .i64 1)),())))
 (.ret (.next (l_5,a,some,(W.add k (W.of .i64 1)),()))))
 (.ret (.out (l_5,a,some,())))
def uj (a:xg):Option NP:=az (fun a:xg=>(rk a.1 a.2.1 a.2.2.1 a.2.2.2.1).eval) aa a
def rl (l_5:Sl 40 (TWay)) (a:W .i64):Tree (Rnd xh aV):=
 .ite (W.lt a (Sl.len l_5)) (.opt (uj ((l_5,a,(W.of .i64 0),(W.of .i64 0),()))) fun o3=>
 .ite (W.ne o3.2.2.1 (W.of .i64 1)) (.ret (.out (.inl (false,()))))
 (.ret (.next (o3.1,(W.add o3.2.1 (W.of .i64 1)),()))))
 (.ret (.out (.inr ((),()))))
def uk (a:xh):Option aV:=az (fun a:xh=>(rl a.1 a.2.1).eval) aa a
def EV (c:TCache) (s:W .i64):Tree (Bool):=
 .opt (Sl.get? c.Sets s) fun y1=>
 .opt (uk ((y1,(W.of .i64 0),()))) fun o4=>
 .sum o4 (fun p5=>
 .ret p5.1)
 (fun o6=>
 .ret true)
def kf (c:TCache) (s:W .i64):Option (Bool):=(EV c s).eval
def vB (c:TCache) (line:W .u32):Tree (W .i64):=
 .ite (W.eq (Sl.len c.Sets) (W.of .i64 0)) (.ret (W.of .i64 (-1)))
 (.opt (W.rem? (W.conv (.i64) line) (Sl.len c.Sets)) fun z1=>
 .ret z1)
def gC (c:TCache) (line:W .u32):Option (W .i64):=(vB c line).eval
def rm (s:W .i64) (c:TCache) (l_5:Sl 40 (TWay)) (k j:W .i64):Tree (Rnd vX NQ):=
 .ite (W.lt j k) (.opt (Sl.get? l_5 k) fun y10=>
 .ite (W.ne y10.State (W.of .i64 0)) (.opt (Sl.get? l_5 j) fun y11=>
 .ite (W.ne y11.State (W.of .i64 0)) (.opt (Sl.get? l_5 k) fun y12=>
 .opt (Sl.get? l_5 j) fun y13=>
 .ite (W.eq y12.Tag y13.Tag) (.ret (.out (.inl (s,c,false,l_5,k,()))))
 (.ret (.next (s,c,l_5,k,(W.add j (W.of .i64 1)),()))))
 (.ret (.next (s,c,l_5,k,(W.add j (W.of .i64 1)),()))))
 (.ret (.next (s,c,l_5,k,(W.add j (W.of .i64 1)),()))))
 (.ret (.out (.inr (s,c,(),l_5,k,()))))
def iL (a:vX):Option NQ:=az (fun a:vX=>(rm a.1 a.2.1 a.2.2.1 a.2.2.2.1 a.2.2.2.2.1).eval) aa a
def rn (s:W .i64) (c:TCache) (l_5:Sl 40 (TWay)) (k:W .i64):Tree (Rnd vY aV):=
 .ite (W.lt k (Sl.len l_5)) (.opt (Sl.get? l_5 k) fun y2=>
 .ite (W.lt y2.State (W.of .i64 0)) (.ret (.out (.inl (false,()))))
 (.opt (Sl.get? l_5 k) fun y3=>
 .ite (W.gt y3.State (W.of .i64 3)) (.ret (.out (.inl (false,()))))
 (.opt (Sl.get? l_5 k) fun y4=>
 .ite (W.eq y4.State (W.of .i64 0)) (.opt (Sl.get? l_5 k) fun y5=>
 .ite (W.ne y5.Tag (W.of .u32 0)) (.ret (.out (.inl (false,()))))
 (.opt (Sl.get? l_5 k) fun y6=>
 .ite (!(Tab.eq ab (.arr 16 (.int .u8)) y6.Data (Arr.lit 16 [(W.of .u8 0),(W.of .u8 0),(W.of .u8 0),(W.of .u8 0),(W.of .u8 0),(W.of .u8 0),(W.of .u8 0),(W.of .u8 0),(W.of .u8 0),(W.of .u8 0),(W.of .u8 0),(W.of .u8 0),(W.of .u8 0),(W.of .u8 0),(W.of .u8 0),(W.of .u8 0)] rfl:Arr 16 (W .u8)))) (.ret (.out (.inl (false,()))))
 (.opt (Sl.get? l_5 k) fun y7=>
 .ite (W.ne y7.State (W.of .i64 0)) (.opt (Sl.get? l_5 k) fun y8=>
 .opt (gC c y8.Tag) fun r9=>
 .ite (W.ne r9 s) (.ret (.out (.inl (false,()))))
 (.opt (iL ((s,c,l_5,k,(W.of .i64 0),()))) fun o14=>
 .sum o14 (fun p15=>
 .ret (.out (.inl (p15.2.2.1,()))))
 (fun o16=>
 .ret (.next (o16.1,o16.2.1,o16.2.2.2.1,(W.add o16.2.2.2.2.1 (W.of .i64 1)),())))))
 (.opt (iL ((s,c,l_5,k,(W.of .i64 0),()))) fun o17=>
 .sum o17 (fun p18=>
 .ret (.out (.inl (p18.2.2.1,()))))
 (fun o19=>
 .ret (.next (o19.1,o19.2.1,o19.2.2.2.1,(W.add o19.2.2.2.2.1 (W.of .i64 1)),())))))))
 (.opt (Sl.get? l_5 k) fun y20=>
 .ite (W.ne y20.State (W.of .i64 0)) (.opt (Sl.get? l_5 k) fun y21=>
 .opt (gC c y21.Tag) fun r22=>
 .ite (W.ne r22 s) (.ret (.out (.inl (false,()))))
 (.opt (iL ((s,c,l_5,k,(W.of .i64 0),()))) fun o23=>
 .sum o23 (fun p24=>
 .ret (.out (.inl (p24.2.2.1,()))))
 (fun o25=>
 .ret (.next (o25.1,o25.2.1,o25.2.2.2.1,(W.add o25.2.2.2.2.1 (W.of .i64 1)),())))))
 (.opt (iL ((s,c,l_5,k,(W.of .i64 0),()))) fun o26=>
 .sum o26 (fun p27=>
 .ret (.out (.inl (p27.2.2.1,()))))
 (fun o28=>
 .ret (.next (o28.1,o28.2.1,o28.2.2.2.1,(W.add o28.2.2.2.2.1 (W.of .i64 1)),()))))))))
 (.ret (.out (.inr ((),()))))
def um (a:vY):Option aV:=az (fun a:vY=>(rn a.1 a.2.1 a.2.2.1 a.2.2.2.1).eval) aa a
def EW (c:TCache) (s:W .i64):Tree (Bool):=
 .opt (Sl.get? c.Sets s) fun y1=>
 .opt (um ((s,c,y1,(W.of .i64 0),()))) fun o29=>
 .sum o29 (fun p30=>
 .ret p30.1)
 (fun o31=>
 .ret true)
def kg (c:TCache) (s:W .i64):Option (Bool):=(EW c s).eval
def rj (c:TCache) (s:W .i64):Tree (Rnd fw aV):=
 .ite (W.lt s (Sl.len c.Sets)) (.opt (Sl.get? c.Sets s) fun y1=>
 .ite (W.lt (Sl.len y1) (W.of .i64 1)) (.ret (.out (.inl (false,()))))
 (.ite (W.gt (Sl.len y1) (W.of .i64 4)) (.ret (.out (.inl (false,()))))
 (.opt (Sl.get? c.Sets (W.of .i64 0)) fun y2=>
 .ite (W.ne (Sl.len y1) (Sl.len y2)) (.ret (.out (.inl (false,()))))
 (.opt (kf c s) fun r3=>
 .ite (!r3) (.ret (.out (.inl (false,()))))
 (.opt (kg c s) fun r4=>
 .ite (!r4) (.ret (.out (.inl (false,()))))
 (.ret (.next (c,(W.add s (W.of .i64 1)),()))))))))
 (.ret (.out (.inr ((),()))))
def ui (a:fw):Option aV:=az (fun a:fw=>(rj a.1 a.2.1).eval) aa a
def EU (c:TCache):Tree (Bool):=
 .ite (W.lt (Sl.len c.Sets) (W.of .i64 1)) (.ret false)
 (.ite (W.gt (Sl.len c.Sets) (W.of .i64 8)) (.ret false)
 (.opt (ui ((c,(W.of .i64 0),()))) fun o5=>
 .sum o5 (fun p6=>
 .ret p6.1)
 (fun o7=>
 .ret true)))
def mz (c:TCache):Option (Bool):=(EU c).eval
def EY (m:TCoh) (line:W .u32):Tree (Bool):=
 .ret (W.le (W.add (W.mul (W.conv (.u64) line) (W.of .u64 16)) (W.of .u64 16)) (W.conv (.u64) (Sl.len m.Mem)))
def mA (m:TCoh) (line:W .u32):Option (Bool):=(EY m line).eval
def rC (line:W .u32) (m:TCoh) (t_4 out:Arr 16 (W .u8)) (i:W .i64):Tree (Rnd wz NR):=
 .ite (W.lt i (W.of .i64 16)) (.opt (Sl.get? m.Mem (W.add (W.mul (W.conv (.i64) line) (W.of .i64 16)) i)) fun y1=>
 .opt (aI 16 i) fun j2=>
 .ret (.next (line,m,t_4,(Arr.set out j2 y1),(W.add i (W.of .i64 1)),())))
 (.ret (.out (t_4,out,())))
def m8 (a:wz):Option NR:=az (fun a:wz=>(rC a.1 a.2.1 a.2.2.1 a.2.2.2.1 a.2.2.2.2.1).eval) aa a
def E2 (m:TCoh) (line:W .u32):Tree (Arr 16 (W .u8)):=
 .opt (m8 ((line,m,(Arr.rep 16 (W.of .u8 0):Arr 16 (W .u8)),(Arr.lit 16 [(W.of .u8 0),(W.of .u8 0),(W.of .u8 0),(W.of .u8 0),(W.of .u8 0),(W.of .u8 0),(W.of .u8 0),(W.of .u8 0),(W.of .u8 0),(W.of .u8 0),(W.of .u8 0),(W.of .u8 0),(W.of .u8 0),(W.of .u8 0),(W.of .u8 0),(W.of .u8 0)] rfl:Arr 16 (W .u8)),(W.of .i64 0),()))) fun o3=>
 .ret o3.2.1
def mB (m:TCoh) (line:W .u32):Option (Arr 16 (W .u8)):=(E2 m line).eval
def EX (m:TCoh) (who:W .i64):Tree (Bool):=
 .ite (W.ge who (W.of .i64 0)) (.ret (W.lt who (Sl.len m.Caches)))
 (.ret false)
def tc (m:TCoh) (who:W .i64):Option (Bool):=(EX m who).eval
def lM (line:W .u32) (c:TCache) (s k:W .i64):Tree (Rnd vZ NS):=
 .opt (Sl.get? c.Sets s) fun y2=>
 .ite (W.lt k (Sl.len y2)) (.opt (Sl.get? c.Sets s) fun y3=>
 .opt (Sl.get? y3 k) fun y4=>
 .ite (W.eq y4.Tag line) (.opt (Sl.get? c.Sets s) fun y5=>
 .opt (Sl.get? y5 k) fun y6=>
 .ite (W.ne y6.State (W.of .i64 0)) (.ret (.out (.inl (s,k,true,()))))
 (.ret (.next (line,c,s,(W.add k (W.of .i64 1)),()))))
 (.ret (.next (line,c,s,(W.add k (W.of .i64 1)),()))))
 (.ret (.out (.inr ((),(),(),()))))
def uh (a:vZ):Option NS:=az (fun a:vZ=>(lM a.1 a.2.1 a.2.2.1 a.2.2.2.1).eval) aa a
def vA (c:TCache) (line:W .u32):Tree (W .i64×W .i64×Bool):=
 .opt (gC c line) fun r1=>
 .ite (W.lt r1 (W.of .i64 0)) (.ret ((W.of .i64 0),(W.of .i64 0),false))
 (.opt (uh ((line,c,r1,(W.of .i64 0),()))) fun o7=>
 .sum o7 (fun p8=>
 .ret (p8.1,p8.2.1,p8.2.2.1))
 (fun o9=>
 .ret ((W.of .i64 0),(W.of .i64 0),false)))
def ke (c:TCache) (line:W .u32):Option (W .i64×W .i64×Bool):=(vA c line).eval
def E5 (c:TCache) (line:W .u32):Tree (TWay):=
 .opt (ke c line) fun r1=>
 .ite (!r1.2.2) (.ret (TWay.mk (W.of .i64 0) (W.of .u32 0) (Arr.rep 16 (W.of .u8 0):Arr 16 (W .u8)) (W.of .i64 0)))
 (.opt (Sl.get? c.Sets r1.1) fun y2=>
 .opt (Sl.get? y2 r1.2.1) fun y3=>
 .ret y3)
def th (c:TCache) (line:W .u32):Option (TWay):=(E5 c line).eval
def E0 (m:TCoh) (who:W .i64) (line:W .u32):Tree (W .i64):=
 .opt (tc m who) fun r1=>
 .ite (!r1) (.ret (W.of .i64 0))
 (.opt (Sl.get? m.Caches who) fun y2=>
 .opt (th y2 line) fun r3=>
 .ret r3.State)
def te (m:TCoh) (who:W .i64) (line:W .u32):Option (W .i64):=(E0 m who line).eval
def ri (states:Sl 8 (W .i64)) (some:W .i64) (alone:Bool) (i:W .i64):Tree (Rnd v3 NT):=
 .ite (W.lt i (Sl.len states)) (.opt (Sl.get? states i) fun y1=>
 .ite (W.lt y1 (W.of .i64 0)) (.ret (.out (.inl (false,some,alone,()))))
 (.opt (Sl.get? states i) fun y2=>
 .ite (W.gt y2 (W.of .i64 3)) (.ret (.out (.inl (false,some,alone,()))))
 (.opt (Sl.get? states i) fun y3=>
 .ite (W.gt y3 (W.of .i64 0)) (.opt (Sl.get? states i) fun y4=>
 .ite (W.gt y4 (W.of .i64 1)) (.ret (.next (states,(W.add some (W.of .i64 1)),true,(W.add i (W.of .i64 1)),())))
 (.ret (.next (states,(W.add some (W.of .i64 1)),alone,(W.add i (W.of .i64 1)),()))))
 (.opt (Sl.get? states i) fun y5=>
 .ite (W.gt y5 (W.of .i64 1)) (.ret (.next (states,some,true,(W.add i (W.of .i64 1)),())))
 (.ret (.next (states,some,alone,(W.add i (W.of .i64 1)),())))))))
 (.ret (.out (.inr ((),some,alone,()))))
def m7 (a:v3):Option NT:=az (fun a:v3=>(ri a.1 a.2.1 a.2.2.1 a.2.2.2.1).eval) aa a
def ET (states:Sl 8 (W .i64)):Tree (Bool):=
 .opt (m7 ((states,(W.of .i64 0),false,(W.of .i64 0),()))) fun o6=>
 .sum o6 (fun p7=>
 .ret p7.1)
 (fun o8=>
 .ite (!o8.2.2.1) (.ret true)
 (.ret (W.eq o8.2.1 (W.of .i64 1))))
def my (states:Sl 8 (W .i64)):Option (Bool):=(ET states).eval
def ry (m:TCoh) (k s w:W .i64) (x:TWay) (l_7:Sl 8 (W .i64)) (j:W .i64):Tree (Rnd wA NU):=
 .ite (W.lt j (Sl.len m.Caches)) (.opt (te m j x.Tag) fun r11=>
 .opt (Sl.app? l_7 (Sl.lit 8 [r11] rfl:Sl 8 (W .i64))) fun l12=>
 .ret (.next (m,k,s,w,x,l12,(W.add j (W.of .i64 1)),())))
 (.ret (.out (m,k,s,w,l_7,())))
def kp (a:wA):Option NU:=az (fun a:wA=>(ry a.1 a.2.1 a.2.2.1 a.2.2.2.1 a.2.2.2.2.1 a.2.2.2.2.2.1 a.2.2.2.2.2.2.1).eval) aa a
def rq (m:TCoh) (k s w:W .i64):Tree (Rnd wB NV):=
 .opt (Sl.get? m.Caches k) fun y4=>
 .opt (Sl.get? y4.Sets s) fun y5=>
 .ite (W.lt w (Sl.len y5)) (.opt (Sl.get? m.Caches k) fun y6=>
 .opt (Sl.get? y6.Sets s) fun y7=>
 .opt (Sl.get? y7 w) fun y8=>
 .ite (W.eq y8.State (W.of .i64 0)) (.ret (.next (m,k,s,(W.add w (W.of .i64 1)),())))
 (.opt (mA m y8.Tag) fun r9=>
 .ite (!r9) (.ret (.out (.inl (m,false,k,s,()))))
 (.ite (W.ne y8.State (W.of .i64 3)) (.opt (mB m y8.Tag) fun r10=>
 .ite (!(Tab.eq ab (.arr 16 (.int .u8)) y8.Data r10)) (.ret (.out (.inl (m,false,k,s,()))))
 (.opt (kp ((m,k,s,w,y8,(Sl.lit 8 [] rfl:Sl 8 (W .i64)),(W.of .i64 0),()))) fun o13=>
 .opt (my o13.2.2.2.2.1) fun r14=>
 .ite (!r14) (.ret (.out (.inl (o13.1,false,o13.2.1,o13.2.2.1,()))))
 (.ret (.next (o13.1,o13.2.1,o13.2.2.1,(W.add o13.2.2.2.1 (W.of .i64 1)),())))))
 (.opt (kp ((m,k,s,w,y8,(Sl.lit 8 [] rfl:Sl 8 (W .i64)),(W.of .i64 0),()))) fun o15=>
 .opt (my o15.2.2.2.2.1) fun r16=>
 .ite (!r16) (.ret (.out (.inl (o15.1,false,o15.2.1,o15.2.2.1,()))))
 (.ret (.next (o15.1,o15.2.1,o15.2.2.1,(W.add o15.2.2.2.1 (W.of .i64 1)),())))))))
 (.ret (.out (.inr (m,(),k,s,()))))
def uq (a:wB):Option NV:=az (fun a:wB=>(rq a.1 a.2.1 a.2.2.1 a.2.2.2.1).eval) aa a
def rp (m:TCoh) (k s:W .i64):Tree (Rnd gS wH):=
 .opt (Sl.get? m.Caches k) fun y3=>
 .ite (W.lt s (Sl.len y3.Sets)) (.opt (uq ((m,k,s,(W.of .i64 0),()))) fun o17=>
 .sum o17 (fun p18=>
 .ret (.out (.inl (p18.1,p18.2.1,p18.2.2.1,()))))
 (fun o19=>
 .ret (.next (o19.1,o19.2.2.1,(W.add o19.2.2.2.1 (W.of .i64 1)),()))))
 (.ret (.out (.inr (m,(),k,()))))
def uo (a:gS):Option wH:=az (fun a:gS=>(rp a.1 a.2.1 a.2.2.1).eval) aa a
def ru (m:TCoh) (k:W .i64):Tree (Rnd fx aV):=
 .ite (W.lt k (Sl.len m.Caches)) (.opt (Sl.get? m.Caches k) fun y1=>
 .opt (mz y1) fun r2=>
 .ite (!r2) (.ret (.out (.inl (false,()))))
 (.opt (uo ((m,k,(W.of .i64 0),()))) fun o20=>
 .sum o20 (fun p21=>
 .ret (.out (.inl (p21.2.1,()))))
 (fun o22=>
 .ret (.next (o22.1,(W.add o22.2.2.1 (W.of .i64 1)),())))))
 (.ret (.out (.inr ((),()))))
def uv (a:fx):Option aV:=az (fun a:fx=>(ru a.1 a.2.1).eval) aa a
def EZ (m:TCoh):Tree (Bool):=
 .opt (uv ((m,(W.of .i64 0),()))) fun o23=>
 .sum o23 (fun p24=>
 .ret p24.1)
 (fun o25=>
 .ret true)
def td (m:TCoh):Option (Bool):=(EZ m).eval
def E6 (m:TCoh):Tree (Bool):=
 .opt (mj m.Mem) fun r1=>
 .ite r1 (.ite (W.ge (Sl.len m.Caches) (W.of .i64 1)) (.ite (W.le (Sl.len m.Caches) (W.of .i64 2)) (.opt (td m) fun r2=>
 .ret r2)
 (.ret false))
 (.ret false))
 (.ret false)
def mD (m:TCoh):Option (Bool):=(E6 m).eval
def E3 (m:TCoh):Tree (TCoh):=
 .opt (Sl.make? 1 (W.of .u8 0) (Sl.len m.Mem) (Sl.len m.Mem)) fun l1=>
 .opt (Sl.make? 24 (TCache.mk (Sl.nil:Sl 24 (Sl 40 (TWay)))) (Sl.len m.Caches) (Sl.len m.Caches)) fun l2=>
 .ret (TCoh.mk (Sl.copy l1 0 m.Mem) (Sl.copy l2 0 m.Caches))
def mC (m:TCoh):Option (TCoh):=(E3 m).eval
def rD (line:W .u32) (data:Arr 16 (W .u8)) (t_6 out:TCoh) (i:W .i64):Tree (Rnd v5 (TCoh×TCoh×Unit)):=
 .ite (W.lt i (W.of .i64 16)) (.opt (aI 16 i) fun j3=>
 .opt (aI (List.length out.Mem.l) (W.add (W.mul (W.conv (.i64) line) (W.of .i64 16)) i)) fun j4=>
 .ret (.next (line,data,t_6,({ out with Mem:=(Sl.set out.Mem j4 (Arr.get data j3)) }:TCoh),(W.add i (W.of .i64 1)),())))
 (.ret (.out (t_6,out,())))
def m9 (a:v5):Option (TCoh×TCoh×Unit):=az (fun a:v5=>(rD a.1 a.2.1 a.2.2.1 a.2.2.2.1 a.2.2.2.2.1).eval) aa a
def E4 (m:TCoh) (line:W .u32) (data:Arr 16 (W .u8)):Tree (TCoh):=
 .opt (mA m line) fun r1=>
 .ite (!r1) (.ret m)
 (.opt (mC m) fun r2=>
 .opt (m9 ((line,data,(TCoh.mk (Sl.nil:Sl 1 (W .u8)) (Sl.nil:Sl 24 (TCache))),r2,(W.of .i64 0),()))) fun o5=>
 .ret o5.2.1)
def tf (m:TCoh) (line:W .u32) (data:Arr 16 (W .u8)):Option (TCoh):=(E4 m line data).eval
def rA (m:TCoh) (out:Sl 1 (W .u8)) (k s w:W .i64):Tree (Rnd xH kO):=
 .opt (Sl.get? m.Caches k) fun y3=>
 .opt (Sl.get? y3.Sets s) fun y4=>
 .ite (W.lt w (Sl.len y4)) (.opt (Sl.get? m.Caches k) fun y5=>
 .opt (Sl.get? y5.Sets s) fun y6=>
 .opt (Sl.get? y6 w) fun y7=>
 .ite (W.eq y7.State (W.of .i64 3)) (.opt (tf (TCoh.mk out (Sl.nil:Sl 24 (TCache))) y7.Tag y7.Data) fun r8=>
 .ret (.next (m,r8.Mem,k,s,(W.add w (W.of .i64 1)),())))
 (.ret (.next (m,out,k,s,(W.add w (W.of .i64 1)),()))))
 (.ret (.out (m,out,k,s,())))
def ux (a:xH):Option kO:=az (fun a:xH=>(rA a.1 a.2.1 a.2.2.1 a.2.2.2.1 a.2.2.2.2.1).eval) aa a
def rz (m:TCoh) (out:Sl 1 (W .u8)) (k s:W .i64):Tree (Rnd kO kP):=
 .opt (Sl.get? m.Caches k) fun y2=>
 .ite (W.lt s (Sl.len y2.Sets)) (.opt (ux ((m,out,k,s,(W.of .i64 0),()))) fun o9=>
 .ret (.next (o9.1,o9.2.1,o9.2.2.1,(W.add o9.2.2.2.1 (W.of .i64 1)),())))
 (.ret (.out (m,out,k,())))
def uw (a:kO):Option kP:=az (fun a:kO=>(rz a.1 a.2.1 a.2.2.1 a.2.2.2.1).eval) aa a
def rB (m:TCoh) (out:Sl 1 (W .u8)) (k:W .i64):Tree (Rnd kP cU):=
 .ite (W.lt k (Sl.len m.Caches)) (.opt (uw ((m,out,k,(W.of .i64 0),()))) fun o10=>
 .ret (.next (o10.1,o10.2.1,(W.add o10.2.2.1 (W.of .i64 1)),())))
 (.ret (.out (out,())))
def uy (a:kP):Option cU:=az (fun a:kP=>(rB a.1 a.2.1 a.2.2.1).eval) aa a
def E1 (m:TCoh):Tree (Sl 1 (W .u8)):=
 .opt (mC m) fun r1=>
 .opt (uy ((m,r1.Mem,(W.of .i64 0),()))) fun o11=>
 .ret o11.1
def AM (m:TCoh):Option (Sl 1 (W .u8)):=(E1 m).eval
def E7 (m:TCoh):Tree (Sl 1 (W .u8)):=
 .opt (AM m) fun r1=>
 .ret r1
def ti (m:TCoh):Option (Sl 1 (W .u8)):=(E7 m).eval
def Ez (m:Sl 1 (W .u8)) (addr:W .u32) (size:W .i64):Tree (W .i64):=
 .ite (W.eq size (W.of .i64 1)) (.ite (W.le (W.add (W.conv (.i64) addr) size) (Sl.len m)) (.ret (W.of .i64 0))
 (.ret (W.of .i64 9)))
 (.ite (W.eq size (W.of .i64 2)) (.ite (W.le (W.add (W.conv (.i64) addr) size) (Sl.len m)) (.ret (W.of .i64 0))
 (.ret (W.of .i64 9)))
 (.ite (W.eq size (W.of .i64 4)) (.ite (W.le (W.add (W.conv (.i64) addr) size) (Sl.len m)) (.ret (W.of .i64 0))
 (.ret (W.of .i64 9)))
 (.ret (W.of .i64 9))))
def j0 (m:Sl 1 (W .u8)) (addr:W .u32) (size:W .i64):Option (W .i64):=(Ez m addr size).eval
def rh (l_0:Sl 16 (TSb)) (m:Sl 1 (W .u8)) (i:W .i64):Tree (Rnd xI aV):=
 .ite (W.lt i (Sl.len l_0)) (.opt (Sl.get? l_0 i) fun y1=>
 .ite (W.ne y1.Size (W.of .i64 1)) (.ite (W.ne y1.Size (W.of .i64 2)) (.ite (W.ne y1.Size (W.of .i64 4)) (.ret (.out (.inl (false,()))))
 (.opt (Sl.get? l_0 i) fun y2=>
 .opt (W.rem? y2.Addr (W.conv (.u32) y1.Size)) fun z3=>
 .ite (W.ne z3 (W.of .u32 0)) (.ret (.out (.inl (false,()))))
 (.opt (Sl.get? l_0 i) fun y4=>
 .opt (j0 m y4.Addr y1.Size) fun r5=>
 .ite (W.ne r5 (W.of .i64 0)) (.ret (.out (.inl (false,()))))
 (.ret (.next (l_0,m,(W.add i (W.of .i64 1)),()))))))
 (.opt (Sl.get? l_0 i) fun y6=>
 .opt (W.rem? y6.Addr (W.conv (.u32) y1.Size)) fun z7=>
 .ite (W.ne z7 (W.of .u32 0)) (.ret (.out (.inl (false,()))))
 (.opt (Sl.get? l_0 i) fun y8=>
 .opt (j0 m y8.Addr y1.Size) fun r9=>
 .ite (W.ne r9 (W.of .i64 0)) (.ret (.out (.inl (false,()))))
 (.ret (.next (l_0,m,(W.add i (W.of .i64 1)),()))))))
 (.opt (Sl.get? l_0 i) fun y10=>
 .opt (W.rem? y10.Addr (W.conv (.u32) y1.Size)) fun z11=>
 .ite (W.ne z11 (W.of .u32 0)) (.ret (.out (.inl (false,()))))
 (.opt (Sl.get? l_0 i) fun y12=>
 .opt (j0 m y12.Addr y1.Size) fun r13=>
 .ite (W.ne r13 (W.of .i64 0)) (.ret (.out (.inl (false,()))))
 (.ret (.next (l_0,m,(W.add i (W.of .i64 1)),()))))))
 (.ret (.out (.inr ((),()))))
def ug (a:xI):Option aV:=az (fun a:xI=>(rh a.1 a.2.1 a.2.2.1).eval) aa a
def ES (l_0:Sl 16 (TSb)) (m:Sl 1 (W .u8)):Tree (Bool):=
 .ite (W.gt (Sl.len l_0) (W.of .i64 8)) (.ret false)
 (.opt (ug ((l_0,m,(W.of .i64 0),()))) fun o14=>
 .sum o14 (fun p15=>
 .ret p15.1)
 (fun o16=>
 .ret true))
def iJ (l_0:Sl 16 (TSb)) (m:Sl 1 (W .u8)):Option (Bool):=(ES l_0 m).eval
def qS (t_0:Sl 1 (W .u8)) (some:Bool) (bits:W .i64):Tree (Rnd gQ NW):=
 .ite (W.le bits (W.of .i64 8)) (.ite some (.ret (.next (t_0,true,(W.add bits (W.of .i64 1)),())))
 (.opt (kc bits) fun r1=>
 .ret (.next (t_0,(W.eq (Sl.len t_0) r1),(W.add bits (W.of .i64 1)),()))))
 (.ret (.out (t_0,some,())))
def uc (a:gQ):Option NW:=az (fun a:gQ=>(qS a.1 a.2.1 a.2.2.1).eval) aa a
def jS (t_0:Sl 1 (W .u8)) (some:Bool) (i:W .i64):Tree (Rnd gQ Y1):=
 .ite (W.lt i (Sl.len t_0)) (.ite some (.opt (Sl.get? t_0 i) fun y3=>
 .ret (.next (t_0,(W.le y3 (W.of .u8 3)),(W.add i (W.of .i64 1)),())))
 (.ret (.out (some,()))))
 (.ret (.out (some,())))
def tZ (a:gQ):Option Y1:=az (fun a:gQ=>(jS a.1 a.2.1 a.2.2.1).eval) aa a
def EB (t:Sl 1 (W .u8)):Tree (Bool):=
 .opt (uc ((t,false,(W.of .i64 0),()))) fun o2=>
 .opt (tZ ((o2.1,o2.2.1,(W.of .i64 0),()))) fun o4=>
 .ret o4.1
def sU (t:Sl 1 (W .u8)):Option (Bool):=(EB t).eval
def EF (aB many:W .i64):Tree (Bool):=
 .ite (W.ge aB (W.of .i64 0)) (.ite (W.lt aB many) (.ret true)
 (.ret (W.eq aB (W.of .i64 0))))
 (.ret false)
def mq (aB many:W .i64):Option (Bool):=(EF aB many).eval
def EE (c:TConf) (p:TPred):Tree (Bool):=
 .opt (mn c) fun r1=>
 .ite (W.ne (Sl.len p.Table) (Sl.len r1.Table)) (.ret false)
 (.ite (W.ne (Sl.len p.Btb) (Sl.len r1.Btb)) (.ret false)
 (.ite (W.ne (Sl.len p.Ras) (Sl.len r1.Ras)) (.ret false)
 (.opt (sU p.Table) fun r2=>
 .ite (!r2) (.ret false)
 (.ite (W.lt (W.conv (.i64) p.Hist) (Sl.len r1.Table)) (.opt (mq p.Next (Sl.len p.Btb)) fun r3=>
 .ite r3 (.opt (mq p.Top (Sl.len p.Ras)) fun r4=>
 .ret r4)
 (.ret false))
 (.ret false)))))
def gB (c:TConf) (p:TPred):Option (Bool):=(EE c p).eval
def rf (l_0:Sl 48 (TLq)) (i:W .i64):Tree (Rnd wC aV):=
 .ite (W.lt i (Sl.len l_0)) (.opt (Sl.get? l_0 i) fun y1=>
 .ite (W.lt y1.Seq (W.of .u64 1)) (.ret (.out (.inl (false,()))))
 (.ite (W.gt i (W.of .i64 0)) (.opt (Sl.get? l_0 i) fun y2=>
 .opt (Sl.get? l_0 (W.sub i (W.of .i64 1))) fun y3=>
 .ite (W.le y2.Seq y3.Seq) (.ret (.out (.inl (false,()))))
 (.opt (Sl.get? l_0 i) fun y4=>
 .ite y4.Known (.opt (Sl.get? l_0 i) fun y5=>
 .ite (W.ne y5.Size (W.of .i64 1)) (.opt (Sl.get? l_0 i) fun y6=>
 .ite (W.ne y6.Size (W.of .i64 2)) (.opt (Sl.get? l_0 i) fun y7=>
 .ite (W.ne y7.Size (W.of .i64 4)) (.ret (.out (.inl (false,()))))
 (.ret (.next (l_0,(W.add i (W.of .i64 1)),()))))
 (.ret (.next (l_0,(W.add i (W.of .i64 1)),()))))
 (.ret (.next (l_0,(W.add i (W.of .i64 1)),()))))
 (.ret (.next (l_0,(W.add i (W.of .i64 1)),())))))
 (.opt (Sl.get? l_0 i) fun y8=>
 .ite y8.Known (.opt (Sl.get? l_0 i) fun y9=>
 .ite (W.ne y9.Size (W.of .i64 1)) (.opt (Sl.get? l_0 i) fun y10=>
 .ite (W.ne y10.Size (W.of .i64 2)) (.opt (Sl.get? l_0 i) fun y11=>
 .ite (W.ne y11.Size (W.of .i64 4)) (.ret (.out (.inl (false,()))))
 (.ret (.next (l_0,(W.add i (W.of .i64 1)),()))))
 (.ret (.next (l_0,(W.add i (W.of .i64 1)),()))))
 (.ret (.next (l_0,(W.add i (W.of .i64 1)),()))))
 (.ret (.next (l_0,(W.add i (W.of .i64 1)),()))))))
 (.ret (.out (.inr ((),()))))
def uf (a:wC):Option aV:=az (fun a:wC=>(rf a.1 a.2.1).eval) aa a
def ER (l_0:Sl 48 (TLq)):Tree (Bool):=
 .opt (uf ((l_0,(W.of .i64 0),()))) fun o12=>
 .sum o12 (fun p13=>
 .ret p13.1)
 (fun o14=>
 .ret true)
def fR (l_0:Sl 48 (TLq)):Option (Bool):=(ER l_0).eval
def re (l_0:Sl 32 (TSq)) (last:W .u64) (i:W .i64):Tree (Rnd wD aV):=
 .ite (W.lt i (Sl.len l_0)) (.opt (Sl.get? l_0 i) fun y1=>
 .ite (W.le y1.Seq last) (.ret (.out (.inl (false,()))))
 (.opt (Sl.get? l_0 i) fun y2=>
 .ite y2.Known (.opt (Sl.get? l_0 i) fun y3=>
 .ite (W.ne y3.Size (W.of .i64 1)) (.opt (Sl.get? l_0 i) fun y4=>
 .ite (W.ne y4.Size (W.of .i64 2)) (.opt (Sl.get? l_0 i) fun y5=>
 .ite (W.ne y5.Size (W.of .i64 4)) (.ret (.out (.inl (false,()))))
 (.opt (Sl.get? l_0 i) fun y6=>
 .ret (.next (l_0,y6.Seq,(W.add i (W.of .i64 1)),()))))
 (.opt (Sl.get? l_0 i) fun y7=>
 .ret (.next (l_0,y7.Seq,(W.add i (W.of .i64 1)),()))))
 (.opt (Sl.get? l_0 i) fun y8=>
 .ret (.next (l_0,y8.Seq,(W.add i (W.of .i64 1)),()))))
 (.opt (Sl.get? l_0 i) fun y9=>
 .ret (.next (l_0,y9.Seq,(W.add i (W.of .i64 1)),())))))
 (.ret (.out (.inr ((),()))))
def ue (a:wD):Option aV:=az (fun a:wD=>(re a.1 a.2.1 a.2.2.1).eval) aa a
def EP (l_0:Sl 32 (TSq)):Tree (Bool):=
 .opt (ue ((l_0,(W.of .u64 0),(W.of .i64 0),()))) fun o10=>
 .sum o10 (fun p11=>
 .ret p11.1)
 (fun o12=>
 .ret true)
def fo (l_0:Sl 32 (TSq)):Option (Bool):=(EP l_0).eval
def lN (c:TCore) (m:TCoh) (out:Sl 8 (W .i64)) (t_18:Bool):Tree NX:=
 .ite t_18 (.ret (.inl (c,m,(),out,())))
 (.ret (.inr (c,m,(),out,())))
def kz (a:Nn):Option NX:=(lN a.1 a.2.1 a.2.2.1 a.2.2.2.1).eval
def Aj (c:TCore) (out:Sl 8 (W .i64)) (t_50:Bool):Tree cG:=
 .ite t_50 (.opt (Sl.app? out (Sl.lit 8 [(W.of .i64 12)] rfl:Sl 8 (W .i64))) fun l11=>
 .ret (c,l11,()))
 (.ret (c,out,()))
def iQ (a:Np):Option cG:=(Aj a.1 a.2.1 a.2.2.1).eval
def An (out:Sl 8 (W .i64)):Tree bt:=
 .ret ((),out,())
def uN (a:ch):Option bt:=(An a.1).eval
def Am (c:TCore) (out:Sl 8 (W .i64)):Tree bt:=
 .opt (fo c.Sq) fun r17=>
 .ite (!r17) (.opt (Sl.app? out (Sl.lit 8 [(W.of .i64 15)] rfl:Sl 8 (W .i64))) fun l18=>
 .opt (uN ((l18,()))) fun o19=>
 .ret ((),o19.2.1,()))
 (.opt (uN ((out,()))) fun o20=>
 .ret ((),o20.2.1,()))
def nr (a:cG):Option bt:=(Am a.1 a.2.1).eval
def Al (c:TCore) (out:Sl 8 (W .i64)):Tree bt:=
 .opt (fR c.Lq) fun r15=>
 .ite (!r15) (.opt (Sl.app? out (Sl.lit 8 [(W.of .i64 14)] rfl:Sl 8 (W .i64))) fun l16=>
 .opt (nr ((c,l16,()))) fun o21=>
 .ret ((),o21.2.1,()))
 (.opt (nr ((c,out,()))) fun o22=>
 .ret ((),o22.2.1,()))
def nq (a:cG):Option bt:=(Al a.1 a.2.1).eval
def Ak (c:TCore) (out:Sl 8 (W .i64)):Tree bt:=
 .opt (gB c.Conf c.Pred) fun r13=>
 .ite (!r13) (.opt (Sl.app? out (Sl.lit 8 [(W.of .i64 13)] rfl:Sl 8 (W .i64))) fun l14=>
 .opt (nq ((c,l14,()))) fun o23=>
 .ret ((),o23.2.1,()))
 (.opt (nq ((c,out,()))) fun o24=>
 .ret ((),o24.2.1,()))
def ky (a:cG):Option bt:=(Ak a.1 a.2.1).eval
def Ai (c:TCore) (m:TCoh) (out:Sl 8 (W .i64)) (long right:Bool):Tree bt:=
 .ite long (.ite right (.opt (ti m) fun r9=>
 .opt (iJ c.Sb r9) fun r10=>
 .opt (iQ ((c,out,(!r10),()))) fun o12=>
 .opt (ky ((o12.1,o12.2.1,()))) fun o25=>
 .ret ((),o25.2.1,()))
 (.opt (iQ ((c,out,false,()))) fun o26=>
 .opt (ky ((o26.1,o26.2.1,()))) fun o27=>
 .ret ((),o27.2.1,())))
 (.opt (iQ ((c,out,false,()))) fun o28=>
 .opt (ky ((o28.1,o28.2.1,()))) fun o29=>
 .ret ((),o29.2.1,()))
def nm (a:wE):Option bt:=(Ai a.1 a.2.1 a.2.2.1 a.2.2.2.1 a.2.2.2.2.1).eval
def Ah (c:TCore) (m:TCoh) (out:Sl 8 (W .i64)) (long right:Bool):Tree bt:=
 .ite (!right) (.opt (Sl.app? out (Sl.lit 8 [(W.of .i64 11)] rfl:Sl 8 (W .i64))) fun l8=>
 .opt (nm ((c,m,l8,long,right,()))) fun o30=>
 .ret ((),o30.2.1,()))
 (.opt (nm ((c,m,out,long,right,()))) fun o31=>
 .ret ((),o31.2.1,()))
def nl (a:wE):Option bt:=(Ah a.1 a.2.1 a.2.2.1 a.2.2.2.1 a.2.2.2.2.1).eval
def Ao (c:TCore) (m:TCoh) (out:Sl 8 (W .i64)):Tree bt:=
 .opt (mD m) fun r6=>
 .ite (!(W.eq (Sl.len c.Shadow) (Sl.len m.Mem))) (.opt (Sl.app? out (Sl.lit 8 [(W.of .i64 10)] rfl:Sl 8 (W .i64))) fun l7=>
 .opt (nl ((c,m,l7,(W.eq (Sl.len c.Shadow) (Sl.len m.Mem)),r6,()))) fun o32=>
 .ret ((),o32.2.1,()))
 (.opt (nl ((c,m,out,(W.eq (Sl.len c.Shadow) (Sl.len m.Mem)),r6,()))) fun o33=>
 .ret ((),o33.2.1,()))
def nu (a:Nq):Option bt:=(Ao a.1 a.2.1 a.2.2.1).eval
def Fl (c:TCore) (m:TCoh):Tree (Sl 8 (W .i64)):=
 .opt (tj c) fun r1=>
 .ite (W.eq (Sl.len r1) (W.of .i64 1)) (.opt (aI (List.length r1.l) (W.of .i64 0)) fun j2=>
 .opt (kz ((c,m,r1,(W.eq (List.getD r1.l j2 (W.of .i64 0)) (W.of .i64 1)),()))) fun o3=>
 .sum o3 (fun p4=>
 .ret p4.2.2.2.1)
 (fun o5=>
 .opt (nu ((o5.1,o5.2.1,o5.2.2.2.1,()))) fun o34=>
 .ret o34.2.1))
 (.opt (kz ((c,m,r1,false,()))) fun o35=>
 .sum o35 (fun p36=>
 .ret p36.2.2.2.1)
 (fun o37=>
 .opt (nu ((o37.1,o37.2.1,o37.2.2.2.1,()))) fun o38=>
 .ret o38.2.1))
def ki (c:TCore) (m:TCoh):Option (Sl 8 (W .i64)):=(Fl c m).eval
def rV (a b:Sl 8 (W .i64)) (i:W .i64):Tree (Rnd gR aV):=
 .ite (W.lt i (Sl.len a)) (.ite (W.lt i (Sl.len b)) (.opt (Sl.get? a i) fun y1=>
 .opt (Sl.get? b i) fun y2=>
 .ite (W.ne y1 y2) (.ret (.out (.inl (false,()))))
 (.ret (.next (a,b,(W.add i (W.of .i64 1)),()))))
 (.ret (.out (.inr ((),())))))
 (.ret (.out (.inr ((),()))))
def uO (a:gR):Option aV:=az (fun a:gR=>(rV a.1 a.2.1 a.2.2.1).eval) aa a
def Fu (a b:Sl 8 (W .i64)):Tree (Bool):=
 .ite (W.ne (Sl.len a) (Sl.len b)) (.ret false)
 (.opt (uO ((a,b,(W.of .i64 0),()))) fun o3=>
 .sum o3 (fun p4=>
 .ret p4.1)
 (fun o5=>
 .ret true))
def mH (a b:Sl 8 (W .i64)):Option (Bool):=(Fu a b).eval
def Ef (c:TCore) (m:TCoh):Tree (Bool):=
 .opt (mf c m) fun r1=>
 .ite (!r1) (.opt (iI) fun r2=>
 .ret r2)
 (.opt (iG c m) fun r3=>
 .opt (ki c m) fun r4=>
 .opt (mH r3 r4) fun r5=>
 .ite r5 (.opt (iI) fun r6=>
 .ret r6)
 (.ret false))
def Ay (c:TCore) (m:TCoh):Option (Bool):=(Ef c m).eval
def Jf (out l_4:Sl 8 (W .i64)) (i:W .i64):Tree (Rnd gR ch):=
 .ite (W.lt i (Sl.len l_4)) (.opt (aI (List.length l_4.l) i) fun j5=>
 .opt (Sl.app? out (Sl.lit 8 [(W.add (W.of .i64 100) (List.getD l_4.l j5 (W.of .i64 0)))] rfl:Sl 8 (W .i64))) fun l6=>
 .ret (.next (l6,l_4,(W.add i (W.of .i64 1)),())))
 (.ret (.out (out,())))
def Me (a:gR):Option ch:=az (fun a:gR=>(Jf a.1 a.2.1 a.2.2.1).eval) aa a
def M9 (d:TDuo):Tree (Sl 8 (W .i64)):=
 .ite (W.ne (Sl.len d.Cores) (W.of .i64 2)) (.ret (Sl.lit 8 [(W.of .i64 90)] rfl:Sl 8 (W .i64)))
 (.ite (W.ne (Sl.len d.Mem.Caches) (W.of .i64 2)) (.ret (Sl.lit 8 [(W.of .i64 90)] rfl:Sl 8 (W .i64)))
 (.opt (Sl.get? d.Cores (W.of .i64 0)) fun y1=>
 .opt (ki y1 d.Mem) fun r2=>
 .opt (Sl.get? d.Cores (W.of .i64 1)) fun y3=>
 .opt (ki y3 d.Mem) fun r4=>
 .opt (Me ((r2,r4,(W.of .i64 0),()))) fun o7=>
 .ret o7.1))
def JC (d:TDuo):Option (Sl 8 (W .i64)):=(M9 d).eval
def IZ (d:TDuo) (i:W .i64):Tree (Rnd wG NY):=
 .ite (W.lt i (Sl.len d.Cores)) (.opt (Sl.get? d.Cores i) fun y2=>
 .opt (mf y2 d.Mem) fun r3=>
 .ite (!r3) (.opt (iI) fun r4=>
 .ret (.out (.inl (d,r4,()))))
 (.ret (.next (d,(W.add i (W.of .i64 1)),()))))
 (.ret (.out (.inr (d,(),()))))
def L1 (a:wG):Option NY:=az (fun a:wG=>(IZ a.1 a.2.1).eval) aa a
def ME (d:TDuo):Tree (Bool):=
 .ite (W.gt (Sl.len d.Cores) (W.of .i64 3)) (.opt (iI) fun r1=>
 .ret r1)
 (.opt (L1 ((d,(W.of .i64 0),()))) fun o5=>
 .sum o5 (fun p6=>
 .ret p6.2.1)
 (fun o7=>
 .opt (As o7.1) fun r8=>
 .opt (JC o7.1) fun r9=>
 .opt (mH r8 r9) fun r10=>
 .ite r10 (.opt (iI) fun r11=>
 .ret r11)
 (.ret false)))
def RF (d:TDuo):Option (Bool):=(ME d).eval
end
end Go.Proofs.YtnpgljilkkipkaaGreat
