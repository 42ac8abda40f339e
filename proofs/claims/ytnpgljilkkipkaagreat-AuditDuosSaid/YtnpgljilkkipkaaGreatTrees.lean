/- YtnpgljilkkipkaaGreatTrees: the functions as decision trees. No statement of the seat is proved here. -/
import Derived.Test.YtnpgljilkkipkaaGreatTypes
import Derived.Test.YtnpgljilkkipkaaGreatA2D
set_option linter.unusedSimpArgs false
set_option linter.unusedVariables false
set_option maxRecDepth 100000
namespace Go.Proofs.YtnpgljilkkipkaaGreat
open Go Go.A2
abbrev Y0:=TCore×Unit
abbrev Y1:=Bool×Unit
abbrev Y2:=Bool×Bool×Bool×Bool×Unit
abbrev Y3:=TConf×Bool×Bool×Bool×Unit
abbrev Y4:=TConf×Bool×Bool×Unit
abbrev Y5:=TConf×Unit
abbrev Y6:=W .i64×W .i64×W .i64×Unit
abbrev Y7:=W .i64×Unit
abbrev Y8:=TFree×W .i64×TFree×W .i64×Unit
abbrev Y9:=W .i64×W .i64×Unit
abbrev vQ:=TMach×TCore×TCore×W .i64×Unit
abbrev v3:=W .i64×Arr 96 (Bool)×Sl 8 (W .i64)×W .i64×W .i64×Unit
abbrev kJ:=TFree×W .i64×Unit
abbrev Nj:=W .i64×W .i64×Bool×Arr 96 (W .i64)×Unit
abbrev kK:=Arr 16 (W .i64)×W .i64×Unit
abbrev wK:=Sl 216 (TRen)×((Unit)×(Unit×Unit×Unit×Unit))×W .i64×Bool×Arr 96 (W .i64)×Bool×W .i64×Unit
abbrev wS:=Sl 216 (TRen)×W .i64×Bool×Arr 96 (W .i64)×Bool×W .i64×Unit
abbrev Nx:=Sl 216 (TRen)×((Unit)×(Unit×Unit×Unit×Unit))×W .i64×Bool×Arr 96 (W .i64)×Bool×Unit
abbrev w8:=TNames×W .i64×Sl 216 (TRen)×Bool×Arr 96 (W .i64)×Bool×((Unit)×(Unit×Unit×Unit×Unit))×((Unit)×(Unit×((Unit)×(Unit×Unit×Unit×Unit))×Unit×Unit×Unit×Unit×Unit))×Sl 8 (W .i64)×W .i64×W .i64×Unit
abbrev xd:=TNames×W .i64×Sl 216 (TRen)×Bool×Arr 96 (W .i64)×Bool×((Unit)×(Unit×Unit×Unit×Unit))×W .i64×((Unit)×(Unit×((Unit)×(Unit×Unit×Unit×Unit))×Unit×Unit×Unit×Unit×Unit))×Unit
abbrev kL:=TNames×W .i64×Sl 216 (TRen)×Unit
abbrev xe:=Sl 248 (TRob)×((Unit)×(TRen×Unit))×W .i64×W .i64×Unit
abbrev xf:=Sl 248 (TRob)×((Unit)×(TRen×Unit))×Unit
abbrev xg:=TCore×TRen×Unit
abbrev xh:=TCore×(List (W .u64×W .i64))×Sl 216 (TRen)×W .i64×W .i64×Unit
abbrev N0:=TCore×Sl 216 (TRen)×Unit
abbrev xj:=Sl 216 (TRen)×((Unit)×(Sl 216 (TRen)×Unit))×Unit
abbrev xk:=Sl 8 (W .u64)×((Unit)×(Unit))×Sl 32 (TSq)×W .i64×W .i64×Unit
abbrev Oa:=Sl 32 (TSq)×Sl 8 (W .u64)×((Unit)×(Unit))×Unit
abbrev xl:=Sl 248 (TRob)×((Unit)×(TCore×Unit))×Unit
abbrev eB:=TCache×W .u32×Unit
abbrev xn:=Sl 8 (W .i64)×((Unit)×(Unit))×W .i64×W .i64×Unit
abbrev xo:=Sl 8 (W .i64)×((Unit)×(Unit))×Unit
abbrev xp:=W .u64×W .u64×Unit
abbrev cV:=Sl 1 (W .u8)×Unit
abbrev xq:=TConf×TPred×Unit
abbrev Ob:=TWay×Sl 1 (W .u8)×Unit
abbrev xr:=Sl 1 (W .u8)×Sl 24 (TCache)×W .i64×W .i64×Sl 24 (Sl 40 (TWay))×W .i64×W .i64×Sl 40 (TWay)×W .i64×W .i64×Unit
abbrev xt:=Sl 1 (W .u8)×Sl 24 (TCache)×W .i64×W .i64×Sl 24 (Sl 40 (TWay))×W .i64×W .i64×Unit
abbrev xu:=Sl 1 (W .u8)×Sl 24 (TCache)×W .i64×W .i64×Unit
abbrev Oc:=TCoh×Sl 1 (W .u8)×Unit
abbrev dM:=TCoh×Unit
abbrev gP:=Sl 8 (W .i64)×Sl 1 (Bool)×W .i64×W .i64×Unit
abbrev gQ:=TCore×TCoh×Unit
abbrev gR:=TCore×W .i64×TRen×W .i64×Unit
abbrev dm:=TCore×W .i64×Unit
abbrev xv:=W .i64×TCore×Sl 8 (W .u64)×W .i64×Unit
abbrev xw:=Sl 40 (TWay)×W .i64×W .i64×W .i64×Unit
abbrev xy:=Sl 40 (TWay)×W .i64×Unit
abbrev fw:=TCache×W .i64×Unit
abbrev fx:=TCoh×W .i64×Unit
abbrev gS:=Sl 1 (W .u8)×Bool×W .i64×Unit
abbrev gU:=Sl 8 (W .i64)×Sl 8 (W .i64)×W .i64×Unit
abbrev kM:=TDuo×Unit
abbrev gV:=TCoh×W .i64×W .i64×Unit
abbrev xz:=W .i64×Sl 4 (W .u32)×W .i64×Unit
abbrev gW:=TPhys×W .i64×Unit
abbrev xB:=W .i64×W .i64×TCache×TCache×W .i64×Sl 40 (TWay)×W .i64×Unit
abbrev xC:=W .i64×W .i64×TCache×TCache×W .i64×Unit
abbrev xD:=Sl 24 (TBound)×((Unit)×(Unit))×Unit
abbrev xE:=TFree×((TFree×Unit)×(Unit))×Sl 8 (W .i64)×W .i64×W .i64×Unit
abbrev gX:=TFree×Unit
abbrev Od:=Arr 16 (W .i64)×W .i64×W .i64×Unit
abbrev xF:=TNames×Arr 16 (W .i64)×W .u64×Sl 216 (TRen)×W .i64×W .i64×Unit
abbrev Oe:=TNames×Sl 216 (TRen)×Unit
abbrev xG:=Sl 216 (TRen)×((Unit)×(TRen×Unit))×W .i64×W .i64×Unit
abbrev xH:=Sl 216 (TRen)×((Unit)×(TRen×Unit))×Unit
abbrev xI:=Sl 216 (TRen)×Sl 216 (TRen)×Unit
abbrev xJ:=Sl 8 (W .u64)×((Unit)×(Unit))×Sl 48 (TLq)×W .i64×W .i64×Unit
abbrev Of:=Sl 48 (TLq)×Sl 8 (W .u64)×((Unit)×(Unit))×Unit
abbrev xK:=Sl 248 (TRob)×((Unit)×(TCore×Unit))×W .i64×W .i64×Unit
abbrev xL:=TCache×W .i64×W .i64×Unit
abbrev xM:=TCache×Unit
abbrev xN:=W .u64×Sl 32 (TSq)×W .i64×W .i64×Unit
abbrev xO:=Sl 32 (TSq)×Unit
abbrev xP:=TDuo×Sl 8 (W .i64)×W .i64×Sl 1040 (TCore)×W .i64×W .i64×Sl 8 (W .i64)×W .i64×W .i64×Unit
abbrev kN:=TDuo×Sl 8 (W .i64)×Sl 1040 (TCore)×W .i64×W .i64×Unit
abbrev xQ:=Sl 248 (TRob)×W .i64×Unit
abbrev xR:=Sl 248 (TRob)×Unit
abbrev gY:=W .i64×Arr 16 (W .i64)×W .i64×W .i64×Unit
abbrev gZ:=W .i64×Arr 16 (W .i64)×W .i64×Unit
abbrev xS:=W .i64×Sl 216 (TRen)×TNames×Sl 8 (W .i64)×W .i64×Unit
abbrev xT:=W .i64×Sl 216 (TRen)×Sl 8 (W .i64)×W .i64×Unit
abbrev hE:=W .i64×Sl 8 (W .i64)×W .i64×Unit
abbrev hH:=TCore×Sl 8 (W .i64)×Sl 216 (TRen)×W .i64×Unit
abbrev Og:=TCore×Sl 8 (W .i64)×Sl 216 (TRen)×Bool×Unit
abbrev cq:=Sl 8 (W .i64)×Unit
abbrev cH:=TCore×Sl 8 (W .i64)×Unit
abbrev hJ:=TCore×Sl 8 (W .i64)×Sl 216 (TRen)×Unit
abbrev kO:=TCoh×W .u32×Unit
abbrev xU:=TCoh×Sl 1 (W .u8)×W .i64×W .i64×W .i64×Unit
abbrev kP:=TCoh×Sl 1 (W .u8)×W .i64×W .i64×Unit
abbrev kQ:=TCoh×Sl 1 (W .u8)×W .i64×Unit
abbrev xV:=Sl 16 (TSb)×Sl 1 (W .u8)×W .i64×Unit
abbrev xW:=Sl 16 (TSb)×Sl 1 (W .u8)×Unit
abbrev xX:=TMach×W .i64×Unit
abbrev hM:=W .i64×Sl 1 (W .u8)×W .i64×Unit
abbrev xY:=Arr 16 (W .i64)×Arr 16 (W .i64)×W .i64×Unit
abbrev Oh:=TPhys×W .i64×W .u32×Unit
abbrev xZ:=Sl 24 (TBound)×((Unit)×(Unit))×W .i64×W .i64×Unit
abbrev vR:=W .u64×W .i64×Sl 248 (TRob)×W .i64×W .i64×Unit
abbrev vT:=TUop×Unit
abbrev vU:=Sl 216 (TRen)×((Unit)×(Sl 216 (TRen)×Unit))×W .i64×W .i64×Unit
abbrev vV:=W .i64×Sl 8 (W .u64)×Sl 248 (TRob)×W .i64×W .i64×Unit
abbrev gM:=Sl 8 (W .i64)×W .i64×W .i64×W .i64×Unit
abbrev kH:=Sl 8 (W .i64)×W .i64×Unit
abbrev vX:=W .i64×TCache×Sl 40 (TWay)×Sl 1 (Bool)×Sl 40 (TWay)×W .i64×W .i64×Unit
abbrev vY:=Sl 1 (W .u8)×Sl 1 (W .u8)×W .i64×W .i64×Unit
abbrev Nc:=Sl 1 (W .u8)×Sl 1 (W .u8)×Unit
abbrev vZ:=((Unit)×(TCoh×Unit))×Sl 24 (TCache)×W .i64×W .i64×Sl 24 (Sl 40 (TWay))×W .i64×W .i64×Sl 40 (TWay)×W .i64×W .i64×Unit
abbrev v5:=((Unit)×(TCoh×Unit))×Sl 24 (TCache)×W .i64×W .i64×Sl 24 (Sl 40 (TWay))×W .i64×W .i64×Unit
abbrev v7:=((Unit)×(TCoh×Unit))×Sl 24 (TCache)×W .i64×W .i64×Unit
abbrev Nd:=TCoh×((Unit)×(TCoh×Unit))×Unit
abbrev v8:=TCoh×Sl 24 (TCache)×W .i64×W .i64×Unit
abbrev kI:=Sl 1 (W .u8)×W .i64×Unit
abbrev v9:=Sl 1 (W .u8)×W .u32×W .i64×Unit
abbrev wa:=TFree×Sl 8 (W .i64)×W .i64×Unit
abbrev wb:=W .i64×Sl 8 (W .i64)×W .i64×W .i64×Unit
abbrev wc:=W .i64×Sl 216 (TRen)×TNames×Arr 16 (W .i64)×W .u64×W .i64×Unit
abbrev we:=TCore×W .i64×W .i64×Unit
abbrev gN:=TPhys×Arr 16 (W .i64)×Arr 16 (W .u32)×Arr 16 (W .u32)×W .i64×Unit
abbrev wg:=TPhys×Arr 16 (W .i64)×Unit
abbrev wh:=W .i64×TCache×Sl 40 (TWay)×W .i64×W .i64×Unit
abbrev wj:=W .i64×TCache×Sl 40 (TWay)×W .i64×Unit
abbrev wk:=W .u32×TCache×W .i64×W .i64×Unit
abbrev Ng:=TCoh×W .i64×W .u32×Unit
abbrev wm:=Sl 8 (W .i64)×W .i64×Bool×W .i64×Unit
abbrev wo:=W .u32×Arr 16 (W .u8)×TCoh×TCoh×W .i64×Unit
abbrev Nh:=TCoh×W .u32×Arr 16 (W .u8)×Unit
abbrev Ni:=Sl 8 (W .i64)×Sl 8 (W .i64)×Unit
abbrev wq:=W .i64×TPhys×TPhys×W .i64×Unit
abbrev Nk:=Sl 1 (W .u8)×W .i64×W .i64×W .i64×Unit
abbrev wu:=TCore×Sl 216 (TRen)×Sl 216 (TRen)×Sl 224 (TIq)×W .i64×W .i64×Unit
abbrev wv:=Sl 216 (TRen)×Sl 216 (TRen)×Sl 256 (TFlight)×W .i64×W .i64×Unit
abbrev wx:=Sl 216 (TRen)×Sl 248 (TRob)×W .i64×W .i64×Unit
abbrev Nl:=TRen×Sl 216 (TRen)×Unit
abbrev wy:=TArch×Arr 12 (W .u32)×W .i64×Unit
abbrev wz:=TArch×Unit
abbrev wA:=Sl 40 (TWay)×((Unit)×(W .u32×Unit))×W .i64×W .i64×Unit
abbrev Nm:=Sl 40 (TWay)×((Unit)×(W .u32×Unit))×Unit
abbrev Nn:=Sl 1 (W .u8)×W .u32×Unit
abbrev wB:=W .u32×Sl 8 (W .i64)×Sl 24 (TCache)×W .i64×W .i64×Unit
abbrev wC:=Sl 8 (W .i64)×W .i64×Bool×Sl 8 (W .i64)×W .i64×W .i64×Unit
abbrev wD:=Sl 1 (W .u8)×W .u8×W .i64×Unit
abbrev wE:=W .u64×Sl 48 (TLq)×W .i64×W .i64×Unit
abbrev wF:=Sl 48 (TLq)×Unit
abbrev wG:=Sl 1 (W .u8)×Sl 16 (TSb)×W .i64×W .i64×Unit
abbrev wH:=TCore×TRen×W .i64×Unit
abbrev wI:=TCore×Sl 8 (W .u64)×Sl 8 (W .u64)×W .i64×Unit
abbrev wJ:=TCore×Sl 8 (W .u64)×W .i64×Unit
abbrev wL:=TArch×W .i64×Unit
abbrev wM:=W .u32×TCoh×Arr 16 (W .u8)×Arr 16 (W .u8)×W .i64×Unit
abbrev wN:=TCoh×W .i64×W .i64×W .i64×TWay×Sl 8 (W .i64)×W .i64×Unit
abbrev wO:=TCoh×W .i64×W .i64×W .i64×Unit
abbrev wP:=Sl 48 (TLq)×W .i64×Unit
abbrev wQ:=Sl 32 (TSq)×W .u64×W .i64×Unit
abbrev Np:=TCore×TCoh×Sl 8 (W .i64)×Bool×Unit
abbrev Nq:=TCore×Sl 8 (W .i64)×Bool×Unit
abbrev wR:=TCore×TCoh×Sl 8 (W .i64)×Bool×Bool×Unit
abbrev Nr:=TCore×TCoh×Sl 8 (W .i64)×Unit
abbrev wT:=TDuo×W .i64×Unit
abbrev wU:=(TCoh×Bool×W .i64×Unit)⊕(TCoh×Unit×W .i64×Unit)
abbrev aV:=(Bool×Unit)⊕(Unit×Unit)
abbrev cU:=(W .i64×Unit)⊕(Unit×Unit)
abbrev Ns:=Arr 16 (W .i64)×Arr 16 (W .i64)×Unit
abbrev Nt:=W .i64×W .i64×TCache×TCache×W .i64×Sl 40 (TWay)×Unit
abbrev Nu:=TCore×Sl 216 (TRen)×Sl 216 (TRen)×Unit
abbrev Nv:=(Bool×W .i64×Unit)⊕(Unit×W .i64×Unit)
abbrev wV:=(W .i64×Arr 16 (W .i64)×Bool×W .i64×Unit)⊕(W .i64×Arr 16 (W .i64)×Unit×W .i64×Unit)
abbrev Nw:=(TNames×Bool×Arr 16 (W .i64)×Unit)⊕(TNames×Unit×Arr 16 (W .i64)×Unit)
abbrev wW:=Sl 216 (TRen)×W .i64×Bool×Arr 96 (W .i64)×Bool×Unit
abbrev Ny:=TNames×W .i64×Sl 216 (TRen)×Bool×Arr 96 (W .i64)×Bool×((Unit)×(Unit×Unit×Unit×Unit))×((Unit)×(Unit×((Unit)×(Unit×Unit×Unit×Unit))×Unit×Unit×Unit×Unit×Unit))×Unit
abbrev Nz:=TNames×W .i64×Sl 216 (TRen)×Bool×Arr 96 (W .i64)×Bool×((Unit)×(Unit×((Unit)×(Unit×Unit×Unit×Unit))×Unit×Unit×Unit×Unit×Unit))×Unit
abbrev wX:=Sl 8 (W .u64)×Unit
abbrev wY:=Arr 16 (W .u32)×Arr 16 (W .u32)×Unit
abbrev wZ:=(TArch×Bool×Unit)⊕(TArch×Unit×Unit)
abbrev NA:=Sl 8 (W .i64)×W .i64×Bool×Unit
abbrev NB:=(((Unit)×(TCoh×Unit))×Bool×Sl 24 (TCache)×W .i64×W .i64×Sl 24 (Sl 40 (TWay))×W .i64×W .i64×Unit)⊕(((Unit)×(TCoh×Unit))×Unit×Sl 24 (TCache)×W .i64×W .i64×Sl 24 (Sl 40 (TWay))×W .i64×W .i64×Unit)
abbrev NC:=(((Unit)×(TCoh×Unit))×Bool×Sl 24 (TCache)×W .i64×W .i64×Unit)⊕(((Unit)×(TCoh×Unit))×Unit×Sl 24 (TCache)×W .i64×W .i64×Unit)
abbrev ND:=(TCoh×Bool×Unit)⊕(TCoh×Unit×Unit)
abbrev NF:=(Sl 1 (W .u8)×Bool×Sl 24 (TCache)×W .i64×W .i64×Sl 24 (Sl 40 (TWay))×W .i64×W .i64×Unit)⊕(Sl 1 (W .u8)×Unit×Sl 24 (TCache)×W .i64×W .i64×Sl 24 (Sl 40 (TWay))×W .i64×W .i64×Unit)
abbrev NG:=(Sl 1 (W .u8)×Bool×Sl 24 (TCache)×W .i64×W .i64×Unit)⊕(Sl 1 (W .u8)×Unit×Sl 24 (TCache)×W .i64×W .i64×Unit)
abbrev NH:=(Sl 1 (W .u8)×Bool×Unit)⊕(Sl 1 (W .u8)×Unit×Unit)
abbrev NI:=(Sl 248 (TRob)×Bool×Unit)⊕(Sl 248 (TRob)×Unit×Unit)
abbrev NJ:=(W .i64×Bool×Sl 8 (W .i64)×W .i64×Unit)⊕(W .i64×Unit×Sl 8 (W .i64)×W .i64×Unit)
abbrev NK:=W .i64×Sl 216 (TRen)×Sl 8 (W .i64)×Unit
abbrev NL:=W .i64×Sl 8 (W .i64)×Unit
abbrev NM:=(W .i64×Bool×Sl 8 (W .i64)×Unit)⊕(W .i64×Unit×Sl 8 (W .i64)×Unit)
abbrev NN:=(W .i64×Sl 216 (TRen)×TNames×Bool×Arr 16 (W .i64)×Unit)⊕(W .i64×Sl 216 (TRen)×TNames×Unit×Arr 16 (W .i64)×Unit)
abbrev w9:=(TCore×Bool×W .i64×Unit)⊕(TCore×Unit×W .i64×Unit)
abbrev NO:=(TCore×Bool×W .i64×TRen×Unit)⊕(TCore×Unit×W .i64×TRen×Unit)
abbrev NP:=(TCore×Bool×Sl 8 (W .u64)×Unit)⊕(TCore×Unit×Sl 8 (W .u64)×Unit)
abbrev bu:=Unit×Sl 8 (W .i64)×Unit
abbrev NQ:=Sl 40 (TWay)×W .i64×W .i64×Unit
abbrev NR:=(W .i64×TCache×Bool×Sl 40 (TWay)×W .i64×Unit)⊕(W .i64×TCache×Unit×Sl 40 (TWay)×W .i64×Unit)
abbrev NS:=Arr 16 (W .u8)×Arr 16 (W .u8)×Unit
abbrev NT:=(W .i64×W .i64×Bool×Unit)⊕(Unit×Unit×Unit×Unit)
abbrev NU:=(Bool×W .i64×Bool×Unit)⊕(Unit×W .i64×Bool×Unit)
abbrev NV:=TCoh×W .i64×W .i64×W .i64×Sl 8 (W .i64)×Unit
abbrev NW:=(TCoh×Bool×W .i64×W .i64×Unit)⊕(TCoh×Unit×W .i64×W .i64×Unit)
abbrev NX:=Sl 1 (W .u8)×Bool×Unit
abbrev NY:=(TCore×TCoh×Unit×Sl 8 (W .i64)×Unit)⊕(TCore×TCoh×Unit×Sl 8 (W .i64)×Unit)
abbrev NZ:=(TDuo×Bool×Unit)⊕(TDuo×Unit×Unit)
noncomputable section
def Ep (c:TCore):Tree (Bool):=
 .ite (W.le (Sl.len c.Queue) (W.of .i64 20)) (.ite (W.le (Sl.len c.Rob) (W.of .i64 70)) (.ite (W.le (Sl.len c.Iq) (W.of .i64 40)) (.ite (W.le (Sl.len c.Lq) (W.of .i64 20)) (.ite (W.le (Sl.len c.Sq) (W.of .i64 20)) (.ite (W.le (Sl.len c.Sb) (W.of .i64 10)) (.ite (W.le (Sl.len c.Units) (W.of .i64 80)) (.ite (W.le (Sl.len c.Phys.Val) (W.of .i64 100)) (.ite (W.le (Sl.len c.Phys.Ready) (W.of .i64 100)) (.ite (W.le (Sl.len c.Names.Free.Ring) (W.of .i64 100)) (.ite (W.le (Sl.len c.Shadow) (W.of .i64 2048)) (.ite (W.le (Sl.len c.Out) (W.of .i64 100)) (.ite (W.le (Sl.len c.Tlb) (W.of .i64 10)) (.ite (W.le (Sl.len c.Dep) (W.of .i64 20)) (.ite (W.le (Sl.len c.Pred.Table) (W.of .i64 300)) (.ite (W.le (Sl.len c.Pred.Btb) (W.of .i64 20)) (.ret (W.le (Sl.len c.Pred.Ras) (W.of .i64 20)))
 (.ret false))
 (.ret false))
 (.ret false))
 (.ret false))
 (.ret false))
 (.ret false))
 (.ret false))
 (.ret false))
 (.ret false))
 (.ret false))
 (.ret false))
 (.ret false))
 (.ret false))
 (.ret false))
 (.ret false))
 (.ret false)
def sW (c:TCore):Option (Bool):=(Ep c).eval
def qX (m:TCoh) (i k:W .i64):Tree (Rnd gV wU):=
 .opt (Sl.get? m.Caches i) fun y3=>
 .ite (W.lt k (Sl.len y3.Sets)) (.opt (Sl.get? m.Caches i) fun y4=>
 .opt (Sl.get? y4.Sets k) fun y5=>
 .ite (W.gt (Sl.len y5) (W.of .i64 6)) (.ret (.out (.inl (m,false,i,()))))
 (.ret (.next (m,i,(W.add k (W.of .i64 1)),()))))
 (.ret (.out (.inr (m,(),i,()))))
def uo (a:gV):Option wU:=az (fun a:gV=>(qX a.1 a.2.1 a.2.2.1).eval) aa a
def qW (m:TCoh) (i:W .i64):Tree (Rnd fx aV):=
 .ite (W.lt i (Sl.len m.Caches)) (.opt (Sl.get? m.Caches i) fun y2=>
 .ite (W.gt (Sl.len y2.Sets) (W.of .i64 10)) (.ret (.out (.inl (false,()))))
 (.opt (uo ((m,i,(W.of .i64 0),()))) fun o6=>
 .sum o6 (fun p7=>
 .ret (.out (.inl (p7.2.1,()))))
 (fun o8=>
 .ret (.next (o8.1,(W.add o8.2.2.1 (W.of .i64 1)),())))))
 (.ret (.out (.inr ((),()))))
def um (a:fx):Option aV:=az (fun a:fx=>(qW a.1 a.2.1).eval) aa a
def Es (c:TCore) (m:TCoh):Tree (Bool):=
 .opt (sW c) fun r1=>
 .ite (!r1) (.ret false)
 (.ite (W.gt (Sl.len m.Mem) (W.of .i64 2048)) (.ret false)
 (.ite (W.gt (Sl.len m.Caches) (W.of .i64 3)) (.ret false)
 (.opt (um ((m,(W.of .i64 0),()))) fun o9=>
 .sum o9 (fun p10=>
 .ret p10.1)
 (fun o11=>
 .ret true))))
def gB (c:TCore) (m:TCoh):Option (Bool):=(Es c m).eval
def Na :Tree (TConf):=
 .ret (TConf.mk (W.of .i64 2) (W.of .i64 2) (W.of .i64 2) (W.of .i64 2) (W.of .i64 8) (W.of .i64 16) (W.of .i64 8) (W.of .i64 4) (W.of .i64 4) (W.of .i64 4) (W.of .i64 32) (W.of .i64 4) (W.of .i64 4) (W.of .i64 4) (W.of .i64 4) (W.of .i64 4) (W.of .i64 3) (W.of .i64 8) (W.of .i64 4) (W.of .i64 4) (W.of .i64 2) true)
def JJ :Option (TConf):=(Na).eval
def Fq (aB from_1 to_2:W .i64):Tree (Bool):=
 .ite (W.ge aB from_1) (.ret (W.le aB to_2))
 (.ret false)
def bW (aB from_1 to_2:W .i64):Option (Bool):=(Fq aB from_1 to_2).eval
def Jl (t_113:Bool):Tree cU:=
 .ite t_113 (.ret (.inl ((W.of .i64 0),())))
 (.ret (.inr ((),())))
def kv (a:Y1):Option cU:=(Jl a.1).eval
def Jm :Tree Y7:=
 .ret ((W.of .i64 3),())
def ky (a:Unit):Option Y7:=(Jm).eval
def Aq (wide rooms guesses times:Bool):Tree Y7:=
 .ite wide (.ite rooms (.ite guesses (.opt (kv ((times,()))) fun o22=>
 .sum o22 (fun p23=>
 .ret (p23.1,()))
 (fun o24=>
 .opt (ky (())) fun o25=>
 .ret (o25.1,())))
 (.opt (kv ((false,()))) fun o26=>
 .sum o26 (fun p27=>
 .ret (p27.1,()))
 (fun o28=>
 .opt (ky (())) fun o29=>
 .ret (o29.1,()))))
 (.opt (kv ((false,()))) fun o30=>
 .sum o30 (fun p31=>
 .ret (p31.1,()))
 (fun o32=>
 .opt (ky (())) fun o33=>
 .ret (o33.1,()))))
 (.opt (kv ((false,()))) fun o34=>
 .sum o34 (fun p35=>
 .ret (p35.1,()))
 (fun o36=>
 .opt (ky (())) fun o37=>
 .ret (o37.1,())))
def gI (a:Y2):Option Y7:=(Aq a.1 a.2.1 a.2.2.1 a.2.2.2.1).eval
def Ap (c:TConf) (wide rooms guesses:Bool):Tree Y7:=
 .opt (bW c.MulLat (W.of .i64 1) (W.of .i64 32)) fun r17=>
 .ite r17 (.opt (bW c.DivLat (W.of .i64 1) (W.of .i64 32)) fun r18=>
 .ite r18 (.opt (bW c.MemLat (W.of .i64 1) (W.of .i64 32)) fun r19=>
 .ite r19 (.opt (bW c.Sets (W.of .i64 1) (W.of .i64 8)) fun r20=>
 .ite r20 (.opt (bW c.Ways (W.of .i64 1) (W.of .i64 4)) fun r21=>
 .opt (gI ((wide,rooms,guesses,r21,()))) fun o38=>
 .ret (o38.1,()))
 (.opt (gI ((wide,rooms,guesses,false,()))) fun o39=>
 .ret (o39.1,())))
 (.opt (gI ((wide,rooms,guesses,false,()))) fun o40=>
 .ret (o40.1,())))
 (.opt (gI ((wide,rooms,guesses,false,()))) fun o41=>
 .ret (o41.1,())))
 (.opt (gI ((wide,rooms,guesses,false,()))) fun o42=>
 .ret (o42.1,()))
def gH (a:Y3):Option Y7:=(Ap a.1 a.2.1 a.2.2.1 a.2.2.2.1).eval
def Ao (c:TConf) (wide rooms:Bool):Tree Y7:=
 .opt (bW c.Hist (W.of .i64 0) (W.of .i64 8)) fun r12=>
 .ite r12 (.opt (bW c.Btb (W.of .i64 0) (W.of .i64 16)) fun r13=>
 .ite r13 (.opt (bW c.Ras (W.of .i64 0) (W.of .i64 16)) fun r14=>
 .ite r14 (.opt (bW c.Dep (W.of .i64 0) (W.of .i64 16)) fun r15=>
 .ite r15 (.opt (bW c.Tlb (W.of .i64 0) (W.of .i64 8)) fun r16=>
 .opt (gH ((c,wide,rooms,r16,()))) fun o43=>
 .ret (o43.1,()))
 (.opt (gH ((c,wide,rooms,false,()))) fun o44=>
 .ret (o44.1,())))
 (.opt (gH ((c,wide,rooms,false,()))) fun o45=>
 .ret (o45.1,())))
 (.opt (gH ((c,wide,rooms,false,()))) fun o46=>
 .ret (o46.1,())))
 (.opt (gH ((c,wide,rooms,false,()))) fun o47=>
 .ret (o47.1,()))
def fq (a:Y4):Option Y7:=(Ao a.1 a.2.1 a.2.2.1).eval
def An (c:TConf) (wide:Bool):Tree Y7:=
 .opt (bW c.Queue (W.of .i64 1) (W.of .i64 16)) fun r5=>
 .ite r5 (.opt (bW c.Rob (W.of .i64 2) (W.of .i64 64)) fun r6=>
 .ite r6 (.opt (bW c.Iq (W.of .i64 2) (W.of .i64 32)) fun r7=>
 .ite r7 (.opt (bW c.Lq (W.of .i64 1) (W.of .i64 16)) fun r8=>
 .ite r8 (.opt (bW c.Sq (W.of .i64 1) (W.of .i64 16)) fun r9=>
 .ite r9 (.opt (bW c.Sb (W.of .i64 1) (W.of .i64 8)) fun r10=>
 .ite r10 (.opt (bW c.Phys (W.of .i64 18) (W.of .i64 96)) fun r11=>
 .opt (fq ((c,wide,r11,()))) fun o48=>
 .ret (o48.1,()))
 (.opt (fq ((c,wide,false,()))) fun o49=>
 .ret (o49.1,())))
 (.opt (fq ((c,wide,false,()))) fun o50=>
 .ret (o50.1,())))
 (.opt (fq ((c,wide,false,()))) fun o51=>
 .ret (o51.1,())))
 (.opt (fq ((c,wide,false,()))) fun o52=>
 .ret (o52.1,())))
 (.opt (fq ((c,wide,false,()))) fun o53=>
 .ret (o53.1,())))
 (.opt (fq ((c,wide,false,()))) fun o54=>
 .ret (o54.1,()))
def iR (a:TConf×Bool×Unit):Option Y7:=(An a.1 a.2.1).eval
def Fm (c:TConf):Tree (W .i64):=
 .opt (bW c.Fetch (W.of .i64 1) (W.of .i64 4)) fun r1=>
 .ite r1 (.opt (bW c.Wide (W.of .i64 1) (W.of .i64 4)) fun r2=>
 .ite r2 (.opt (bW c.Issue (W.of .i64 1) (W.of .i64 4)) fun r3=>
 .ite r3 (.opt (bW c.Retire (W.of .i64 1) (W.of .i64 4)) fun r4=>
 .opt (iR ((c,r4,()))) fun o55=>
 .ret o55.1)
 (.opt (iR ((c,false,()))) fun o56=>
 .ret o56.1))
 (.opt (iR ((c,false,()))) fun o57=>
 .ret o57.1))
 (.opt (iR ((c,false,()))) fun o58=>
 .ret o58.1)
def mI (c:TConf):Option (W .i64):=(Fm c).eval
def EL (m:Sl 1 (W .u8)):Tree (Bool):=
 .ite (W.eq (W.rem (Sl.len m) (W.of .i64 64)) (W.of .i64 0)) (.ite (W.ge (Sl.len m) (W.of .i64 64)) (.ret (W.le (Sl.len m) (W.of .i64 16384)))
 (.ret false))
 (.ret false)
def mr (m:Sl 1 (W .u8)):Option (Bool):=(EL m).eval
def MM (aB:W .i64):Tree (W .u32):=
 .ite (W.eq aB (W.of .i64 0)) (.ret (W.of .u32 63))
 (.ite (W.eq aB (W.of .i64 1)) (.ret (W.of .u32 31))
 (.ite (W.eq aB (W.of .i64 9)) (.ret (W.of .u32 7))
 (.ite (W.eq aB (W.of .i64 10)) (.ret (W.of .u32 7))
 (.ite (W.eq aB (W.of .i64 5)) (.ret (W.of .u32 4294967232))
 (.ite (W.lt aB (W.of .i64 0)) (.ret (W.of .u32 0))
 (.ite (W.gt aB (W.of .i64 11)) (.ret (W.of .u32 0))
 (.ret (W.of .u32 4294967295))))))))
def mu (aB:W .i64):Option (W .u32):=(MM aB).eval
def I9 (m:TMach) (i:W .i64):Tree (Rnd xX aV):=
 .ite (W.lt i (W.of .i64 12)) (.opt (aI 12 i) fun j2=>
 .opt (mu i) fun r3=>
 .opt (aI 12 i) fun j4=>
 .ite (W.ne (W.and (Arr.get m.A.C j2) r3) (Arr.get m.A.C j4)) (.ret (.out (.inl (false,()))))
 (.ret (.next (m,(W.add i (W.of .i64 1)),()))))
 (.ret (.out (.inr ((),()))))
def L6 (a:xX):Option aV:=az (fun a:xX=>(I9 a.1 a.2.1).eval) aa a
def MN (m:TMach):Tree (Bool):=
 .opt (mr m.Mem) fun r1=>
 .ite (!r1) (.ret false)
 (.ite (W.ne (Sl.len m.Shadow) (Sl.len m.Mem)) (.ret false)
 (.ite (W.ne (Arr.get m.A.R 0) (W.of .u32 0)) (.ret false)
 (.opt (L6 ((m,(W.of .i64 0),()))) fun o5=>
 .sum o5 (fun p6=>
 .ret p6.1)
 (fun o7=>
 .ret true))))
def Jw (m:TMach):Option (Bool):=(MN m).eval
def EN (c:TConf):Tree (W .i64):=
 .ret (W.min (W.max c.Hist (W.of .i64 0)) (W.of .i64 8))
def AR (c:TConf):Option (W .i64):=(EN c).eval
def MP (bits:W .i64):Tree (W .i64):=
 .ret (W.min (W.max bits (W.of .i64 0)) (W.of .i64 8))
def Jx (bits:W .i64):Option (W .i64):=(MP bits).eval
def Jb (bits n_3 i:W .i64):Tree (Rnd Y6 Y7):=
 .opt (Jx bits) fun r1=>
 .ite (W.lt i r1) (.ret (.next (bits,(W.mul (W.of .i64 2) n_3),(W.add i (W.of .i64 1)),())))
 (.ret (.out (n_3,())))
def L8 (a:Y6):Option Y7:=az (fun a:Y6=>(Jb a.1 a.2.1 a.2.2.1).eval) aa a
def MQ (bits:W .i64):Tree (W .i64):=
 .opt (L8 ((bits,(W.of .i64 1),(W.of .i64 0),()))) fun o2=>
 .ret o2.1
def kd (bits:W .i64):Option (W .i64):=(MQ bits).eval
def Ja (bits:W .i64) (out:Sl 1 (W .u8)) (i:W .i64):Tree (Rnd hM cV):=
 .opt (kd bits) fun r1=>
 .ite (W.lt i r1) (.opt (Sl.app? out (Sl.lit 1 [(W.of .u8 1)] rfl:Sl 1 (W .u8))) fun l2=>
 .ret (.next (bits,l2,(W.add i (W.of .i64 1)),())))
 (.ret (.out (out,())))
def L7 (a:hM):Option cV:=az (fun a:hM=>(Ja a.1 a.2.1 a.2.2.1).eval) aa a
def MO (bits:W .i64):Tree (Sl 1 (W .u8)):=
 .opt (L7 ((bits,(Sl.nil:Sl 1 (W .u8)),(W.of .i64 0),()))) fun o3=>
 .ret o3.1
def AO (bits:W .i64):Option (Sl 1 (W .u8)):=(MO bits).eval
def MS (aB low high:W .i64):Tree (W .i64):=
 .ite (W.lt aB low) (.ret low)
 (.ite (W.gt aB high) (.ret high)
 (.ret aB))
def Jy (aB low high:W .i64):Option (W .i64):=(MS aB low high).eval
def MR (aB:W .i64):Tree (Sl 16 (TBtb)):=
 .opt (Jy aB (W.of .i64 0) (W.of .i64 16)) fun r1=>
 .opt (Sl.make? 16 (TBtb.mk (W.of .u32 0) (W.of .u32 0) (W.of .i64 0)) r1 r1) fun l2=>
 .ret l2
def AP (aB:W .i64):Option (Sl 16 (TBtb)):=(MR aB).eval
def Jc (aB:W .i64) (out:Sl 4 (W .u32)) (i:W .i64):Tree (Rnd xz (Sl 4 (W .u32)×Unit)):=
 .ite (W.lt i aB) (.ite (W.lt i (W.of .i64 16)) (.opt (Sl.app? out (Sl.lit 4 [(W.of .u32 0)] rfl:Sl 4 (W .u32))) fun l1=>
 .ret (.next (aB,l1,(W.add i (W.of .i64 1)),())))
 (.ret (.out (out,()))))
 (.ret (.out (out,())))
def L9 (a:xz):Option (Sl 4 (W .u32)×Unit):=az (fun a:xz=>(Jc a.1 a.2.1 a.2.2.1).eval) aa a
def MT (aB:W .i64):Tree (Sl 4 (W .u32)):=
 .opt (L9 ((aB,(Sl.lit 4 [] rfl:Sl 4 (W .u32)),(W.of .i64 0),()))) fun o2=>
 .ret o2.1
def AQ (aB:W .i64):Option (Sl 4 (W .u32)):=(MT aB).eval
def EO (c:TConf):Tree (TPred):=
 .opt (AR c) fun r1=>
 .opt (AO r1) fun r2=>
 .opt (AP c.Btb) fun r3=>
 .opt (AQ c.Ras) fun r4=>
 .ret (TPred.mk (W.of .u32 0) r2 r3 (W.of .i64 0) r4 (W.of .i64 0))
def mw (c:TConf):Option (TPred):=(EO c).eval
def MV (aB low high:W .i64):Tree (W .i64):=
 .ite (W.lt aB low) (.ret low)
 (.ite (W.gt aB high) (.ret high)
 (.ret aB))
def JA (aB low high:W .i64):Option (W .i64):=(MV aB low high).eval
def MU (aB:W .i64):Tree (Sl 24 (TTlb)):=
 .opt (JA aB (W.of .i64 0) (W.of .i64 8)) fun r1=>
 .opt (Sl.make? 24 (TTlb.mk false (W.of .u32 0) (TPte.mk (W.of .u32 0) (W.of .i64 0))) r1 r1) fun l2=>
 .ret l2
def Jz (aB:W .i64):Option (Sl 24 (TTlb)):=(MU aB).eval
def Jh (aB:W .i64) (out:Sl 1 (W .u8)) (i:W .i64):Tree (Rnd hM cV):=
 .ite (W.lt i aB) (.ite (W.lt i (W.of .i64 16)) (.opt (Sl.app? out (Sl.lit 1 [(W.of .u8 0)] rfl:Sl 1 (W .u8))) fun l1=>
 .ret (.next (aB,l1,(W.add i (W.of .i64 1)),())))
 (.ret (.out (out,()))))
 (.ret (.out (out,())))
def Me (a:hM):Option cV:=az (fun a:hM=>(Jh a.1 a.2.1 a.2.2.1).eval) aa a
def M6 (aB:W .i64):Tree (Sl 1 (W .u8)):=
 .opt (Me ((aB,(Sl.nil:Sl 1 (W .u8)),(W.of .i64 0),()))) fun o2=>
 .ret o2.1
def JG (aB:W .i64):Option (Sl 1 (W .u8)):=(M6 aB).eval
def Je (t_0 m:Arr 16 (W .i64)) (r:W .i64):Tree (Rnd xY Ns):=
 .ite (W.lt r (W.of .i64 16)) (.opt (aI 16 r) fun j1=>
 .ret (.next (t_0,(Arr.set m j1 r),(W.add r (W.of .i64 1)),())))
 (.ret (.out (t_0,m,())))
def Mb (a:xY):Option Ns:=az (fun a:xY=>(Je a.1 a.2.1 a.2.2.1).eval) aa a
def MY :Tree (Arr 16 (W .i64)):=
 .opt (Mb (((Arr.rep 16 (W.of .i64 0):Arr 16 (W .i64)),(Arr.lit 16 [(W.of .i64 0),(W.of .i64 0),(W.of .i64 0),(W.of .i64 0),(W.of .i64 0),(W.of .i64 0),(W.of .i64 0),(W.of .i64 0),(W.of .i64 0),(W.of .i64 0),(W.of .i64 0),(W.of .i64 0),(W.of .i64 0),(W.of .i64 0),(W.of .i64 0),(W.of .i64 0)] rfl:Arr 16 (W .i64)),(W.of .i64 0),()))) fun o2=>
 .ret (Arr.set o2.2.1 0 (W.of .i64 (-1)))
def AU :Option (Arr 16 (W .i64)):=(MY).eval
def MX (aB low high:W .i64):Tree (W .i64):=
 .ite (W.lt aB low) (.ret low)
 (.ite (W.gt aB high) (.ret high)
 (.ret aB))
def AS (aB low high:W .i64):Option (W .i64):=(MX aB low high).eval
def Jd (t_4:TFree) (u:W .i64) (f:TFree) (i:W .i64):Tree (Rnd Y8 (TFree×TFree×Unit)):=
 .ite (W.lt i f.N) (.opt (aI (List.length f.Ring.l) i) fun j4=>
 .ret (.next (t_4,u,({ f with Ring:=(Sl.set f.Ring j4 (W.add u i)) }:TFree),(W.add i (W.of .i64 1)),())))
 (.ret (.out (t_4,f,())))
def Ma (a:Y8):Option (TFree×TFree×Unit):=az (fun a:Y8=>(Jd a.1 a.2.1 a.2.2.1 a.2.2.2.1).eval) aa a
def MW (aB used:W .i64):Tree (TFree):=
 .opt (AS aB (W.of .i64 0) (W.of .i64 96)) fun r1=>
 .opt (AS used (W.of .i64 0) r1) fun r2=>
 .opt (Sl.make? 8 (W.of .i64 0) r1 r1) fun l3=>
 .opt (Ma (((TFree.mk (Sl.nil:Sl 8 (W .i64)) (W.of .i64 0) (W.of .i64 0)),r2,(TFree.mk l3 (W.of .i64 0) (W.sub r1 r2)),(W.of .i64 0),()))) fun o5=>
 .ret o5.2.1
def JB (aB used:W .i64):Option (TFree):=(MW aB used).eval
def M5 (aB:W .i64):Tree (TNames):=
 .opt (AU) fun r1=>
 .opt (AU) fun r2=>
 .opt (JB aB (W.of .i64 16)) fun r3=>
 .ret (TNames.mk r1 r2 r3 (W.of .u64 1))
def JF (aB:W .i64):Option (TNames):=(M5 aB).eval
def Jf (aB:W .i64) (t_2 f:TPhys) (i:W .i64):Tree (Rnd wq (TPhys×TPhys×Unit)):=
 .ite (W.lt i aB) (.ite (W.lt i (W.of .i64 96)) (.opt (Sl.app? f.Val (Sl.lit 4 [(W.of .u32 0)] rfl:Sl 4 (W .u32))) fun l1=>
 .opt (Sl.app? f.Ready (Sl.lit 1 [true] rfl:Sl 1 (Bool))) fun l2=>
 .ret (.next (aB,t_2,(TPhys.mk l1 l2),(W.add i (W.of .i64 1)),())))
 (.ret (.out (t_2,f,()))))
 (.ret (.out (t_2,f,())))
def Mc (a:wq):Option (TPhys×TPhys×Unit):=az (fun a:wq=>(Jf a.1 a.2.1 a.2.2.1 a.2.2.2.1).eval) aa a
def M0 (aB:W .i64):Tree (TPhys):=
 .opt (Mc ((aB,(TPhys.mk (Sl.nil:Sl 4 (W .u32)) (Sl.nil:Sl 1 (Bool))),(TPhys.mk (Sl.nil:Sl 4 (W .u32)) (Sl.nil:Sl 1 (Bool))),(W.of .i64 0),()))) fun o3=>
 .ret o3.2.1
def JC (aB:W .i64):Option (TPhys):=(M0 aB).eval
def M3 (f:TPhys):Tree (TPhys):=
 .ret (TPhys.mk f.Val f.Ready)
def JE (f:TPhys):Option (TPhys):=(M3 f).eval
def M4 (f:TPhys) (p:W .i64):Tree (Bool):=
 .ite (W.ge p (W.of .i64 0)) (.ite (W.lt p (Sl.len f.Val)) (.ret (W.lt p (Sl.len f.Ready)))
 (.ret false))
 (.ret false)
def AW (f:TPhys) (p:W .i64):Option (Bool):=(M4 f p).eval
def M1 (f:TPhys) (p:W .i64) (v:W .u32):Tree (TPhys):=
 .opt (JE f) fun r1=>
 .opt (AW f p) fun r2=>
 .ite r2 (.opt (aI (List.length r1.Val.l) p) fun j3=>
 .opt (aI (List.length r1.Ready.l) p) fun j4=>
 .ret (TPhys.mk (Sl.set r1.Val j3 v) (Sl.set r1.Ready j4 true)))
 (.ret r1)
def JD (f:TPhys) (p:W .i64) (v:W .u32):Option (TPhys):=(M1 f p v).eval
def Jn (m:TMach) (t_4 x:TCore) (r:W .i64):Tree (Rnd vQ (TCore×TCore×Unit)):=
 .ite (W.lt r (W.of .i64 16)) (.opt (aI 16 r) fun j8=>
 .opt (JD x.Phys r (Arr.get m.A.R j8)) fun r9=>
 .ret (.next (m,t_4,({ x with Phys:=r9 }:TCore),(W.add r (W.of .i64 1)),())))
 (.ret (.out (t_4,x,())))
def Mh (a:vQ):Option (TCore×TCore×Unit):=az (fun a:vQ=>(Jn a.1 a.2.1 a.2.2.1 a.2.2.2.1).eval) aa a
def M9 (c:TConf) (m:TMach):Tree (TCore×W .i64):=
 .opt (mI c) fun r1=>
 .ite (W.ne r1 (W.of .i64 0)) (.ret ((TCore.mk (TConf.mk (W.of .i64 0) (W.of .i64 0) (W.of .i64 0) (W.of .i64 0) (W.of .i64 0) (W.of .i64 0) (W.of .i64 0) (W.of .i64 0) (W.of .i64 0) (W.of .i64 0) (W.of .i64 0) (W.of .i64 0) (W.of .i64 0) (W.of .i64 0) (W.of .i64 0) (W.of .i64 0) (W.of .i64 0) (W.of .i64 0) (W.of .i64 0) (W.of .i64 0) (W.of .i64 0) false) (TArch.mk (W.of .u32 0) (Arr.rep 16 (W.of .u32 0):Arr 16 (W .u32)) (Arr.rep 12 (W.of .u32 0):Arr 12 (W .u32)) false) (Sl.nil:Sl 1 (W .u8)) (Sl.nil:Sl 4 (W .u32)) (W.of .u32 0) false (TPred.mk (W.of .u32 0) (Sl.nil:Sl 1 (W .u8)) (Sl.nil:Sl 16 (TBtb)) (W.of .i64 0) (Sl.nil:Sl 4 (W .u32)) (W.of .i64 0)) (Sl.nil:Sl 24 (TTlb)) (W.of .i64 0) (Sl.nil:Sl 56 (TSlot)) (TNames.mk (Arr.rep 16 (W.of .i64 0):Arr 16 (W .i64)) (Arr.rep 16 (W.of .i64 0):Arr 16 (W .i64)) (TFree.mk (Sl.nil:Sl 8 (W .i64)) (W.of .i64 0) (W.of .i64 0)) (W.of .u64 0)) (TPhys.mk (Sl.nil:Sl 4 (W .u32)) (Sl.nil:Sl 1 (Bool))) (Sl.nil:Sl 248 (TRob)) (Sl.nil:Sl 224 (TIq)) (Sl.nil:Sl 48 (TLq)) (Sl.nil:Sl 32 (TSq)) (Sl.nil:Sl 16 (TSb)) (Sl.nil:Sl 256 (TFlight)) (Sl.nil:Sl 1 (W .u8)) (W.of .i64 0) (W.of .i64 0)),(W.of .i64 3)))
 (.opt (Jw m) fun r2=>
 .ite (!r2) (.ret ((TCore.mk (TConf.mk (W.of .i64 0) (W.of .i64 0) (W.of .i64 0) (W.of .i64 0) (W.of .i64 0) (W.of .i64 0) (W.of .i64 0) (W.of .i64 0) (W.of .i64 0) (W.of .i64 0) (W.of .i64 0) (W.of .i64 0) (W.of .i64 0) (W.of .i64 0) (W.of .i64 0) (W.of .i64 0) (W.of .i64 0) (W.of .i64 0) (W.of .i64 0) (W.of .i64 0) (W.of .i64 0) false) (TArch.mk (W.of .u32 0) (Arr.rep 16 (W.of .u32 0):Arr 16 (W .u32)) (Arr.rep 12 (W.of .u32 0):Arr 12 (W .u32)) false) (Sl.nil:Sl 1 (W .u8)) (Sl.nil:Sl 4 (W .u32)) (W.of .u32 0) false (TPred.mk (W.of .u32 0) (Sl.nil:Sl 1 (W .u8)) (Sl.nil:Sl 16 (TBtb)) (W.of .i64 0) (Sl.nil:Sl 4 (W .u32)) (W.of .i64 0)) (Sl.nil:Sl 24 (TTlb)) (W.of .i64 0) (Sl.nil:Sl 56 (TSlot)) (TNames.mk (Arr.rep 16 (W.of .i64 0):Arr 16 (W .i64)) (Arr.rep 16 (W.of .i64 0):Arr 16 (W .i64)) (TFree.mk (Sl.nil:Sl 8 (W .i64)) (W.of .i64 0) (W.of .i64 0)) (W.of .u64 0)) (TPhys.mk (Sl.nil:Sl 4 (W .u32)) (Sl.nil:Sl 1 (Bool))) (Sl.nil:Sl 248 (TRob)) (Sl.nil:Sl 224 (TIq)) (Sl.nil:Sl 48 (TLq)) (Sl.nil:Sl 32 (TSq)) (Sl.nil:Sl 16 (TSb)) (Sl.nil:Sl 256 (TFlight)) (Sl.nil:Sl 1 (W .u8)) (W.of .i64 0) (W.of .i64 0)),(W.of .i64 1)))
 (.opt (mw c) fun r3=>
 .opt (Jz c.Tlb) fun r4=>
 .opt (JG c.Dep) fun r5=>
 .opt (JF c.Phys) fun r6=>
 .opt (JC c.Phys) fun r7=>
 .opt (Mh ((m,(TCore.mk (TConf.mk (W.of .i64 0) (W.of .i64 0) (W.of .i64 0) (W.of .i64 0) (W.of .i64 0) (W.of .i64 0) (W.of .i64 0) (W.of .i64 0) (W.of .i64 0) (W.of .i64 0) (W.of .i64 0) (W.of .i64 0) (W.of .i64 0) (W.of .i64 0) (W.of .i64 0) (W.of .i64 0) (W.of .i64 0) (W.of .i64 0) (W.of .i64 0) (W.of .i64 0) (W.of .i64 0) false) (TArch.mk (W.of .u32 0) (Arr.rep 16 (W.of .u32 0):Arr 16 (W .u32)) (Arr.rep 12 (W.of .u32 0):Arr 12 (W .u32)) false) (Sl.nil:Sl 1 (W .u8)) (Sl.nil:Sl 4 (W .u32)) (W.of .u32 0) false (TPred.mk (W.of .u32 0) (Sl.nil:Sl 1 (W .u8)) (Sl.nil:Sl 16 (TBtb)) (W.of .i64 0) (Sl.nil:Sl 4 (W .u32)) (W.of .i64 0)) (Sl.nil:Sl 24 (TTlb)) (W.of .i64 0) (Sl.nil:Sl 56 (TSlot)) (TNames.mk (Arr.rep 16 (W.of .i64 0):Arr 16 (W .i64)) (Arr.rep 16 (W.of .i64 0):Arr 16 (W .i64)) (TFree.mk (Sl.nil:Sl 8 (W .i64)) (W.of .i64 0) (W.of .i64 0)) (W.of .u64 0)) (TPhys.mk (Sl.nil:Sl 4 (W .u32)) (Sl.nil:Sl 1 (Bool))) (Sl.nil:Sl 248 (TRob)) (Sl.nil:Sl 224 (TIq)) (Sl.nil:Sl 48 (TLq)) (Sl.nil:Sl 32 (TSq)) (Sl.nil:Sl 16 (TSb)) (Sl.nil:Sl 256 (TFlight)) (Sl.nil:Sl 1 (W .u8)) (W.of .i64 0) (W.of .i64 0)),(TCore.mk c m.A m.Shadow m.Out m.A.PC false r3 r4 (W.of .i64 0) (Sl.nil:Sl 56 (TSlot)) r6 r7 (Sl.nil:Sl 248 (TRob)) (Sl.nil:Sl 224 (TIq)) (Sl.nil:Sl 48 (TLq)) (Sl.nil:Sl 32 (TSq)) (Sl.nil:Sl 16 (TSb)) (Sl.nil:Sl 256 (TFlight)) r5 (W.of .i64 0) (W.of .i64 0)),(W.of .i64 1),()))) fun o10=>
 .ret (o10.2.1,(W.of .i64 0))))
def JI (c:TConf) (m:TMach):Option (TCore×W .i64):=(M9 c m).eval
def Ji (sets ways:W .i64) (t_4 c:TCache) (i:W .i64) (l_7:Sl 40 (TWay)) (k:W .i64):Tree (Rnd xB Nt):=
 .ite (W.lt k (W.min (W.max ways (W.of .i64 1)) (W.of .i64 4))) (.opt (Sl.app? l_7 (Sl.lit 40 [(TWay.mk (W.of .i64 0) (W.of .u32 0) (Arr.rep 16 (W.of .u8 0):Arr 16 (W .u8)) k)] rfl:Sl 40 (TWay))) fun l1=>
 .ret (.next (sets,ways,t_4,c,i,l1,(W.add k (W.of .i64 1)),())))
 (.ret (.out (sets,ways,t_4,c,i,l_7,())))
def Mf (a:xB):Option Nt:=az (fun a:xB=>(Ji a.1 a.2.1 a.2.2.1 a.2.2.2.1 a.2.2.2.2.1 a.2.2.2.2.2.1 a.2.2.2.2.2.2.1).eval) aa a
def Jj (sets ways:W .i64) (t_4 c:TCache) (i:W .i64):Tree (Rnd xC (TCache×TCache×Unit)):=
 .ite (W.lt i (W.min (W.max sets (W.of .i64 1)) (W.of .i64 8))) (.opt (Mf ((sets,ways,t_4,c,i,(Sl.nil:Sl 40 (TWay)),(W.of .i64 0),()))) fun o2=>
 .opt (Sl.app? o2.2.2.2.1.Sets (Sl.lit 24 [o2.2.2.2.2.2.1] rfl:Sl 24 (Sl 40 (TWay)))) fun l3=>
 .ret (.next (o2.1,o2.2.1,o2.2.2.1,(TCache.mk l3),(W.add o2.2.2.2.2.1 (W.of .i64 1)),())))
 (.ret (.out (t_4,c,())))
def Mg (a:xC):Option (TCache×TCache×Unit):=az (fun a:xC=>(Jj a.1 a.2.1 a.2.2.1 a.2.2.2.1 a.2.2.2.2.1).eval) aa a
def M7 (sets ways:W .i64):Tree (TCache):=
 .opt (Mg ((sets,ways,(TCache.mk (Sl.nil:Sl 24 (Sl 40 (TWay)))),(TCache.mk (Sl.nil:Sl 24 (Sl 40 (TWay)))),(W.of .i64 0),()))) fun o4=>
 .ret o4.2.1
def AY (sets ways:W .i64):Option (TCache):=(M7 sets ways).eval
def M8 (m:Sl 1 (W .u8)) (sets ways cores:W .i64):Tree (TCoh):=
 .opt (AY sets ways) fun r1=>
 .ite (W.gt cores (W.of .i64 1)) (.opt (AY sets ways) fun r2=>
 .opt (Sl.app? (Sl.lit 24 [r1] rfl:Sl 24 (TCache)) (Sl.lit 24 [r2] rfl:Sl 24 (TCache))) fun l3=>
 .ret (TCoh.mk m l3))
 (.ret (TCoh.mk m (Sl.lit 24 [r1] rfl:Sl 24 (TCache))))
def JH (m:Sl 1 (W .u8)) (sets ways cores:W .i64):Option (TCoh):=(M8 m sets ways cores).eval
def D8 (c:TConf):Tree (Sl 24 (TBound)):=
 .ret (Sl.lit 24 [(TBound.mk c.Fetch (W.of .i64 1) (W.of .i64 4)),(TBound.mk c.Wide (W.of .i64 1) (W.of .i64 4)),(TBound.mk c.Issue (W.of .i64 1) (W.of .i64 4)),(TBound.mk c.Retire (W.of .i64 1) (W.of .i64 4)),(TBound.mk c.Queue (W.of .i64 1) (W.of .i64 16)),(TBound.mk c.Rob (W.of .i64 2) (W.of .i64 64)),(TBound.mk c.Iq (W.of .i64 2) (W.of .i64 32)),(TBound.mk c.Lq (W.of .i64 1) (W.of .i64 16)),(TBound.mk c.Sq (W.of .i64 1) (W.of .i64 16)),(TBound.mk c.Sb (W.of .i64 1) (W.of .i64 8)),(TBound.mk c.Phys (W.of .i64 18) (W.of .i64 96)),(TBound.mk c.Hist (W.of .i64 0) (W.of .i64 8)),(TBound.mk c.Btb (W.of .i64 0) (W.of .i64 16)),(TBound.mk c.Ras (W.of .i64 0) (W.of .i64 16)),(TBound.mk c.Dep (W.of .i64 0) (W.of .i64 16)),(TBound.mk c.Tlb (W.of .i64 0) (W.of .i64 8)),(TBound.mk c.MulLat (W.of .i64 1) (W.of .i64 32)),(TBound.mk c.DivLat (W.of .i64 1) (W.of .i64 32)),(TBound.mk c.MemLat (W.of .i64 1) (W.of .i64 32)),(TBound.mk c.Sets (W.of .i64 1) (W.of .i64 8)),(TBound.mk c.Ways (W.of .i64 1) (W.of .i64 4))] rfl:Sl 24 (TBound))
def AJ (c:TConf):Option (Sl 24 (TBound)):=(D8 c).eval
def D5 (b:TBound):Tree (Bool):=
 .ite (W.lt b.n_ b.least) (.ret true)
 (.ret (W.gt b.n_ b.most))
def sN (b:TBound):Option (Bool):=(D5 b).eval
def lS (s:Sl 24 (TBound)) (t_7 t_8:W .i64):Tree (Rnd xZ cU):=
 .ite (W.lt t_8 t_7) (.opt (Sl.get? s t_8) fun y1=>
 .opt (sN y1) fun r2=>
 .ite r2 (.ret (.out (.inl (t_8,()))))
 (.ret (.next (s,((),()),t_7,(W.add t_8 (W.of .i64 1)),()))))
 (.ret (.out (.inr ((),()))))
def vf (a:xZ):Option cU:=az (fun a:xZ=>(lS a.1 a.2.2.1 a.2.2.2.1).eval) aa a
def FZ (s:Sl 24 (TBound)):Tree (W .i64):=
 .opt (vf ((s,((),()),(Sl.len s),(W.of .i64 0),()))) fun o3=>
 .sum o3 (fun p4=>
 .ret p4.1)
 (fun o5=>
 .ret (W.of .i64 (-1)))
def A7 (s:Sl 24 (TBound)):Option (W .i64):=(FZ s).eval
def FN (s:Sl 24 (TBound)):Tree (Bool):=
 .opt (A7 s) fun r1=>
 .ret (W.ge r1 (W.of .i64 0))
def tN (s:Sl 24 (TBound)):Option (Bool):=(FN s).eval
def D4 (c:TConf):Tree (W .i64):=
 .opt (AJ c) fun r1=>
 .opt (tN r1) fun r2=>
 .ite r2 (.ret (W.of .i64 3))
 (.ret (W.of .i64 0))
def sM (c:TConf):Option (W .i64):=(D4 c).eval
def Ef (c:TCore):Tree (Bool):=
 .opt (sM c.Conf) fun r1=>
 .ite (W.ne r1 (W.of .i64 0)) (.ret false)
 (.ite (W.gt (Sl.len c.Queue) c.Conf.Queue) (.ret false)
 (.ite (W.gt (Sl.len c.Rob) c.Conf.Rob) (.ret false)
 (.ite (W.gt (Sl.len c.Iq) c.Conf.Iq) (.ret false)
 (.ite (W.gt (Sl.len c.Lq) c.Conf.Lq) (.ret false)
 (.ite (W.gt (Sl.len c.Sq) c.Conf.Sq) (.ret false)
 (.ite (W.gt (Sl.len c.Sb) c.Conf.Sb) (.ret false)
 (.ite (W.eq (Sl.len c.Phys.Val) c.Conf.Phys) (.ite (W.eq (Sl.len c.Phys.Ready) c.Conf.Phys) (.ite (W.eq (Sl.len c.Tlb) c.Conf.Tlb) (.ret (W.eq (Sl.len c.Dep) c.Conf.Dep))
 (.ret false))
 (.ret false))
 (.ret false))))))))
def sS (c:TCore):Option (Bool):=(Ef c).eval
def qQ (c:TCore) (iq units:Sl 216 (TRen)) (t_9:Sl 224 (TIq)) (t_10 t_11:W .i64):Tree (Rnd wu Nu):=
 .ite (W.lt t_11 t_10) (.opt (Sl.get? t_9 t_11) fun y1=>
 .opt (Sl.app? iq (Sl.lit 216 [y1.Ren] rfl:Sl 216 (TRen))) fun l2=>
 .ret (.next (c,l2,units,t_9,t_10,(W.add t_11 (W.of .i64 1)),())))
 (.ret (.out (c,iq,units,())))
def ui (a:wu):Option Nu:=az (fun a:wu=>(qQ a.1 a.2.1 a.2.2.1 a.2.2.2.1 a.2.2.2.2.1 a.2.2.2.2.2.1).eval) aa a
def qP (iq units:Sl 216 (TRen)) (t_22:Sl 256 (TFlight)) (t_23 t_24:W .i64):Tree (Rnd wv xI):=
 .ite (W.lt t_24 t_23) (.opt (Sl.get? t_22 t_24) fun y4=>
 .opt (Sl.app? units (Sl.lit 216 [y4.Ren] rfl:Sl 216 (TRen))) fun l5=>
 .ret (.next (iq,l5,t_22,t_23,(W.add t_24 (W.of .i64 1)),())))
 (.ret (.out (iq,units,())))
def uh (a:wv):Option xI:=az (fun a:wv=>(qP a.1 a.2.1 a.2.2.1 a.2.2.2.1 a.2.2.2.2.1).eval) aa a
def Ed (c:TCore):Tree (Sl 216 (TRen)×Sl 216 (TRen)):=
 .opt (ui ((c,(Sl.nil:Sl 216 (TRen)),(Sl.nil:Sl 216 (TRen)),c.Iq,(Sl.len c.Iq),(W.of .i64 0),()))) fun o3=>
 .opt (uh ((o3.2.1,o3.2.2.1,o3.1.Units,(Sl.len o3.1.Units),(W.of .i64 0),()))) fun o6=>
 .ret (o6.1,o6.2.1)
def sQ (c:TCore):Option (Sl 216 (TRen)×Sl 216 (TRen)):=(Ed c).eval
def sg (last:W .u64) (part:W .i64) (t_7:Sl 248 (TRob)) (t_8 t_9:W .i64):Tree (Rnd vR Nv):=
 .ite (W.lt t_9 t_8) (.opt (Sl.get? t_7 t_9) fun y1=>
 .ite (W.le y1.Ren.Seq last) (.ret (.out (.inl (false,part,()))))
 (.ite (W.ne y1.Ren.Uop.Part part) (.ret (.out (.inl (false,part,()))))
 (.ite y1.Ren.Uop.Last (.ret (.next (y1.Ren.Seq,(W.of .i64 0),t_7,t_8,(W.add t_9 (W.of .i64 1)),())))
 (.ret (.next (y1.Ren.Seq,(W.add part (W.of .i64 1)),t_7,t_8,(W.add t_9 (W.of .i64 1)),()))))))
 (.ret (.out (.inr ((),part,()))))
def kG (a:vR):Option Nv:=az (fun a:vR=>(sg a.1 a.2.1 a.2.2.1 a.2.2.2.1 a.2.2.2.2.1).eval) aa a
def FG (l_0:Sl 248 (TRob)):Tree (Bool):=
 .opt (kG (((W.of .u64 0),(W.of .i64 0),l_0,(Sl.len l_0),(W.of .i64 0),()))) fun o2=>
 .sum o2 (fun p3=>
 .ret p3.1)
 (fun o4=>
 .ret (W.eq o4.2.1 (W.of .i64 0)))
def tH (l_0:Sl 248 (TRob)):Option (Bool):=(FG l_0).eval
def Ec (c:TCore):Tree (Bool):=
 .opt (tH c.Rob) fun r1=>
 .ite r1 (.ite (W.eq (Sl.len c.Rob) (W.of .i64 0)) (.ret true)
 (.opt (Sl.get? c.Rob (W.sub (Sl.len c.Rob) (W.of .i64 1))) fun y2=>
 .ret (W.lt y2.Ren.Seq c.Names.Seq)))
 (.ret false)
def sP (c:TCore):Option (Bool):=(Ec c).eval
def qR (l_3:Sl 216 (TRen)) (t_7:Sl 248 (TRob)) (t_8 t_9:W .i64):Tree (Rnd wx (Sl 216 (TRen)×Unit)):=
 .ite (W.lt t_9 t_8) (.opt (Sl.get? t_7 t_9) fun y1=>
 .opt (Sl.app? l_3 (Sl.lit 216 [y1.Ren] rfl:Sl 216 (TRen))) fun l2=>
 .ret (.next (l2,t_7,t_8,(W.add t_9 (W.of .i64 1)),())))
 (.ret (.out (l_3,())))
def uj (a:wx):Option (Sl 216 (TRen)×Unit):=az (fun a:wx=>(qR a.1 a.2.1 a.2.2.1 a.2.2.2.1).eval) aa a
def Ee (c:TCore):Tree (Sl 216 (TRen)):=
 .opt (uj (((Sl.nil:Sl 216 (TRen)),c.Rob,(Sl.len c.Rob),(W.of .i64 0),()))) fun o3=>
 .ret o3.1
def sR (c:TCore):Option (Sl 216 (TRen)):=(Ee c).eval
def re (n_1:W .i64) (m:Arr 16 (W .i64)) (r q:W .i64):Tree (Rnd gY wV):=
 .ite (W.lt q r) (.opt (aI 16 q) fun j1=>
 .opt (aI 16 r) fun j2=>
 .ite (W.eq (Arr.get m j1) (Arr.get m j2)) (.ret (.out (.inl (n_1,m,false,r,()))))
 (.ret (.next (n_1,m,r,(W.add q (W.of .i64 1)),()))))
 (.ret (.out (.inr (n_1,m,(),r,()))))
def mX (a:gY):Option wV:=az (fun a:gY=>(re a.1 a.2.1 a.2.2.1 a.2.2.2.1).eval) aa a
def z8 (n_1:W .i64) (m:Arr 16 (W .i64)) (r:W .i64):Tree (Rnd gZ aV):=
 .ite (W.lt r (W.of .i64 16)) (.opt (mX ((n_1,m,r,(W.of .i64 1),()))) fun o3=>
 .sum o3 (fun p4=>
 .ret (.out (.inl (p4.2.2.1,()))))
 (fun o5=>
 .opt (aI 16 o5.2.2.2.1) fun j6=>
 .ite (W.lt (Arr.get o5.2.1 j6) (W.of .i64 1)) (.ret (.out (.inl (false,()))))
 (.opt (aI 16 o5.2.2.2.1) fun j7=>
 .ite (W.ge (Arr.get o5.2.1 j7) o5.1) (.ret (.out (.inl (false,()))))
 (.ret (.next (o5.1,o5.2.1,(W.add o5.2.2.2.1 (W.of .i64 1)),()))))))
 (.ret (.out (.inr ((),()))))
def mW (a:gZ):Option aV:=az (fun a:gZ=>(z8 a.1 a.2.1 a.2.2.1).eval) aa a
def EH (m:Arr 16 (W .i64)) (n_1:W .i64):Tree (Bool):=
 .ite (W.ne (Arr.get m 0) (W.of .i64 (-1))) (.ret false)
 (.opt (mW ((n_1,m,(W.of .i64 1),()))) fun o8=>
 .sum o8 (fun p9=>
 .ret p9.1)
 (fun o10=>
 .ret true))
def mn (m:Arr 16 (W .i64)) (n_1:W .i64):Option (Bool):=(EH m n_1).eval
def Eo (f:TFree):Tree (Bool):=
 .ite (W.le (Sl.len f.Ring) (W.of .i64 96)) (.ite (W.ge f.Head (W.of .i64 0)) (.ite (W.lt f.Head (Sl.len f.Ring)) (.ite (W.ge f.N (W.of .i64 0)) (.ret (W.le f.N (Sl.len f.Ring)))
 (.ret false))
 (.ite (W.eq f.Head (W.of .i64 0)) (.ite (W.ge f.N (W.of .i64 0)) (.ret (W.le f.N (Sl.len f.Ring)))
 (.ret false))
 (.ret false)))
 (.ret false))
 (.ret false)
def mi (f:TFree):Option (Bool):=(Eo f).eval
def En (f:TFree) (k:W .i64):Tree (W .i64):=
 .opt (W.rem? (W.add f.Head k) (Sl.len f.Ring)) fun z1=>
 .opt (W.rem? (W.add z1 (Sl.len f.Ring)) (Sl.len f.Ring)) fun z2=>
 .ret z2
def sV (f:TFree) (k:W .i64):Option (W .i64):=(En f k).eval
def qT (f placef0:TFree) (out:Sl 8 (W .i64)) (t_12 t_13:W .i64):Tree (Rnd xE cq):=
 .ite (W.lt t_13 t_12) (.opt (sV placef0 t_13) fun r2=>
 .opt (Sl.get? f.Ring r2) fun y3=>
 .opt (Sl.app? out (Sl.lit 8 [y3] rfl:Sl 8 (W .i64))) fun l4=>
 .ret (.next (f,((placef0,()),()),l4,t_12,(W.add t_13 (W.of .i64 1)),())))
 (.ret (.out (out,())))
def mR (a:xE):Option cq:=az (fun a:xE=>(qT a.1 a.2.1.1.1 a.2.2.1 a.2.2.2.1 a.2.2.2.2.1).eval) aa a
def El (f:TFree):Tree (Sl 8 (W .i64)):=
 .opt (mi f) fun r1=>
 .ite (!r1) (.ret (Sl.nil:Sl 8 (W .i64)))
 (.opt (mR ((f,((f,()),()),(Sl.nil:Sl 8 (W .i64)),f.N,(W.of .i64 0),()))) fun o5=>
 .ret o5.1)
def mh (f:TFree):Option (Sl 8 (W .i64)):=(El f).eval
def qU (n_1:W .i64) (seen:Arr 96 (Bool)) (t_19:Sl 8 (W .i64)) (t_20 t_21:W .i64):Tree (Rnd v3 aV):=
 .ite (W.lt t_21 t_20) (.opt (Sl.get? t_19 t_21) fun y3=>
 .ite (W.lt y3 (W.of .i64 0)) (.ret (.out (.inl (false,()))))
 (.ite (W.ge y3 n_1) (.ret (.out (.inl (false,()))))
 (.opt (aI 96 y3) fun j4=>
 .ite (Arr.get seen j4) (.ret (.out (.inl (false,()))))
 (.opt (aI 96 y3) fun j5=>
 .ret (.next (n_1,(Arr.set seen j5 true),t_19,t_20,(W.add t_21 (W.of .i64 1)),()))))))
 (.ret (.out (.inr ((),()))))
def mS (a:v3):Option aV:=az (fun a:v3=>(qU a.1 a.2.1 a.2.2.1 a.2.2.2.1 a.2.2.2.2.1).eval) aa a
def Em (f:TFree) (n_1:W .i64):Tree (Bool):=
 .opt (mi f) fun r1=>
 .ite (!r1) (.ret false)
 (.ite (W.ne (Sl.len f.Ring) n_1) (.ret false)
 (.opt (mh f) fun r2=>
 .opt (mS ((n_1,(Arr.rep 96 false:Arr 96 (Bool)),r2,(Sl.len r2),(W.of .i64 0),()))) fun o6=>
 .sum o6 (fun p7=>
 .ret p7.1)
 (fun o8=>
 .ret true)))
def sU (f:TFree) (n_1:W .i64):Option (Bool):=(Em f n_1).eval
def FC (p a:W .i64) (a_2:Bool) (a_3:Arr 96 (W .i64)):Tree (W .i64×Bool×Arr 96 (W .i64)):=
 .ite (W.lt p (W.of .i64 1)) (.ret (a,true,a_3))
 (.ite (W.ge p a) (.ret (a,true,a_3))
 (.opt (aI 96 p) fun j1=>
 .opt (aI 96 p) fun j2=>
 .ret (a,a_2,(Arr.set a_3 j2 (W.add (Arr.get a_3 j1) (W.of .i64 1))))))
def kl (p a:W .i64) (a_2:Bool) (a_3:Arr 96 (W .i64)):Option (W .i64×Bool×Arr 96 (W .i64)):=(FC p a a_2 a_3).eval
def FF (u:TUop):Tree (Bool):=
 .ite (W.ge u.Dst (W.of .i64 1)) (.ret (W.lt u.Dst (W.of .i64 16)))
 (.ret false)
def tG (u:TUop):Option (Bool):=(FF u).eval
def EJ (r:W .i64):Tree (Bool):=
 .ite (W.gt r (W.of .i64 0)) (.ret (W.lt r (W.of .i64 16)))
 (.ret false)
def mq (r:W .i64):Option (Bool):=(EJ r).eval
def EG (m:Arr 16 (W .i64)) (r:W .i64):Tree (W .i64):=
 .opt (mq r) fun r1=>
 .ite (!r1) (.ret (W.of .i64 (-1)))
 (.opt (aI 16 r) fun j2=>
 .ret (Arr.get m j2))
def tf (m:Arr 16 (W .i64)) (r:W .i64):Option (W .i64):=(EG m r).eval
def EI (m:Arr 16 (W .i64)) (r p:W .i64):Tree (Arr 16 (W .i64)):=
 .opt (mq r) fun r1=>
 .ite r1 (.opt (aI 16 r) fun j2=>
 .ret (Arr.set m j2 p))
 (.ret m)
def th (m:Arr 16 (W .i64)) (r p:W .i64):Option (Arr 16 (W .i64)):=(EI m r p).eval
def sf (s:TNames) (m:Arr 16 (W .i64)) (last:W .u64) (t_11:Sl 216 (TRen)) (t_12 t_13:W .i64):Tree (Rnd xF Nw):=
 .ite (W.lt t_13 t_12) (.opt (Sl.get? t_11 t_13) fun y1=>
 .ite (W.le y1.Seq last) (.ret (.out (.inl (s,false,m,()))))
 (.ite (W.ge y1.Seq s.Seq) (.ret (.out (.inl (s,false,m,()))))
 (.opt (tG y1.Uop) fun r2=>
 .ite (!r2) (.ite (W.ne y1.Out (W.of .i64 (-1))) (.ret (.out (.inl (s,false,m,()))))
 (.ite (W.ne y1.Old (W.of .i64 (-1))) (.ret (.out (.inl (s,false,m,()))))
 (.ret (.next (s,m,y1.Seq,t_11,t_12,(W.add t_13 (W.of .i64 1)),())))))
 (.ite (W.eq y1.Out (W.of .i64 (-1))) (.ret (.out (.inl (s,false,m,()))))
 (.opt (tf m y1.Uop.Dst) fun r3=>
 .ite (W.ne y1.Old r3) (.ret (.out (.inl (s,false,m,()))))
 (.opt (th m y1.Uop.Dst y1.Out) fun r4=>
 .ret (.next (s,r4,y1.Seq,t_11,t_12,(W.add t_13 (W.of .i64 1)),()))))))))
 (.ret (.out (.inr (s,(),m,()))))
def kF (a:xF):Option Nw:=az (fun a:xF=>(sf a.1 a.2.1 a.2.2.1 a.2.2.2.1 a.2.2.2.2.1 a.2.2.2.2.2.1).eval) aa a
def FE (s:TNames) (flying:Sl 216 (TRen)):Tree (Bool):=
 .opt (kF ((s,s.Done,(W.of .u64 0),flying,(Sl.len flying),(W.of .i64 0),()))) fun o5=>
 .sum o5 (fun p6=>
 .ret p6.2.1)
 (fun o7=>
 .ret (Tab.eq ab (.arr 16 (.int .i64)) o7.2.2.1 o7.1.Map))
def tF (s:TNames) (flying:Sl 216 (TRen)):Option (Bool):=(FE s flying).eval
def se (t_0:Sl 216 (TRen)) (t_2:W .i64) (t_3:Bool) (t_4:Arr 96 (W .i64)) (t_5:Bool) (i:W .i64):Tree (Rnd wK wW):=
 .ite (W.ge i (W.of .i64 0)) (.opt (Sl.get? t_0 i) fun y1=>
 .ite (W.ne y1.Out (W.of .i64 (-1))) (.opt (Sl.get? t_0 i) fun y2=>
 .opt (kl y2.Out t_2 t_5 t_4) fun r3=>
 .ret (.next (t_0,((),((),(),(),())),r3.1,t_3,r3.2.2,r3.2.1,(W.sub i (W.of .i64 1)),())))
 (.ret (.next (t_0,((),((),(),(),())),t_2,t_3,t_4,t_5,(W.sub i (W.of .i64 1)),()))))
 (.ret (.out (t_0,t_2,t_3,t_4,t_5,())))
def kD (a:wK):Option wW:=az (fun a:wK=>(se a.1 a.2.2.1 a.2.2.2.1 a.2.2.2.2.1 a.2.2.2.2.2.1 a.2.2.2.2.2.2.1).eval) aa a
def sd (t_0:Sl 216 (TRen)) (t_2:W .i64) (t_3:Bool) (t_4:Arr 96 (W .i64)) (t_5:Bool) (p:W .i64):Tree (Rnd wS wW):=
 .ite (W.lt p t_2) (.ite t_3 (.opt (aI 96 p) fun j5=>
 .ret (.next (t_0,t_2,(W.eq (Arr.get t_4 j5) (W.of .i64 1)),t_4,t_5,(W.add p (W.of .i64 1)),())))
 (.ret (.next (t_0,t_2,false,t_4,t_5,(W.add p (W.of .i64 1)),()))))
 (.ret (.out (t_0,t_2,t_3,t_4,t_5,())))
def kC (a:wS):Option wW:=az (fun a:wS=>(sd a.1 a.2.1 a.2.2.1 a.2.2.2.1 a.2.2.2.2.1 a.2.2.2.2.2.1).eval) aa a
def FD (a:Sl 216 (TRen)) (a_2:W .i64) (a_3:Bool) (a_4:Arr 96 (W .i64)) (a_5:Bool):Tree (Sl 216 (TRen)×W .i64×Bool×Arr 96 (W .i64)×Bool):=
 .opt (kD ((a,((),((),(),(),())),a_2,a_3,a_4,a_5,(W.sub (Sl.len a) (W.of .i64 1)),()))) fun o4=>
 .opt (kC ((o4.1,o4.2.1,o4.2.2.1,o4.2.2.2.1,o4.2.2.2.2.1,(W.of .i64 1),()))) fun o6=>
 .ite o6.2.2.1 (.ret (o6.1,o6.2.1,(!o6.2.2.2.2.1),o6.2.2.2.1,o6.2.2.2.2.1))
 (.ret (o6.1,o6.2.1,false,o6.2.2.2.1,o6.2.2.2.2.1))
def A1 (a:Sl 216 (TRen)) (a_2:W .i64) (a_3:Bool) (a_4:Arr 96 (W .i64)) (a_5:Bool):Option (Sl 216 (TRen)×W .i64×Bool×Arr 96 (W .i64)×Bool):=(FD a a_2 a_3 a_4 a_5).eval
def sc (s:TNames) (n_4:W .i64) (flying:Sl 216 (TRen)) (ok:Bool) (times:Arr 96 (W .i64)) (strange:Bool) (t_44:Sl 8 (W .i64)) (t_45 t_46:W .i64):Tree (Rnd w8 Ny):=
 .ite (W.lt t_46 t_45) (.opt (Sl.get? t_44 t_46) fun y5=>
 .opt (kl y5 n_4 strange times) fun r6=>
 .ret (.next (s,r6.1,flying,ok,r6.2.2,r6.2.1,((),((),(),(),())),((),((),((),((),(),(),())),(),(),(),(),())),t_44,t_45,(W.add t_46 (W.of .i64 1)),())))
 (.ret (.out (s,n_4,flying,ok,times,strange,((),((),(),(),())),((),((),((),((),(),(),())),(),(),(),(),())),())))
def kB (a:w8):Option Ny:=az (fun a:w8=>(sc a.1 a.2.1 a.2.2.1 a.2.2.2.1 a.2.2.2.2.1 a.2.2.2.2.2.1 a.2.2.2.2.2.2.2.2.1 a.2.2.2.2.2.2.2.2.2.1 a.2.2.2.2.2.2.2.2.2.2.1).eval) aa a
def AB (s:TNames) (n_4:W .i64) (flying:Sl 216 (TRen)) (ok:Bool) (times:Arr 96 (W .i64)) (strange:Bool) (r:W .i64):Tree (Rnd xd Nz):=
 .ite (W.lt r (W.of .i64 16)) (.opt (aI 16 r) fun j8=>
 .opt (kl (Arr.get s.Done j8) n_4 strange times) fun r9=>
 .ret (.next (s,r9.1,flying,ok,r9.2.2,r9.2.1,((),((),(),(),())),(W.add r (W.of .i64 1)),((),((),((),((),(),(),())),(),(),(),(),())),())))
 (.ret (.out (s,n_4,flying,ok,times,strange,((),((),((),((),(),(),())),(),(),(),(),())),())))
def kE (a:xd):Option Nz:=az (fun a:xd=>(AB a.1 a.2.1 a.2.2.1 a.2.2.2.1 a.2.2.2.2.1 a.2.2.2.2.2.1 a.2.2.2.2.2.2.2.1).eval) aa a
def FB (s:TNames) (n_1:W .i64) (flying:Sl 216 (TRen)):Tree (Bool):=
 .ite (W.le n_1 (W.of .i64 16)) (.ret false)
 (.ite (W.gt n_1 (W.of .i64 96)) (.ret false)
 (.opt (mn s.Map n_1) fun r1=>
 .ite (!r1) (.ret false)
 (.opt (mn s.Done n_1) fun r2=>
 .ite (!r2) (.ret false)
 (.opt (sU s.Free n_1) fun r3=>
 .ite (!r3) (.ret false)
 (.opt (mh s.Free) fun r4=>
 .opt (kB ((s,n_1,flying,false,(Arr.rep 96 (W.of .i64 0):Arr 96 (W .i64)),false,((),((),(),(),())),((),((),((),((),(),(),())),(),(),(),(),())),r4,(Sl.len r4),(W.of .i64 0),()))) fun o7=>
 .opt (kE ((o7.1,o7.2.1,o7.2.2.1,o7.2.2.2.1,o7.2.2.2.2.1,o7.2.2.2.2.2.1,((),((),(),(),())),(W.of .i64 1),((),((),((),((),(),(),())),(),(),(),(),())),()))) fun o10=>
 .opt (tF o10.1 o10.2.2.1) fun r11=>
 .opt (A1 o10.2.2.1 o10.2.1 r11 o10.2.2.2.2.1 o10.2.2.2.2.2.1) fun r12=>
 .ret r12.2.2.1)))))
def tE (s:TNames) (n_1:W .i64) (flying:Sl 216 (TRen)):Option (Bool):=(FB s n_1 flying).eval
def Ek (e:TRob) (a:TRen):Tree (Bool):=
 .ite (Tab.eq ab (.named .TRen) e.Ren a) (.ret (!e.Done))
 (.ret false)
def mf (e:TRob) (a:TRen):Option (Bool):=(Ek e a).eval
def sv (s:Sl 248 (TRob)) (fc0:TRen) (t_7 t_8:W .i64):Tree (Rnd xe cU):=
 .ite (W.lt t_8 t_7) (.opt (Sl.get? s t_8) fun y1=>
 .opt (mf y1 fc0) fun r2=>
 .ite r2 (.ret (.out (.inl (t_8,()))))
 (.ret (.next (s,((),(fc0,())),t_7,(W.add t_8 (W.of .i64 1)),()))))
 (.ret (.out (.inr ((),()))))
def nH (a:xe):Option cU:=az (fun a:xe=>(sv a.1 a.2.1.2.1 a.2.2.1 a.2.2.2.1).eval) aa a
def FX (s:Sl 248 (TRob)) (fc0:TRen):Tree (W .i64):=
 .opt (nH ((s,((),(fc0,())),(Sl.len s),(W.of .i64 0),()))) fun o3=>
 .sum o3 (fun p4=>
 .ret p4.1)
 (fun o5=>
 .ret (W.of .i64 (-1)))
def A6 (s:Sl 248 (TRob)) (fc0:TRen):Option (W .i64):=(FX s fc0).eval
def FM (s:Sl 248 (TRob)) (fc0:TRen):Tree (Bool):=
 .opt (A6 s fc0) fun r1=>
 .ret (W.ge r1 (W.of .i64 0))
def tM (s:Sl 248 (TRob)) (fc0:TRen):Option (Bool):=(FM s fc0).eval
def Ej (c:TCore) (r:TRen):Tree (Bool):=
 .opt (tM c.Rob r) fun r1=>
 .ret r1
def sT (c:TCore) (r:TRen):Option (Bool):=(Ej c r).eval
def qO (c:TCore) (seen:List (W .u64×W .i64)) (t_9:Sl 216 (TRen)) (t_10 t_11:W .i64):Tree (Rnd xh aV):=
 .ite (W.lt t_11 t_10) (.opt (Sl.get? t_9 t_11) fun y1=>
 .ite (W.gt (Option.getD (bT (W.eq) (ej (W.eq) seen y1.Seq (W.add (Option.getD (bT (W.eq) seen y1.Seq) (W.of .i64 0)) (W.of .i64 1))) y1.Seq) (W.of .i64 0)) (W.of .i64 1)) (.ret (.out (.inl (false,()))))
 (.opt (sT c y1) fun r2=>
 .ite (!r2) (.ret (.out (.inl (false,()))))
 (.ret (.next (c,(ej (W.eq) seen y1.Seq (W.add (Option.getD (bT (W.eq) seen y1.Seq) (W.of .i64 0)) (W.of .i64 1))),t_9,t_10,(W.add t_11 (W.of .i64 1)),())))))
 (.ret (.out (.inr ((),()))))
def ug (a:xh):Option aV:=az (fun a:xh=>(qO a.1 a.2.1 a.2.2.1 a.2.2.2.1 a.2.2.2.2.1).eval) aa a
def Ea (c:TCore) (l_1:Sl 216 (TRen)):Tree (Bool):=
 .opt (ug ((c,([]:List (W .u64×W .i64)),l_1,(Sl.len l_1),(W.of .i64 0),()))) fun o3=>
 .sum o3 (fun p4=>
 .ret p4.1)
 (fun o5=>
 .ret true)
def ma (c:TCore) (l_1:Sl 216 (TRen)):Option (Bool):=(Ea c l_1).eval
def MA (s a:TRen):Tree (Bool):=
 .ret (W.eq a.Seq s.Seq)
def AH (s a:TRen):Option (Bool):=(MA s a).eval
def sr (s:Sl 216 (TRen)) (fc0:TRen) (t_7 t_8:W .i64):Tree (Rnd xG cU):=
 .ite (W.lt t_8 t_7) (.opt (Sl.get? s t_8) fun y1=>
 .opt (AH y1 fc0) fun r2=>
 .ite r2 (.ret (.out (.inl (t_8,()))))
 (.ret (.next (s,((),(fc0,())),t_7,(W.add t_8 (W.of .i64 1)),()))))
 (.ret (.out (.inr ((),()))))
def nD (a:xG):Option cU:=az (fun a:xG=>(sr a.1 a.2.1.2.1 a.2.2.1 a.2.2.2.1).eval) aa a
def FV (s:Sl 216 (TRen)) (fc0:TRen):Tree (W .i64):=
 .opt (nD ((s,((),(fc0,())),(Sl.len s),(W.of .i64 0),()))) fun o3=>
 .sum o3 (fun p4=>
 .ret p4.1)
 (fun o5=>
 .ret (W.of .i64 (-1)))
def A4 (s:Sl 216 (TRen)) (fc0:TRen):Option (W .i64):=(FV s fc0).eval
def FK (s:Sl 216 (TRen)) (fc0:TRen):Tree (Bool):=
 .opt (A4 s fc0) fun r1=>
 .ret (W.ge r1 (W.of .i64 0))
def tK (s:Sl 216 (TRen)) (fc0:TRen):Option (Bool):=(FK s fc0).eval
def D7 (r:TRen) (a:Sl 216 (TRen)):Tree (Bool):=
 .opt (tK a r) fun r1=>
 .ret r1
def lZ (r:TRen) (a:Sl 216 (TRen)):Option (Bool):=(D7 r a).eval
def ss (s fc0:Sl 216 (TRen)) (t_7 t_8:W .i64):Tree (Rnd vU cU):=
 .ite (W.lt t_8 t_7) (.opt (Sl.get? s t_8) fun y1=>
 .opt (lZ y1 fc0) fun r2=>
 .ite r2 (.ret (.out (.inl (t_8,()))))
 (.ret (.next (s,((),(fc0,())),t_7,(W.add t_8 (W.of .i64 1)),()))))
 (.ret (.out (.inr ((),()))))
def nF (a:vU):Option cU:=az (fun a:vU=>(ss a.1 a.2.1.2.1 a.2.2.1 a.2.2.2.1).eval) aa a
def FU (s fc0:Sl 216 (TRen)):Tree (W .i64):=
 .opt (nF ((s,((),(fc0,())),(Sl.len s),(W.of .i64 0),()))) fun o3=>
 .sum o3 (fun p4=>
 .ret p4.1)
 (fun o5=>
 .ret (W.of .i64 (-1)))
def A3 (s fc0:Sl 216 (TRen)):Option (W .i64):=(FU s fc0).eval
def FJ (s fc0:Sl 216 (TRen)):Tree (Bool):=
 .opt (A3 s fc0) fun r1=>
 .ret (W.ge r1 (W.of .i64 0))
def tJ (s fc0:Sl 216 (TRen)):Option (Bool):=(FJ s fc0).eval
def D6 (a b:Sl 216 (TRen)):Tree (Bool):=
 .opt (tJ a b) fun r1=>
 .ret (!r1)
def sO (a b:Sl 216 (TRen)):Option (Bool):=(D6 a b).eval
def qS (unit:W .i64) (l_5:Sl 8 (W .u64)) (t_9:Sl 248 (TRob)) (t_10 t_11:W .i64):Tree (Rnd vV wX):=
 .ite (W.lt t_11 t_10) (.opt (Sl.get? t_9 t_11) fun y1=>
 .ite (W.eq y1.Ren.Uop.Unit unit) (.opt (Sl.app? l_5 (Sl.lit 8 [y1.Ren.Seq] rfl:Sl 8 (W .u64))) fun l2=>
 .ret (.next (unit,l2,t_9,t_10,(W.add t_11 (W.of .i64 1)),())))
 (.ret (.next (unit,l_5,t_9,t_10,(W.add t_11 (W.of .i64 1)),()))))
 (.ret (.out (l_5,())))
def uk (a:vV):Option wX:=az (fun a:vV=>(qS a.1 a.2.1 a.2.2.1 a.2.2.2.1 a.2.2.2.2.1).eval) aa a
def Eg (c:TCore) (unit:W .i64):Tree (Sl 8 (W .u64)):=
 .opt (uk ((unit,(Sl.nil:Sl 8 (W .u64)),c.Rob,(Sl.len c.Rob),(W.of .i64 0),()))) fun o3=>
 .ret o3.1
def mc (c:TCore) (unit:W .i64):Option (Sl 8 (W .u64)):=(Eg c unit).eval
def MB (e:TLq) (n_1:W .u64):Tree (Bool):=
 .ret (W.eq e.Seq n_1)
def Js (e:TLq) (n_1:W .u64):Option (Bool):=(MB e n_1).eval
def sn (s2:Sl 8 (W .u64)) (t_15:Sl 48 (TLq)) (t_16 t_17:W .i64):Tree (Rnd xJ aV):=
 .ite (W.lt t_17 t_16) (.opt (Sl.get? t_15 t_17) fun y1=>
 .opt (Sl.get? s2 t_17) fun y2=>
 .opt (Js y1 y2) fun r3=>
 .ite (!r3) (.ret (.out (.inl (false,()))))
 (.ret (.next (s2,((),()),t_15,t_16,(W.add t_17 (W.of .i64 1)),()))))
 (.ret (.out (.inr ((),()))))
def u9 (a:xJ):Option aV:=az (fun a:xJ=>(sn a.1 a.2.2.1 a.2.2.2.1 a.2.2.2.2.1).eval) aa a
def FQ (s1:Sl 48 (TLq)) (s2:Sl 8 (W .u64)):Tree (Bool):=
 .ite (W.ne (Sl.len s1) (Sl.len s2)) (.ret false)
 (.opt (u9 ((s2,((),()),s1,(Sl.len s1),(W.of .i64 0),()))) fun o4=>
 .sum o4 (fun p5=>
 .ret p5.1)
 (fun o6=>
 .ret true))
def tQ (s1:Sl 48 (TLq)) (s2:Sl 8 (W .u64)):Option (Bool):=(FQ s1 s2).eval
def MC (e:TSq) (n_1:W .u64):Tree (Bool):=
 .ret (W.eq e.Seq n_1)
def Jt (e:TSq) (n_1:W .u64):Option (Bool):=(MC e n_1).eval
def so (s2:Sl 8 (W .u64)) (t_15:Sl 32 (TSq)) (t_16 t_17:W .i64):Tree (Rnd xk aV):=
 .ite (W.lt t_17 t_16) (.opt (Sl.get? t_15 t_17) fun y1=>
 .opt (Sl.get? s2 t_17) fun y2=>
 .opt (Jt y1 y2) fun r3=>
 .ite (!r3) (.ret (.out (.inl (false,()))))
 (.ret (.next (s2,((),()),t_15,t_16,(W.add t_17 (W.of .i64 1)),()))))
 (.ret (.out (.inr ((),()))))
def vc (a:xk):Option aV:=az (fun a:xk=>(so a.1 a.2.2.1 a.2.2.2.1 a.2.2.2.2.1).eval) aa a
def FR (s1:Sl 32 (TSq)) (s2:Sl 8 (W .u64)):Tree (Bool):=
 .ite (W.ne (Sl.len s1) (Sl.len s2)) (.ret false)
 (.opt (vc ((s2,((),()),s1,(Sl.len s1),(W.of .i64 0),()))) fun o4=>
 .sum o4 (fun p5=>
 .ret p5.1)
 (fun o6=>
 .ret true))
def tR (s1:Sl 32 (TSq)) (s2:Sl 8 (W .u64)):Option (Bool):=(FR s1 s2).eval
def Eb (c:TCore):Tree (Bool):=
 .opt (mc c (W.of .i64 5)) fun r1=>
 .opt (tQ c.Lq r1) fun r2=>
 .ite r2 (.opt (mc c (W.of .i64 6)) fun r3=>
 .opt (tR c.Sq r3) fun r4=>
 .ret r4)
 (.ret false)
def mb (c:TCore):Option (Bool):=(Eb c).eval
def EF (f:TPhys) (p:W .i64):Tree (Bool):=
 .ite (W.ge p (W.of .i64 0)) (.ite (W.lt p (Sl.len f.Val)) (.ret (W.lt p (Sl.len f.Ready)))
 (.ret false))
 (.ret false)
def te (f:TPhys) (p:W .i64):Option (Bool):=(EF f p).eval
def ED (f:TPhys) (p:W .i64):Tree (W .u32×Bool):=
 .opt (te f p) fun r1=>
 .ite (!r1) (.ret ((W.of .u32 0),true))
 (.opt (Sl.get? f.Ready p) fun y2=>
 .ite (!y2) (.ret ((W.of .u32 0),false))
 (.opt (Sl.get? f.Val p) fun y3=>
 .ret (y3,true)))
def gC (f:TPhys) (p:W .i64):Option (W .u32×Bool):=(ED f p).eval
def q9 (f:TPhys) (m:Arr 16 (W .i64)) (t_4 out:Arr 16 (W .u32)) (r:W .i64):Tree (Rnd gN wY):=
 .ite (W.lt r (W.of .i64 16)) (.opt (aI 16 r) fun j1=>
 .opt (gC f (Arr.get m j1)) fun r2=>
 .opt (aI 16 r) fun j3=>
 .ret (.next (f,m,t_4,(Arr.set out j3 r2.1),(W.add r (W.of .i64 1)),())))
 (.ret (.out (t_4,out,())))
def mV (a:gN):Option wY:=az (fun a:gN=>(q9 a.1 a.2.1 a.2.2.1 a.2.2.2.1 a.2.2.2.2.1).eval) aa a
def EE (f:TPhys) (m:Arr 16 (W .i64)):Tree (Arr 16 (W .u32)):=
 .opt (mV ((f,m,(Arr.rep 16 (W.of .u32 0):Arr 16 (W .u32)),(Arr.rep 16 (W.of .u32 0):Arr 16 (W .u32)),(W.of .i64 1),()))) fun o4=>
 .ret o4.2.1
def j0 (f:TPhys) (m:Arr 16 (W .i64)):Option (Arr 16 (W .u32)):=(EE f m).eval
def MD (aB:W .i64):Tree (W .u32):=
 .ite (W.lt aB (W.of .i64 0)) (.ret (W.of .u32 0))
 (.ite (W.ge aB (W.of .i64 12)) (.ret (W.of .u32 0))
 (.opt (aI 12 aB) fun j1=>
 .ret (Arr.get (Arr.lit 12 [(W.of .u32 63),(W.of .u32 31),(W.of .u32 4294967295),(W.of .u32 4294967295),(W.of .u32 4294967295),(W.of .u32 4294967232),(W.of .u32 4294967295),(W.of .u32 4294967295),(W.of .u32 4294967295),(W.of .u32 7),(W.of .u32 7),(W.of .u32 4294967295)] rfl:Arr 12 (W .u32)) j1)))
def mg (aB:W .i64):Option (W .u32):=(MD aB).eval
def qN (a:TArch) (t_6:Arr 12 (W .u32)) (t_7:W .i64):Tree (Rnd wy wZ):=
 .ite (W.lt t_7 (W.of .i64 12)) (.opt (aI 12 t_7) fun j1=>
 .opt (mg t_7) fun r2=>
 .ite (W.ne (W.andNot (Arr.get t_6 j1) r2) (W.of .u32 0)) (.ret (.out (.inl (a,false,()))))
 (.ret (.next (a,t_6,(W.add t_7 (W.of .i64 1)),()))))
 (.ret (.out (.inr (a,(),()))))
def kp (a:wy):Option wZ:=az (fun a:wy=>(qN a.1 a.2.1 a.2.2.1).eval) aa a
def D9 (a:TArch):Tree (Bool):=
 .opt (kp ((a,a.C,(W.of .i64 0),()))) fun o3=>
 .sum o3 (fun p4=>
 .ret p4.2.1)
 (fun o5=>
 .ret (W.eq (Arr.get o5.1.R 0) (W.of .u32 0)))
def l9 (a:TArch):Option (Bool):=(D9 a).eval
def Ei (e:TRob) (a:TCore):Tree (Bool):=
 .opt (gC a.Phys e.Ren.Out) fun r1=>
 .ite e.Done (.ite (W.eq e.Cause (W.of .i64 0)) (.ite (W.ne e.Ren.Out (W.of .i64 (-1))) (.ite (!r1.2) (.ret true)
 (.ret (W.ne r1.1 e.Val)))
 (.ret false))
 (.ret false))
 (.ret false)
def me (e:TRob) (a:TCore):Option (Bool):=(Ei e a).eval
def su (s:Sl 248 (TRob)) (fc0:TCore) (t_7 t_8:W .i64):Tree (Rnd xK cU):=
 .ite (W.lt t_8 t_7) (.opt (Sl.get? s t_8) fun y1=>
 .opt (me y1 fc0) fun r2=>
 .ite r2 (.ret (.out (.inl (t_8,()))))
 (.ret (.next (s,((),(fc0,())),t_7,(W.add t_8 (W.of .i64 1)),()))))
 (.ret (.out (.inr ((),()))))
def nG (a:xK):Option cU:=az (fun a:xK=>(su a.1 a.2.1.2.1 a.2.2.1 a.2.2.2.1).eval) aa a
def FW (s:Sl 248 (TRob)) (fc0:TCore):Tree (W .i64):=
 .opt (nG ((s,((),(fc0,())),(Sl.len s),(W.of .i64 0),()))) fun o3=>
 .sum o3 (fun p4=>
 .ret p4.1)
 (fun o5=>
 .ret (W.of .i64 (-1)))
def A5 (s:Sl 248 (TRob)) (fc0:TCore):Option (W .i64):=(FW s fc0).eval
def FL (s:Sl 248 (TRob)) (fc0:TCore):Tree (Bool):=
 .opt (A5 s fc0) fun r1=>
 .ret (W.ge r1 (W.of .i64 0))
def tL (s:Sl 248 (TRob)) (fc0:TCore):Option (Bool):=(FL s fc0).eval
def Eh (c:TCore):Tree (Bool):=
 .opt (tL c.Rob c) fun r1=>
 .ret (!r1)
def md (c:TCore):Option (Bool):=(Eh c).eval
def I8 (l_5:Sl 8 (W .i64)) (t_55:Sl 1 (Bool)) (t_56 t_57:W .i64):Tree (Rnd gP cq):=
 .ite (W.lt t_57 t_56) (.opt (aI (List.length t_55.l) t_57) fun j13=>
 .ite (!(List.getD t_55.l j13 false)) (.opt (Sl.app? l_5 (Sl.lit 8 [(W.add t_57 (W.of .i64 2))] rfl:Sl 8 (W .i64))) fun l14=>
 .ret (.next (l14,t_55,t_56,(W.add t_57 (W.of .i64 1)),())))
 (.ret (.next (l_5,t_55,t_56,(W.add t_57 (W.of .i64 1)),()))))
 (.ret (.out (l_5,())))
def ko (a:gP):Option cq:=az (fun a:gP=>(I8 a.1 a.2.1 a.2.2.1 a.2.2.2.1).eval) aa a
def D3 (c:TCore):Tree (Sl 8 (W .i64)):=
 .opt (sS c) fun r1=>
 .ite (!r1) (.ret (Sl.lit 8 [(W.of .i64 1)] rfl:Sl 8 (W .i64)))
 (.opt (sQ c) fun r2=>
 .opt (sP c) fun r3=>
 .opt (sR c) fun r4=>
 .opt (tE c.Names c.Conf.Phys r4) fun r5=>
 .opt (ma c r2.1) fun r6=>
 .opt (ma c r2.2) fun r7=>
 .ite r7 (.opt (sO r2.1 r2.2) fun r8=>
 .opt (mb c) fun r9=>
 .opt (j0 c.Phys c.Names.Done) fun r10=>
 .opt (l9 c.A) fun r11=>
 .opt (md c) fun r12=>
 .opt (ko (((Sl.nil:Sl 8 (W .i64)),(Sl.lit 1 [r3,r5,r6,r8,r9,(Tab.eq ab (.arr 16 (.int .u32)) r10 c.A.R),r11,r12] rfl:Sl 1 (Bool)),(W.of .i64 8),(W.of .i64 0),()))) fun o15=>
 .ret o15.1)
 (.opt (mb c) fun r16=>
 .opt (j0 c.Phys c.Names.Done) fun r17=>
 .opt (l9 c.A) fun r18=>
 .opt (md c) fun r19=>
 .opt (ko (((Sl.nil:Sl 8 (W .i64)),(Sl.lit 1 [r3,r5,r6,false,r16,(Tab.eq ab (.arr 16 (.int .u32)) r17 c.A.R),r18,r19] rfl:Sl 1 (Bool)),(W.of .i64 8),(W.of .i64 0),()))) fun o20=>
 .ret o20.1))
def sL (c:TCore):Option (Sl 8 (W .i64)):=(D3 c).eval
def sy (s:Sl 8 (W .i64)) (v t_7 t_8:W .i64):Tree (Rnd gM cU):=
 .ite (W.lt t_8 t_7) (.opt (Sl.get? s t_8) fun y1=>
 .ite (W.eq v y1) (.ret (.out (.inl (t_8,()))))
 (.ret (.next (s,v,t_7,(W.add t_8 (W.of .i64 1)),()))))
 (.ret (.out (.inr ((),()))))
def vh (a:gM):Option cU:=az (fun a:gM=>(sy a.1 a.2.1 a.2.2.1 a.2.2.2.1).eval) aa a
def F4 (s:Sl 8 (W .i64)) (v:W .i64):Tree (W .i64):=
 .opt (vh ((s,v,(Sl.len s),(W.of .i64 0),()))) fun o2=>
 .sum o2 (fun p3=>
 .ret p3.1)
 (fun o4=>
 .ret (W.of .i64 (-1)))
def A9 (s:Sl 8 (W .i64)) (v:W .i64):Option (W .i64):=(F4 s v).eval
def FP (s:Sl 8 (W .i64)) (v:W .i64):Tree (Bool):=
 .opt (A9 s v) fun r1=>
 .ret (W.ge r1 (W.of .i64 0))
def tP (s:Sl 8 (W .i64)) (v:W .i64):Option (Bool):=(FP s v).eval
def Ev (m:Sl 1 (W .u8)):Tree (Bool):=
 .ite (W.ge (Sl.len m) (W.of .i64 64)) (.ite (W.le (Sl.len m) (W.of .i64 16384)) (.ret (W.eq (W.rem (Sl.len m) (W.of .i64 64)) (W.of .i64 0)))
 (.ret false))
 (.ret false)
def sY (m:Sl 1 (W .u8)):Option (Bool):=(Ev m).eval
def DQ (c:TCache) (line:W .u32):Tree (W .i64):=
 .ite (W.eq (Sl.len c.Sets) (W.of .i64 0)) (.ret (W.of .i64 0))
 (.opt (W.rem? (W.conv (.u64) line) (W.conv (.u64) (Sl.len c.Sets))) fun z1=>
 .ret (W.conv (.i64) z1))
def iJ (c:TCache) (line:W .u32):Option (W .i64):=(DQ c line).eval
def DR (c:TCache) (line:W .u32):Tree (Sl 40 (TWay)):=
 .ite (W.eq (Sl.len c.Sets) (W.of .i64 0)) (.ret (Sl.nil:Sl 40 (TWay)))
 (.opt (iJ c line) fun r1=>
 .opt (Sl.get? c.Sets r1) fun y2=>
 .ret y2)
def sD (c:TCache) (line:W .u32):Option (Sl 40 (TWay)):=(DR c line).eval
def DM (w:TWay) (a:W .u32):Tree (Bool):=
 .ite (W.eq w.Tag a) (.ret (W.ne w.State (W.of .i64 0)))
 (.ret false)
def sC (w:TWay) (a:W .u32):Option (Bool):=(DM w a).eval
def sw (s:Sl 40 (TWay)) (fc0:W .u32) (t_7 t_8:W .i64):Tree (Rnd wA cU):=
 .ite (W.lt t_8 t_7) (.opt (Sl.get? s t_8) fun y1=>
 .opt (sC y1 fc0) fun r2=>
 .ite r2 (.ret (.out (.inl (t_8,()))))
 (.ret (.next (s,((),(fc0,())),t_7,(W.add t_8 (W.of .i64 1)),()))))
 (.ret (.out (.inr ((),()))))
def ve (a:wA):Option cU:=az (fun a:wA=>(sw a.1 a.2.1.2.1 a.2.2.1 a.2.2.2.1).eval) aa a
def FY (s:Sl 40 (TWay)) (fc0:W .u32):Tree (W .i64):=
 .opt (ve ((s,((),(fc0,())),(Sl.len s),(W.of .i64 0),()))) fun o3=>
 .sum o3 (fun p4=>
 .ret p4.1)
 (fun o5=>
 .ret (W.of .i64 (-1)))
def tS (s:Sl 40 (TWay)) (fc0:W .u32):Option (W .i64):=(FY s fc0).eval
def DL (c:TCache) (line:W .u32):Tree (W .i64×W .i64×Bool):=
 .opt (sD c line) fun r1=>
 .opt (tS r1 line) fun r2=>
 .ite (W.lt r2 (W.of .i64 0)) (.ret ((W.of .i64 0),(W.of .i64 0),false))
 (.opt (iJ c line) fun r3=>
 .ret (r3,r2,true))
def jV (c:TCache) (line:W .u32):Option (W .i64×W .i64×Bool):=(DL c line).eval
def qE (set_1:W .i64) (c:TCache) (l_5:Sl 40 (TWay)) (seen:Sl 1 (Bool)) (t_28:Sl 40 (TWay)) (t_29 t_30:W .i64):Tree (Rnd vX aV):=
 .ite (W.lt t_30 t_29) (.opt (Sl.get? t_28 t_30) fun y3=>
 .ite (W.lt y3.Age (W.of .i64 0)) (.ret (.out (.inl (false,()))))
 (.ite (W.ge y3.Age (Sl.len l_5)) (.ret (.out (.inl (false,()))))
 (.opt (aI (List.length seen.l) y3.Age) fun j4=>
 .ite (List.getD seen.l j4 false) (.ret (.out (.inl (false,()))))
 (.ite (W.lt y3.State (W.of .i64 0)) (.ret (.out (.inl (false,()))))
 (.ite (W.gt y3.State (W.of .i64 3)) (.ret (.out (.inl (false,()))))
 (.opt (aI (List.length seen.l) y3.Age) fun j5=>
 .ite (W.eq y3.State (W.of .i64 0)) (.ite (!(Tab.eq ab (.named .TWay) y3 (TWay.mk (W.of .i64 0) (W.of .u32 0) (Arr.rep 16 (W.of .u8 0):Arr 16 (W .u8)) y3.Age))) (.ret (.out (.inl (false,()))))
 (.ite (W.eq y3.State (W.of .i64 0)) (.ret (.next (set_1,c,l_5,(Sl.set seen j5 true),t_28,t_29,(W.add t_30 (W.of .i64 1)),())))
 (.opt (jV c y3.Tag) fun r6=>
 .opt (iJ c y3.Tag) fun r7=>
 .ite (W.ne r7 set_1) (.ret (.out (.inl (false,()))))
 (.ite (W.ne r6.2.1 t_30) (.ret (.out (.inl (false,()))))
 (.ret (.next (set_1,c,l_5,(Sl.set seen j5 true),t_28,t_29,(W.add t_30 (W.of .i64 1)),())))))))
 (.ite (W.eq y3.State (W.of .i64 0)) (.ret (.next (set_1,c,l_5,(Sl.set seen j5 true),t_28,t_29,(W.add t_30 (W.of .i64 1)),())))
 (.opt (jV c y3.Tag) fun r8=>
 .opt (iJ c y3.Tag) fun r9=>
 .ite (W.ne r9 set_1) (.ret (.out (.inl (false,()))))
 (.ite (W.ne r8.2.1 t_30) (.ret (.out (.inl (false,()))))
 (.ret (.next (set_1,c,l_5,(Sl.set seen j5 true),t_28,t_29,(W.add t_30 (W.of .i64 1)),()))))))))))))
 (.ret (.out (.inr ((),()))))
def tV (a:vX):Option aV:=az (fun a:vX=>(qE a.1 a.2.1 a.2.2.1 a.2.2.2.1 a.2.2.2.2.1 a.2.2.2.2.2.1 a.2.2.2.2.2.2.1).eval) aa a
def DP (c:TCache) (set_1:W .i64):Tree (Bool):=
 .opt (Sl.get? c.Sets set_1) fun y1=>
 .ite (W.lt (Sl.len y1) (W.of .i64 1)) (.ret false)
 (.ite (W.gt (Sl.len y1) (W.of .i64 4)) (.ret false)
 (.opt (Sl.make? 1 false (Sl.len y1) (Sl.len y1)) fun l2=>
 .opt (tV ((set_1,c,y1,l2,y1,(Sl.len y1),(W.of .i64 0),()))) fun o10=>
 .sum o10 (fun p11=>
 .ret p11.1)
 (fun o12=>
 .ret true)))
def jX (c:TCache) (set_1:W .i64):Option (Bool):=(DP c set_1).eval
def qD (c:TCache) (t_16 t_17:W .i64):Tree (Rnd xL aV):=
 .ite (W.lt t_17 t_16) (.opt (Sl.get? c.Sets t_17) fun y1=>
 .opt (Sl.get? c.Sets (W.of .i64 0)) fun y2=>
 .ite (W.ne (Sl.len y1) (Sl.len y2)) (.ret (.out (.inl (false,()))))
 (.opt (jX c t_17) fun r3=>
 .ite (!r3) (.ret (.out (.inl (false,()))))
 (.ret (.next (c,t_16,(W.add t_17 (W.of .i64 1)),())))))
 (.ret (.out (.inr ((),()))))
def tU (a:xL):Option aV:=az (fun a:xL=>(qD a.1 a.2.1 a.2.2.1).eval) aa a
def DN (c:TCache):Tree (Bool):=
 .ite (W.lt (Sl.len c.Sets) (W.of .i64 1)) (.ret false)
 (.ite (W.gt (Sl.len c.Sets) (W.of .i64 8)) (.ret false)
 (.opt (tU ((c,(Sl.len c.Sets),(W.of .i64 0),()))) fun o4=>
 .sum o4 (fun p5=>
 .ret p5.1)
 (fun o6=>
 .ret true)))
def jW (c:TCache):Option (Bool):=(DN c).eval
def DZ (m:Sl 1 (W .u8)) (line:W .u32):Tree (Bool):=
 .ret (W.le (W.add (W.mul (W.conv (.u64) line) (W.of .u64 16)) (W.of .u64 16)) (W.conv (.u64) (Sl.len m)))
def lY (m:Sl 1 (W .u8)) (line:W .u32):Option (Bool):=(DZ m line).eval
def qM (line:W .u32) (out:Sl 8 (W .i64)) (t_13:Sl 24 (TCache)) (t_14 t_15:W .i64):Tree (Rnd wB cq):=
 .ite (W.lt t_15 t_14) (.opt (Sl.get? t_13 t_15) fun y1=>
 .opt (jV y1 line) fun r2=>
 .ite r2.2.2 (.opt (Sl.get? y1.Sets r2.1) fun y3=>
 .opt (Sl.get? y3 r2.2.1) fun y4=>
 .opt (Sl.app? out (Sl.lit 8 [y4.State] rfl:Sl 8 (W .i64))) fun l5=>
 .ret (.next (line,l5,t_13,t_14,(W.add t_15 (W.of .i64 1)),())))
 (.opt (Sl.app? out (Sl.lit 8 [(W.of .i64 0)] rfl:Sl 8 (W .i64))) fun l6=>
 .ret (.next (line,l6,t_13,t_14,(W.add t_15 (W.of .i64 1)),()))))
 (.ret (.out (out,())))
def uf (a:wB):Option cq:=az (fun a:wB=>(qM a.1 a.2.1 a.2.2.1 a.2.2.2.1 a.2.2.2.2.1).eval) aa a
def D0 (m:TCoh) (line:W .u32):Tree (Sl 8 (W .i64)):=
 .opt (uf ((line,(Sl.nil:Sl 8 (W .i64)),m.Caches,(Sl.len m.Caches),(W.of .i64 0),()))) fun o7=>
 .ret o7.1
def sK (m:TCoh) (line:W .u32):Option (Sl 8 (W .i64)):=(D0 m line).eval
def Ey (state:W .i64):Tree (Bool):=
 .ite (W.ge state (W.of .i64 0)) (.ret (W.le state (W.of .i64 3)))
 (.ret false)
def AL (state:W .i64):Option (Bool):=(Ey state).eval
def Ex (s:W .i64):Tree (Bool):=
 .opt (AL s) fun r1=>
 .ret (!r1)
def ta (s:W .i64):Option (Bool):=(Ex s).eval
def sx (s:Sl 8 (W .i64)) (t_7 t_8:W .i64):Tree (Rnd xn cU):=
 .ite (W.lt t_8 t_7) (.opt (Sl.get? s t_8) fun y1=>
 .opt (ta y1) fun r2=>
 .ite r2 (.ret (.out (.inl (t_8,()))))
 (.ret (.next (s,((),()),t_7,(W.add t_8 (W.of .i64 1)),()))))
 (.ret (.out (.inr ((),()))))
def vg (a:xn):Option cU:=az (fun a:xn=>(sx a.1 a.2.2.1 a.2.2.2.1).eval) aa a
def F3 (s:Sl 8 (W .i64)):Tree (W .i64):=
 .opt (vg ((s,((),()),(Sl.len s),(W.of .i64 0),()))) fun o3=>
 .sum o3 (fun p4=>
 .ret p4.1)
 (fun o5=>
 .ret (W.of .i64 (-1)))
def A8 (s:Sl 8 (W .i64)):Option (W .i64):=(F3 s).eval
def FO (s:Sl 8 (W .i64)):Tree (Bool):=
 .opt (A8 s) fun r1=>
 .ret (W.ge r1 (W.of .i64 0))
def tO (s:Sl 8 (W .i64)):Option (Bool):=(FO s).eval
def qZ (states:Sl 8 (W .i64)) (have_3:W .i64) (alone:Bool) (t_7:Sl 8 (W .i64)) (t_8 t_9:W .i64):Tree (Rnd wC NA):=
 .ite (W.lt t_9 t_8) (.opt (Sl.get? t_7 t_9) fun y1=>
 .ite (W.ne y1 (W.of .i64 0)) (.ite alone (.ret (.next (states,(W.add have_3 (W.of .i64 1)),true,t_7,t_8,(W.add t_9 (W.of .i64 1)),())))
 (.ite (W.eq y1 (W.of .i64 2)) (.ret (.next (states,(W.add have_3 (W.of .i64 1)),true,t_7,t_8,(W.add t_9 (W.of .i64 1)),())))
 (.ret (.next (states,(W.add have_3 (W.of .i64 1)),(W.eq y1 (W.of .i64 3)),t_7,t_8,(W.add t_9 (W.of .i64 1)),())))))
 (.ite alone (.ret (.next (states,have_3,true,t_7,t_8,(W.add t_9 (W.of .i64 1)),())))
 (.ite (W.eq y1 (W.of .i64 2)) (.ret (.next (states,have_3,true,t_7,t_8,(W.add t_9 (W.of .i64 1)),())))
 (.ret (.next (states,have_3,(W.eq y1 (W.of .i64 3)),t_7,t_8,(W.add t_9 (W.of .i64 1)),()))))))
 (.ret (.out (states,have_3,alone,())))
def mU (a:wC):Option NA:=az (fun a:wC=>(qZ a.1 a.2.1 a.2.2.1 a.2.2.2.1 a.2.2.2.2.1 a.2.2.2.2.2.1).eval) aa a
def Ew (states:Sl 8 (W .i64)):Tree (Bool):=
 .opt (mU ((states,(W.of .i64 0),false,states,(Sl.len states),(W.of .i64 0),()))) fun o2=>
 .opt (tO o2.1) fun r3=>
 .ite (!r3) (.ite (!o2.2.2.1) (.ret true)
 (.ret (W.eq o2.2.1 (W.of .i64 1))))
 (.ret false)
def sZ (states:Sl 8 (W .i64)):Option (Bool):=(Ew states).eval
def sq (s1 s2:Sl 1 (W .u8)) (t_12 t_13:W .i64):Tree (Rnd vY aV):=
 .ite (W.lt t_13 t_12) (.opt (Sl.get? s1 t_13) fun y1=>
 .opt (Sl.get? s2 t_13) fun y2=>
 .ite (W.ne y1 y2) (.ret (.out (.inl (false,()))))
 (.ret (.next (s1,s2,t_12,(W.add t_13 (W.of .i64 1)),()))))
 (.ret (.out (.inr ((),()))))
def vd (a:vY):Option aV:=az (fun a:vY=>(sq a.1 a.2.1 a.2.2.1 a.2.2.2.1).eval) aa a
def FT (s1 s2:Sl 1 (W .u8)):Tree (Bool):=
 .ite (W.ne (Sl.len s1) (Sl.len s2)) (.ret false)
 (.opt (vd ((s1,s2,(Sl.len s1),(W.of .i64 0),()))) fun o3=>
 .sum o3 (fun p4=>
 .ret p4.1)
 (fun o5=>
 .ret true))
def mN (s1 s2:Sl 1 (W .u8)):Option (Bool):=(FT s1 s2).eval
def DY (m:TCoh) (w:TWay):Tree (Bool):=
 .ite (W.eq w.State (W.of .i64 0)) (.ret true)
 (.opt (lY m.Mem w.Tag) fun r1=>
 .ite (!r1) (.ret false)
 (.opt (sK m w.Tag) fun r2=>
 .opt (sZ r2) fun r3=>
 .ite (!r3) (.ret false)
 (.ite (W.eq w.State (W.of .i64 3)) (.ret true)
 (.opt (ek (W.mul (W.conv (.i64) w.Tag) (W.of .i64 16))) fun n4=>
 .opt (ek (W.add (W.mul (W.conv (.i64) w.Tag) (W.of .i64 16)) (W.of .i64 16))) fun n5=>
 .opt (Sl.sub? m.Mem n4 n5) fun l6=>
 .opt (mN (Sl.cut (Arr.sl 1 w.Data rfl) 0 16) l6) fun r7=>
 .ret r7))))
def sJ (m:TCoh) (w:TWay):Option (Bool):=(DY m w).eval
def DT (w:TWay) (a:TCoh):Tree (Bool):=
 .opt (sJ a w) fun r1=>
 .ret r1
def sF (w:TWay) (a:TCoh):Option (Bool):=(DT w a).eval
def qH (seec0:TCoh) (t_12:Sl 24 (TCache)) (t_13 t_14:W .i64) (t_19:Sl 24 (Sl 40 (TWay))) (t_20 t_21:W .i64) (t_25:Sl 40 (TWay)) (t_26 t_27:W .i64):Tree (Rnd vZ NB):=
 .ite (W.lt t_27 t_26) (.opt (Sl.get? t_25 t_27) fun y3=>
 .opt (sF y3 seec0) fun r4=>
 .ite (!r4) (.ret (.out (.inl (((),(seec0,())),false,t_12,t_13,t_14,t_19,t_20,t_21,()))))
 (.ret (.next (((),(seec0,())),t_12,t_13,t_14,t_19,t_20,t_21,t_25,t_26,(W.add t_27 (W.of .i64 1)),()))))
 (.ret (.out (.inr (((),(seec0,())),(),t_12,t_13,t_14,t_19,t_20,t_21,()))))
def tY (a:vZ):Option NB:=az (fun a:vZ=>(qH a.1.2.1 a.2.1 a.2.2.1 a.2.2.2.1 a.2.2.2.2.1 a.2.2.2.2.2.1 a.2.2.2.2.2.2.1 a.2.2.2.2.2.2.2.1 a.2.2.2.2.2.2.2.2.1 a.2.2.2.2.2.2.2.2.2.1).eval) aa a
def qG (seec0:TCoh) (t_12:Sl 24 (TCache)) (t_13 t_14:W .i64) (t_19:Sl 24 (Sl 40 (TWay))) (t_20 t_21:W .i64):Tree (Rnd v5 NC):=
 .ite (W.lt t_21 t_20) (.opt (Sl.get? t_19 t_21) fun y2=>
 .opt (tY ((((),(seec0,())),t_12,t_13,t_14,t_19,t_20,t_21,y2,(Sl.len y2),(W.of .i64 0),()))) fun o5=>
 .sum o5 (fun p6=>
 .ret (.out (.inl (((),(p6.1.2.1,())),p6.2.1,p6.2.2.1,p6.2.2.2.1,p6.2.2.2.2.1,()))))
 (fun o7=>
 .ret (.next (((),(o7.1.2.1,())),o7.2.2.1,o7.2.2.2.1,o7.2.2.2.2.1,o7.2.2.2.2.2.1,o7.2.2.2.2.2.2.1,(W.add o7.2.2.2.2.2.2.2.1 (W.of .i64 1)),()))))
 (.ret (.out (.inr (((),(seec0,())),(),t_12,t_13,t_14,()))))
def tX (a:v5):Option NC:=az (fun a:v5=>(qG a.1.2.1 a.2.1 a.2.2.1 a.2.2.2.1 a.2.2.2.2.1 a.2.2.2.2.2.1 a.2.2.2.2.2.2.1).eval) aa a
def qI (seec0:TCoh) (t_12:Sl 24 (TCache)) (t_13 t_14:W .i64):Tree (Rnd v7 aV):=
 .ite (W.lt t_14 t_13) (.opt (Sl.get? t_12 t_14) fun y1=>
 .opt (tX ((((),(seec0,())),t_12,t_13,t_14,y1.Sets,(Sl.len y1.Sets),(W.of .i64 0),()))) fun o8=>
 .sum o8 (fun p9=>
 .ret (.out (.inl (p9.2.1,()))))
 (fun o10=>
 .ret (.next (((),(o10.1.2.1,())),o10.2.2.1,o10.2.2.2.1,(W.add o10.2.2.2.2.1 (W.of .i64 1)),()))))
 (.ret (.out (.inr ((),()))))
def tZ (a:v7):Option aV:=az (fun a:v7=>(qI a.1.2.1 a.2.1 a.2.2.1 a.2.2.2.1).eval) aa a
def DW (m seec0:TCoh):Tree (Bool):=
 .opt (tZ ((((),(seec0,())),m.Caches,(Sl.len m.Caches),(W.of .i64 0),()))) fun o11=>
 .sum o11 (fun p12=>
 .ret p12.1)
 (fun o13=>
 .ret true)
def sI (m seec0:TCoh):Option (Bool):=(DW m seec0).eval
def qF (m:TCoh) (t_22:Sl 24 (TCache)) (t_23 t_24:W .i64):Tree (Rnd v8 ND):=
 .ite (W.lt t_24 t_23) (.opt (Sl.get? t_22 t_24) fun y2=>
 .opt (jW y2) fun r3=>
 .ite (!r3) (.ret (.out (.inl (m,false,()))))
 (.ret (.next (m,t_22,t_23,(W.add t_24 (W.of .i64 1)),()))))
 (.ret (.out (.inr (m,(),()))))
def tW (a:v8):Option ND:=az (fun a:v8=>(qF a.1 a.2.1 a.2.2.1 a.2.2.2.1).eval) aa a
def DS (m:TCoh):Tree (Bool):=
 .opt (sY m.Mem) fun r1=>
 .ite (!r1) (.ret false)
 (.ite (W.lt (Sl.len m.Caches) (W.of .i64 1)) (.ret false)
 (.ite (W.gt (Sl.len m.Caches) (W.of .i64 2)) (.ret false)
 (.opt (tW ((m,m.Caches,(Sl.len m.Caches),(W.of .i64 0),()))) fun o4=>
 .sum o4 (fun p5=>
 .ret p5.2.1)
 (fun o6=>
 .opt (sI o6.1 o6.1) fun r7=>
 .ret r7))))
def sE (m:TCoh):Option (Bool):=(DS m).eval
def MJ (bits:W .i64):Tree (W .i64):=
 .ret (W.min (W.max bits (W.of .i64 0)) (W.of .i64 8))
def Jv (bits:W .i64):Option (W .i64):=(MJ bits).eval
def My (x y:W .u64):Tree (W .u64×W .u64):=
 .ret ((W.add (W.add (W.mul (W.shr x (W.of .u64 32)) (W.shr y (W.of .u64 32))) (W.shr (W.add (W.mul (W.shr x (W.of .u64 32)) (W.and y (W.of .u64 4294967295))) (W.shr (W.mul (W.and x (W.of .u64 4294967295)) (W.and y (W.of .u64 4294967295))) (W.of .u64 32))) (W.of .u64 32))) (W.shr (W.add (W.and (W.add (W.mul (W.shr x (W.of .u64 32)) (W.and y (W.of .u64 4294967295))) (W.shr (W.mul (W.and x (W.of .u64 4294967295)) (W.and y (W.of .u64 4294967295))) (W.of .u64 32))) (W.of .u64 4294967295)) (W.mul (W.and x (W.of .u64 4294967295)) (W.shr y (W.of .u64 32)))) (W.of .u64 32))),(W.mul x y))
def Jr (x y:W .u64):Option (W .u64×W .u64):=(My x y).eval
def Mw (x y:W .u64):Tree (W .u64×W .u64):=
 .opt (Jr x y) fun r1=>
 .ret (r1.1,r1.2)
def Jq (x y:W .u64):Option (W .u64×W .u64):=(Mw x y).eval
def Jo (newslice:Sl 1 (W .u8)) (n_8:W .i64):Tree (Rnd kI cV):=
 .ite (W.lt n_8 (Sl.len newslice)) (.opt (ek n_8) fun n3=>
 .opt (vw? (List.length newslice.l) (some n3) (none)) fun j4=>
 .opt (ek n_8) fun n5=>
 .opt (vw? (List.length newslice.l) (none) (some n5)) fun j6=>
 .ret (.next ((Sl.copy newslice n3 (Sl.cut newslice 0 n5)),(W.add n_8 (Sl.copyLen newslice n3 (Sl.cut newslice 0 n5))),())))
 (.ret (.out (newslice,())))
def Mi (a:kI):Option cV:=az (fun a:kI=>(Jo a.1 a.2.1).eval) aa a
def Nb (x:Sl 1 (W .u8)) (count:W .i64):Tree (Sl 1 (W .u8)):=
 .ite (W.lt count (W.of .i64 0)) (.fail)
 (.opt (Jq (W.conv (.u64) (Sl.len x)) (W.conv (.u64) count)) fun r1=>
 .ite (W.gt r1.1 (W.of .u64 0)) (.fail)
 (.ite (W.gt r1.2 (W.of .u64 9223372036854775807)) (.fail)
 (.opt (Sl.make? 1 (W.of .u8 0) (W.conv (.i64) r1.2) (W.conv (.i64) r1.2)) fun l2=>
 .opt (Mi (((Sl.copy l2 0 x),(Sl.copyLen l2 0 x),()))) fun o7=>
 .ret o7.1)))
def JL (x:Sl 1 (W .u8)) (count:W .i64):Option (Sl 1 (W .u8)):=(Nb x count).eval
def MI (bits:W .i64):Tree (Sl 1 (W .u8)):=
 .opt (Jv bits) fun r1=>
 .opt (W.shl? (W.of .i64 1) r1) fun z2=>
 .opt (JL (Sl.lit 1 [(W.of .u8 1)] rfl:Sl 1 (W .u8)) z2) fun r3=>
 .ret r3
def AM (bits:W .i64):Option (Sl 1 (W .u8)):=(MI bits).eval
def Mz (aB:W .i64):Tree (Sl 16 (TBtb)):=
 .opt (Sl.make? 16 (TBtb.mk (W.of .u32 0) (W.of .u32 0) (W.of .i64 0)) (W.min (W.max aB (W.of .i64 0)) (W.of .i64 16)) (W.min (W.max aB (W.of .i64 0)) (W.of .i64 16))) fun l1=>
 .ret l1
def AF (aB:W .i64):Option (Sl 16 (TBtb)):=(Mz aB).eval
def ML (aB:W .i64):Tree (Sl 4 (W .u32)):=
 .opt (Sl.make? 4 (W.of .u32 0) (W.min (W.max aB (W.of .i64 0)) (W.of .i64 16)) (W.min (W.max aB (W.of .i64 0)) (W.of .i64 16))) fun l1=>
 .ret l1
def AN (aB:W .i64):Option (Sl 4 (W .u32)):=(ML aB).eval
def EA (c:TConf):Tree (TPred):=
 .opt (AM c.Hist) fun r1=>
 .opt (AF c.Btb) fun r2=>
 .opt (AN c.Ras) fun r3=>
 .ret (TPred.mk (W.of .u32 0) r1 r2 (W.of .i64 0) r3 (W.of .i64 0))
def td (c:TConf):Option (TPred):=(EA c).eval
def sA (x:Sl 1 (W .u8)) (m:W .u8) (i:W .i64):Tree (Rnd wD (W .u8×Unit)):=
 .ite (W.lt i (Sl.len x)) (.opt (Sl.get? x i) fun y2=>
 .ret (.next (x,(W.max m y2),(W.add i (W.of .i64 1)),())))
 (.ret (.out (m,())))
def nI (a:wD):Option (W .u8×Unit):=az (fun a:wD=>(sA a.1 a.2.1 a.2.2.1).eval) aa a
def F5 (x:Sl 1 (W .u8)):Tree (W .u8):=
 .ite (W.lt (Sl.len x) (W.of .i64 1)) (.fail)
 (.opt (Sl.get? x (W.of .i64 0)) fun y1=>
 .opt (nI ((x,y1,(W.of .i64 1),()))) fun o3=>
 .ret o3.1)
def tT (x:Sl 1 (W .u8)):Option (W .u8):=(F5 x).eval
def Ez (t:Sl 1 (W .u8)):Tree (Bool):=
 .ite (W.gt (Sl.len t) (W.of .i64 0)) (.ite (W.eq (W.and (Sl.len t) (W.sub (Sl.len t) (W.of .i64 1))) (W.of .i64 0)) (.ite (W.le (Sl.len t) (W.of .i64 256)) (.opt (tT t) fun r1=>
 .ret (W.le r1 (W.of .u8 3)))
 (.ret false))
 (.ret false))
 (.ret false)
def tc (t:Sl 1 (W .u8)):Option (Bool):=(Ez t).eval
def MF (bits:W .i64):Tree (W .i64):=
 .ret (W.min (W.max bits (W.of .i64 0)) (W.of .i64 8))
def Ju (bits:W .i64):Option (W .i64):=(MF bits).eval
def ME (bits:W .i64):Tree (W .u32):=
 .opt (Ju bits) fun r1=>
 .opt (W.shl? (W.of .u32 1) r1) fun z2=>
 .ret (W.sub z2 (W.of .u32 1))
def mj (bits:W .i64):Option (W .u32):=(ME bits).eval
def EC (aB many:W .i64):Tree (Bool):=
 .ite (W.ge aB (W.of .i64 0)) (.ret (W.lt aB (W.max many (W.of .i64 1))))
 (.ret false)
def ml (aB many:W .i64):Option (Bool):=(EC aB many).eval
def EB (c:TConf) (p:TPred):Tree (Bool):=
 .opt (td c) fun r1=>
 .ite (W.eq (Sl.len p.Table) (Sl.len r1.Table)) (.ite (W.eq (Sl.len p.Btb) (Sl.len r1.Btb)) (.ite (W.eq (Sl.len p.Ras) (Sl.len r1.Ras)) (.opt (tc p.Table) fun r2=>
 .ite r2 (.opt (mj c.Hist) fun r3=>
 .ite (W.eq (W.andNot p.Hist r3) (W.of .u32 0)) (.opt (ml p.Next (Sl.len p.Btb)) fun r4=>
 .ite r4 (.opt (ml p.Top (Sl.len p.Ras)) fun r5=>
 .ret r5)
 (.ret false))
 (.ret false))
 (.ret false))
 (.ret false))
 (.ret false))
 (.ret false)
def jZ (c:TConf) (p:TPred):Option (Bool):=(EB c p).eval
def qY (last:W .u64) (t_6:Sl 48 (TLq)) (t_7 t_8:W .i64):Tree (Rnd wE aV):=
 .ite (W.lt t_8 t_7) (.opt (Sl.get? t_6 t_8) fun y1=>
 .ite (W.le y1.Seq last) (.ret (.out (.inl (false,()))))
 (.ite y1.Known (.ite (W.ne y1.Size (W.of .i64 1)) (.ite (W.ne y1.Size (W.of .i64 2)) (.ite (W.ne y1.Size (W.of .i64 4)) (.ret (.out (.inl (false,()))))
 (.ret (.next (y1.Seq,t_6,t_7,(W.add t_8 (W.of .i64 1)),()))))
 (.ret (.next (y1.Seq,t_6,t_7,(W.add t_8 (W.of .i64 1)),()))))
 (.ret (.next (y1.Seq,t_6,t_7,(W.add t_8 (W.of .i64 1)),()))))
 (.ret (.next (y1.Seq,t_6,t_7,(W.add t_8 (W.of .i64 1)),())))))
 (.ret (.out (.inr ((),()))))
def uq (a:wE):Option aV:=az (fun a:wE=>(qY a.1 a.2.1 a.2.2.1 a.2.2.2.1).eval) aa a
def Et (l_0:Sl 48 (TLq)):Tree (Bool):=
 .opt (uq (((W.of .u64 0),l_0,(Sl.len l_0),(W.of .i64 0),()))) fun o2=>
 .sum o2 (fun p3=>
 .ret p3.1)
 (fun o4=>
 .ret true)
def jY (l_0:Sl 48 (TLq)):Option (Bool):=(Et l_0).eval
def sB (last:W .u64) (t_6:Sl 32 (TSq)) (t_7 t_8:W .i64):Tree (Rnd xN aV):=
 .ite (W.lt t_8 t_7) (.opt (Sl.get? t_6 t_8) fun y1=>
 .ite (W.le y1.Seq last) (.ret (.out (.inl (false,()))))
 (.ite y1.Known (.ite (W.ne y1.Size (W.of .i64 1)) (.ite (W.ne y1.Size (W.of .i64 2)) (.ite (W.ne y1.Size (W.of .i64 4)) (.ret (.out (.inl (false,()))))
 (.ret (.next (y1.Seq,t_6,t_7,(W.add t_8 (W.of .i64 1)),()))))
 (.ret (.next (y1.Seq,t_6,t_7,(W.add t_8 (W.of .i64 1)),()))))
 (.ret (.next (y1.Seq,t_6,t_7,(W.add t_8 (W.of .i64 1)),()))))
 (.ret (.next (y1.Seq,t_6,t_7,(W.add t_8 (W.of .i64 1)),())))))
 (.ret (.out (.inr ((),()))))
def vi (a:xN):Option aV:=az (fun a:xN=>(sB a.1 a.2.1 a.2.2.1 a.2.2.2.1).eval) aa a
def F6 (l_0:Sl 32 (TSq)):Tree (Bool):=
 .opt (vi (((W.of .u64 0),l_0,(Sl.len l_0),(W.of .i64 0),()))) fun o2=>
 .sum o2 (fun p3=>
 .ret p3.1)
 (fun o4=>
 .ret true)
def km (l_0:Sl 32 (TSq)):Option (Bool):=(F6 l_0).eval
def JK (s:Sl 1 (W .u8)):Option (Sl 1 (W .u8)):=some s
def DV (w:TWay) (a:Sl 1 (W .u8)):Tree (Bool×Sl 1 (W .u8)):=
 .ite (W.eq w.State (W.of .i64 3)) (.opt (lY a w.Tag) fun r1=>
 .ite r1 (.opt (ek (W.mul (W.conv (.i64) w.Tag) (W.of .i64 16))) fun n2=>
 .opt (vw? (List.length a.l) (some n2) (none)) fun j3=>
 .ret (true,(Sl.copy a n2 (Sl.cut (Arr.sl 1 w.Data rfl) 0 16))))
 (.ret (true,a)))
 (.ret (true,a))
def sH (w:TWay) (a:Sl 1 (W .u8)):Option (Bool×Sl 1 (W .u8)):=(DV w a).eval
def qK (see:Sl 1 (W .u8)) (t_12:Sl 24 (TCache)) (t_13 t_14:W .i64) (t_19:Sl 24 (Sl 40 (TWay))) (t_20 t_21:W .i64) (t_25:Sl 40 (TWay)) (t_26 t_27:W .i64):Tree (Rnd xr NF):=
 .ite (W.lt t_27 t_26) (.opt (Sl.get? t_25 t_27) fun y3=>
 .opt (sH y3 see) fun r4=>
 .ite (!r4.1) (.ret (.out (.inl (r4.2,false,t_12,t_13,t_14,t_19,t_20,t_21,()))))
 (.ret (.next (r4.2,t_12,t_13,t_14,t_19,t_20,t_21,t_25,t_26,(W.add t_27 (W.of .i64 1)),()))))
 (.ret (.out (.inr (see,(),t_12,t_13,t_14,t_19,t_20,t_21,()))))
def ud (a:xr):Option NF:=az (fun a:xr=>(qK a.1 a.2.1 a.2.2.1 a.2.2.2.1 a.2.2.2.2.1 a.2.2.2.2.2.1 a.2.2.2.2.2.2.1 a.2.2.2.2.2.2.2.1 a.2.2.2.2.2.2.2.2.1 a.2.2.2.2.2.2.2.2.2.1).eval) aa a
def qJ (see:Sl 1 (W .u8)) (t_12:Sl 24 (TCache)) (t_13 t_14:W .i64) (t_19:Sl 24 (Sl 40 (TWay))) (t_20 t_21:W .i64):Tree (Rnd xt NG):=
 .ite (W.lt t_21 t_20) (.opt (Sl.get? t_19 t_21) fun y2=>
 .opt (ud ((see,t_12,t_13,t_14,t_19,t_20,t_21,y2,(Sl.len y2),(W.of .i64 0),()))) fun o5=>
 .sum o5 (fun p6=>
 .ret (.out (.inl (p6.1,p6.2.1,p6.2.2.1,p6.2.2.2.1,p6.2.2.2.2.1,()))))
 (fun o7=>
 .ret (.next (o7.1,o7.2.2.1,o7.2.2.2.1,o7.2.2.2.2.1,o7.2.2.2.2.2.1,o7.2.2.2.2.2.2.1,(W.add o7.2.2.2.2.2.2.2.1 (W.of .i64 1)),()))))
 (.ret (.out (.inr (see,(),t_12,t_13,t_14,()))))
def uc (a:xt):Option NG:=az (fun a:xt=>(qJ a.1 a.2.1 a.2.2.1 a.2.2.2.1 a.2.2.2.2.1 a.2.2.2.2.2.1 a.2.2.2.2.2.2.1).eval) aa a
def qL (see:Sl 1 (W .u8)) (t_12:Sl 24 (TCache)) (t_13 t_14:W .i64):Tree (Rnd xu NH):=
 .ite (W.lt t_14 t_13) (.opt (Sl.get? t_12 t_14) fun y1=>
 .opt (uc ((see,t_12,t_13,t_14,y1.Sets,(Sl.len y1.Sets),(W.of .i64 0),()))) fun o8=>
 .sum o8 (fun p9=>
 .ret (.out (.inl (p9.1,p9.2.1,()))))
 (fun o10=>
 .ret (.next (o10.1,o10.2.2.1,o10.2.2.2.1,(W.add o10.2.2.2.2.1 (W.of .i64 1)),()))))
 (.ret (.out (.inr (see,(),()))))
def ue (a:xu):Option NH:=az (fun a:xu=>(qL a.1 a.2.1 a.2.2.1 a.2.2.2.1).eval) aa a
def DX (m:TCoh) (see:Sl 1 (W .u8)):Tree (Bool×Sl 1 (W .u8)):=
 .opt (ue ((see,m.Caches,(Sl.len m.Caches),(W.of .i64 0),()))) fun o11=>
 .sum o11 (fun p12=>
 .ret (p12.2.1,p12.1))
 (fun o13=>
 .ret (true,o13.1))
def AG (m:TCoh) (see:Sl 1 (W .u8)):Option (Bool×Sl 1 (W .u8)):=(DX m see).eval
def DU (m:TCoh):Tree (Sl 1 (W .u8)):=
 .opt (JK m.Mem) fun r1=>
 .opt (AG m r1) fun r2=>
 .ret r2.2
def sG (m:TCoh):Option (Sl 1 (W .u8)):=(DU m).eval
def DK (addr:W .u32) (size:W .i64):Tree (Bool):=
 .ite (W.eq size (W.of .i64 1)) (.ret (W.eq (W.and addr (W.conv (.u32) (W.sub size (W.of .i64 1)))) (W.of .u32 0)))
 (.ite (W.eq size (W.of .i64 2)) (.ret (W.eq (W.and addr (W.conv (.u32) (W.sub size (W.of .i64 1)))) (W.of .u32 0)))
 (.ite (W.eq size (W.of .i64 4)) (.ret (W.eq (W.and addr (W.conv (.u32) (W.sub size (W.of .i64 1)))) (W.of .u32 0)))
 (.ret false)))
def lX (addr:W .u32) (size:W .i64):Option (Bool):=(DK addr size).eval
def Eu (m:Sl 1 (W .u8)) (addr:W .u32) (size:W .i64):Tree (W .i64):=
 .ite (W.ne size (W.of .i64 1)) (.ite (W.ne size (W.of .i64 2)) (.ite (W.ne size (W.of .i64 4)) (.ret (W.of .i64 9))
 (.ite (W.gt (W.add (W.conv (.u64) addr) (W.conv (.u64) size)) (W.conv (.u64) (Sl.len m))) (.ret (W.of .i64 9))
 (.ret (W.of .i64 0))))
 (.ite (W.gt (W.add (W.conv (.u64) addr) (W.conv (.u64) size)) (W.conv (.u64) (Sl.len m))) (.ret (W.of .i64 9))
 (.ret (W.of .i64 0))))
 (.ite (W.gt (W.add (W.conv (.u64) addr) (W.conv (.u64) size)) (W.conv (.u64) (Sl.len m))) (.ret (W.of .i64 9))
 (.ret (W.of .i64 0)))
def sX (m:Sl 1 (W .u8)) (addr:W .u32) (size:W .i64):Option (W .i64):=(Eu m addr size).eval
def sj (m:Sl 1 (W .u8)) (t_10:Sl 16 (TSb)) (t_11 t_12:W .i64):Tree (Rnd wG aV):=
 .ite (W.lt t_12 t_11) (.opt (Sl.get? t_10 t_12) fun y1=>
 .opt (lX y1.Addr y1.Size) fun r2=>
 .ite (!r2) (.ret (.out (.inl (false,()))))
 (.opt (sX m y1.Addr y1.Size) fun r3=>
 .ite (W.ne r3 (W.of .i64 0)) (.ret (.out (.inl (false,()))))
 (.ret (.next (m,t_10,t_11,(W.add t_12 (W.of .i64 1)),())))))
 (.ret (.out (.inr ((),()))))
def u7 (a:wG):Option aV:=az (fun a:wG=>(sj a.1 a.2.1 a.2.2.1 a.2.2.2.1).eval) aa a
def FI (l_0:Sl 16 (TSb)) (m:Sl 1 (W .u8)):Tree (Bool):=
 .ite (W.gt (Sl.len l_0) (W.of .i64 8)) (.ret false)
 (.opt (u7 ((m,l_0,(Sl.len l_0),(W.of .i64 0),()))) fun o4=>
 .sum o4 (fun p5=>
 .ret p5.1)
 (fun o6=>
 .ret true))
def tI (l_0:Sl 16 (TSb)) (m:Sl 1 (W .u8)):Option (Bool):=(FI l_0 m).eval
def qB (l_5:Sl 8 (W .i64)) (t_50:Sl 1 (Bool)) (t_51 t_52:W .i64):Tree (Rnd gP cq):=
 .ite (W.lt t_52 t_51) (.opt (aI (List.length t_50.l) t_52) fun j7=>
 .ite (!(List.getD t_50.l j7 false)) (.opt (Sl.app? l_5 (Sl.lit 8 [(W.add (W.of .i64 10) t_52)] rfl:Sl 8 (W .i64))) fun l8=>
 .ret (.next (l8,t_50,t_51,(W.add t_52 (W.of .i64 1)),())))
 (.ret (.next (l_5,t_50,t_51,(W.add t_52 (W.of .i64 1)),()))))
 (.ret (.out (l_5,())))
def fp (a:gP):Option cq:=az (fun a:gP=>(qB a.1 a.2.1 a.2.2.1 a.2.2.2.1).eval) aa a
def DI (c:TCore) (m:TCoh):Tree (Sl 8 (W .i64)):=
 .opt (sL c) fun r1=>
 .opt (tP r1 (W.of .i64 1)) fun r2=>
 .ite r2 (.ret (Sl.lit 8 [(W.of .i64 1)] rfl:Sl 8 (W .i64)))
 (.opt (sE m) fun r3=>
 .ite (!(W.eq (Sl.len c.Shadow) (Sl.len m.Mem))) (.opt (jZ c.Conf c.Pred) fun r4=>
 .opt (jY c.Lq) fun r5=>
 .opt (km c.Sq) fun r6=>
 .opt (fp ((r1,(Sl.lit 1 [(W.eq (Sl.len c.Shadow) (Sl.len m.Mem)),r3,true,r4,r5,r6] rfl:Sl 1 (Bool)),(W.of .i64 6),(W.of .i64 0),()))) fun o9=>
 .ret o9.1)
 (.ite (!r3) (.opt (jZ c.Conf c.Pred) fun r10=>
 .opt (jY c.Lq) fun r11=>
 .opt (km c.Sq) fun r12=>
 .opt (fp ((r1,(Sl.lit 1 [(W.eq (Sl.len c.Shadow) (Sl.len m.Mem)),r3,true,r10,r11,r12] rfl:Sl 1 (Bool)),(W.of .i64 6),(W.of .i64 0),()))) fun o13=>
 .ret o13.1)
 (.opt (sG m) fun r14=>
 .opt (tI c.Sb r14) fun r15=>
 .opt (jZ c.Conf c.Pred) fun r16=>
 .opt (jY c.Lq) fun r17=>
 .opt (km c.Sq) fun r18=>
 .opt (fp ((r1,(Sl.lit 1 [(W.eq (Sl.len c.Shadow) (Sl.len m.Mem)),r3,r15,r16,r17,r18] rfl:Sl 1 (Bool)),(W.of .i64 6),(W.of .i64 0),()))) fun o19=>
 .ret o19.1)))
def iI (c:TCore) (m:TCoh):Option (Sl 8 (W .i64)):=(DI c m).eval
def qC (d:TDuo) (l_3:Sl 8 (W .i64)) (i:W .i64) (t_21:Sl 1040 (TCore)) (t_22 t_23:W .i64) (t_31:Sl 8 (W .i64)) (t_32 t_33:W .i64):Tree (Rnd xP kN):=
 .ite (W.lt t_33 t_32) (.opt (aI (List.length t_31.l) t_33) fun j3=>
 .opt (Sl.app? l_3 (Sl.lit 8 [(W.add (List.getD t_31.l j3 (W.of .i64 0)) (W.mul i (W.of .i64 100)))] rfl:Sl 8 (W .i64))) fun l4=>
 .ret (.next (d,l4,i,t_21,t_22,t_23,t_31,t_32,(W.add t_33 (W.of .i64 1)),())))
 (.ret (.out (d,l_3,t_21,t_22,t_23,())))
def mQ (a:xP):Option kN:=az (fun a:xP=>(qC a.1 a.2.1 a.2.2.1 a.2.2.2.1 a.2.2.2.2.1 a.2.2.2.2.2.1 a.2.2.2.2.2.2.1 a.2.2.2.2.2.2.2.1 a.2.2.2.2.2.2.2.2.1).eval) aa a
def lO (d:TDuo) (l_3:Sl 8 (W .i64)) (t_21:Sl 1040 (TCore)) (t_22 t_23:W .i64):Tree (Rnd kN cq):=
 .ite (W.lt t_23 t_22) (.opt (Sl.get? t_21 t_23) fun y1=>
 .opt (iI y1 d.Mem) fun r2=>
 .opt (mQ ((d,l_3,t_23,t_21,t_22,t_23,r2,(Sl.len r2),(W.of .i64 0),()))) fun o5=>
 .ret (.next (o5.1,o5.2.1,o5.2.2.1,o5.2.2.2.1,(W.add o5.2.2.2.2.1 (W.of .i64 1)),())))
 (.ret (.out (l_3,())))
def mP (a:kN):Option cq:=az (fun a:kN=>(lO a.1 a.2.1 a.2.2.1 a.2.2.2.1 a.2.2.2.2.1).eval) aa a
def DJ (d:TDuo):Tree (Sl 8 (W .i64)):=
 .ite (W.ne (Sl.len d.Cores) (W.of .i64 2)) (.ret (Sl.lit 8 [(W.of .i64 90)] rfl:Sl 8 (W .i64)))
 (.ite (W.ne (Sl.len d.Mem.Caches) (W.of .i64 2)) (.ret (Sl.lit 8 [(W.of .i64 90)] rfl:Sl 8 (W .i64)))
 (.opt (mP ((d,(Sl.nil:Sl 8 (W .i64)),d.Cores,(Sl.len d.Cores),(W.of .i64 0),()))) fun o6=>
 .ret o6.1))
def lW (d:TDuo):Option (Sl 8 (W .i64)):=(DJ d).eval
def MH :Tree (Bool):=
 .opt (Sl.make? 1 (W.of .u8 0) (W.of .i64 64) (W.of .i64 64)) fun l1=>
 .opt (Sl.make? 1 (W.of .u8 0) (W.of .i64 64) (W.of .i64 64)) fun l2=>
 .opt (JJ) fun r3=>
 .opt (JI r3 (TMach.mk (TArch.mk (W.of .u32 0) (Arr.rep 16 (W.of .u32 0):Arr 16 (W .u32)) (Arr.rep 12 (W.of .u32 0):Arr 12 (W .u32)) false) l1 l2 (Sl.nil:Sl 4 (W .u32)))) fun r4=>
 .opt (JH l1 (W.of .i64 4) (W.of .i64 2) (W.of .i64 1)) fun r5=>
 .opt (iI ({ r4.1 with A:=({ r4.1.A with R:=(Arr.set r4.1.A.R 3 (W.of .u32 1)) }:TArch) }:TCore) r5) fun r6=>
 .opt (lW (TDuo.mk (Sl.nil:Sl 1040 (TCore)) (TCoh.mk (Sl.nil:Sl 1 (W .u8)) (Sl.nil:Sl 24 (TCache))))) fun r7=>
 .opt (iI r4.1 r5) fun r8=>
 .ite (W.eq (Sl.len r8) (W.of .i64 0)) (.ite (W.eq (Sl.len r6) (W.of .i64 1)) (.opt (aI (List.length r6.l) (W.of .i64 0)) fun j9=>
 .ite (W.eq (List.getD r6.l j9 (W.of .i64 0)) (W.of .i64 7)) (.ite (W.eq (Sl.len r7) (W.of .i64 1)) (.opt (Sl.get? r7 (W.of .i64 0)) fun y10=>
 .ret (W.eq y10 (W.of .i64 90)))
 (.ret false))
 (.ret false))
 (.ret false))
 (.ret false)
def iK :Option (Bool):=(MH).eval
def Fu (c:TCore):Tree (Bool):=
 .opt (mI c.Conf) fun r1=>
 .ite (W.eq r1 (W.of .i64 0)) (.ite (W.le (Sl.len c.Queue) c.Conf.Queue) (.ite (W.le (Sl.len c.Rob) c.Conf.Rob) (.ite (W.le (Sl.len c.Iq) c.Conf.Iq) (.ite (W.le (Sl.len c.Lq) c.Conf.Lq) (.ite (W.le (Sl.len c.Sq) c.Conf.Sq) (.ite (W.le (Sl.len c.Sb) c.Conf.Sb) (.ite (W.eq (Sl.len c.Phys.Val) c.Conf.Phys) (.ite (W.eq (Sl.len c.Phys.Ready) c.Conf.Phys) (.ite (W.eq (Sl.len c.Tlb) c.Conf.Tlb) (.ret (W.eq (Sl.len c.Dep) c.Conf.Dep))
 (.ret false))
 (.ret false))
 (.ret false))
 (.ret false))
 (.ret false))
 (.ret false))
 (.ret false))
 (.ret false))
 (.ret false))
 (.ret false)
def tC (c:TCore):Option (Bool):=(Fu c).eval
def lP (l_0:Sl 248 (TRob)) (i:W .i64):Tree (Rnd xQ NI):=
 .ite (W.lt i (Sl.len l_0)) (.opt (Sl.get? l_0 i) fun y1=>
 .ite (W.lt y1.Ren.Seq (W.of .u64 1)) (.ret (.out (.inl (l_0,false,()))))
 (.ite (W.gt i (W.of .i64 0)) (.opt (Sl.get? l_0 i) fun y2=>
 .opt (Sl.get? l_0 (W.sub i (W.of .i64 1))) fun y3=>
 .ite (W.le y2.Ren.Seq y3.Ren.Seq) (.ret (.out (.inl (l_0,false,()))))
 (.ite (W.gt i (W.of .i64 0)) (.opt (Sl.get? l_0 (W.sub i (W.of .i64 1))) fun y4=>
 .ite (!y4.Ren.Uop.Last) (.opt (Sl.get? l_0 (W.sub i (W.of .i64 1))) fun y5=>
 .opt (Sl.get? l_0 i) fun y6=>
 .ite (W.ne y6.Ren.Uop.Part (W.add y5.Ren.Uop.Part (W.of .i64 1))) (.ret (.out (.inl (l_0,false,()))))
 (.ret (.next (l_0,(W.add i (W.of .i64 1)),()))))
 (.opt (Sl.get? l_0 i) fun y7=>
 .ite (W.ne y7.Ren.Uop.Part (W.of .i64 0)) (.ret (.out (.inl (l_0,false,()))))
 (.ret (.next (l_0,(W.add i (W.of .i64 1)),())))))
 (.opt (Sl.get? l_0 i) fun y8=>
 .ite (W.ne y8.Ren.Uop.Part (W.of .i64 0)) (.ret (.out (.inl (l_0,false,()))))
 (.ret (.next (l_0,(W.add i (W.of .i64 1)),()))))))
 (.ite (W.gt i (W.of .i64 0)) (.opt (Sl.get? l_0 (W.sub i (W.of .i64 1))) fun y9=>
 .ite (!y9.Ren.Uop.Last) (.opt (Sl.get? l_0 (W.sub i (W.of .i64 1))) fun y10=>
 .opt (Sl.get? l_0 i) fun y11=>
 .ite (W.ne y11.Ren.Uop.Part (W.add y10.Ren.Uop.Part (W.of .i64 1))) (.ret (.out (.inl (l_0,false,()))))
 (.ret (.next (l_0,(W.add i (W.of .i64 1)),()))))
 (.opt (Sl.get? l_0 i) fun y12=>
 .ite (W.ne y12.Ren.Uop.Part (W.of .i64 0)) (.ret (.out (.inl (l_0,false,()))))
 (.ret (.next (l_0,(W.add i (W.of .i64 1)),())))))
 (.opt (Sl.get? l_0 i) fun y13=>
 .ite (W.ne y13.Ren.Uop.Part (W.of .i64 0)) (.ret (.out (.inl (l_0,false,()))))
 (.ret (.next (l_0,(W.add i (W.of .i64 1)),())))))))
 (.ret (.out (.inr (l_0,(),()))))
def ux (a:xQ):Option NI:=az (fun a:xQ=>(lP a.1 a.2.1).eval) aa a
def E0 (l_0:Sl 248 (TRob)):Tree (Bool):=
 .opt (ux ((l_0,(W.of .i64 0),()))) fun o14=>
 .sum o14 (fun p15=>
 .ret p15.2.1)
 (fun o16=>
 .ite (W.eq (Sl.len o16.1) (W.of .i64 0)) (.ret true)
 (.opt (Sl.get? o16.1 (W.sub (Sl.len o16.1) (W.of .i64 1))) fun y17=>
 .ret y17.Ren.Uop.Last))
def tr (l_0:Sl 248 (TRob)):Option (Bool):=(E0 l_0).eval
def rk (n_1:W .i64) (m:Arr 16 (W .i64)) (r k:W .i64):Tree (Rnd gY wV):=
 .ite (W.lt k r) (.opt (aI 16 k) fun j3=>
 .opt (aI 16 r) fun j4=>
 .ite (W.eq (Arr.get m j3) (Arr.get m j4)) (.ret (.out (.inl (n_1,m,false,r,()))))
 (.ret (.next (n_1,m,r,(W.add k (W.of .i64 1)),()))))
 (.ret (.out (.inr (n_1,m,(),r,()))))
def m8 (a:gY):Option wV:=az (fun a:gY=>(rk a.1 a.2.1 a.2.2.1 a.2.2.2.1).eval) aa a
def z9 (n_1:W .i64) (m:Arr 16 (W .i64)) (r:W .i64):Tree (Rnd gZ aV):=
 .ite (W.lt r (W.of .i64 16)) (.opt (aI 16 r) fun j1=>
 .ite (W.lt (Arr.get m j1) (W.of .i64 1)) (.ret (.out (.inl (false,()))))
 (.opt (aI 16 r) fun j2=>
 .ite (W.ge (Arr.get m j2) n_1) (.ret (.out (.inl (false,()))))
 (.opt (m8 ((n_1,m,r,(W.of .i64 1),()))) fun o5=>
 .sum o5 (fun p6=>
 .ret (.out (.inl (p6.2.2.1,()))))
 (fun o7=>
 .ret (.next (o7.1,o7.2.1,(W.add o7.2.2.2.1 (W.of .i64 1)),()))))))
 (.ret (.out (.inr ((),()))))
def m7 (a:gZ):Option aV:=az (fun a:gZ=>(z9 a.1 a.2.1 a.2.2.1).eval) aa a
def EV (m:Arr 16 (W .i64)) (n_1:W .i64):Tree (Bool):=
 .ite (W.ne (Arr.get m 0) (W.of .i64 (-1))) (.ret false)
 (.opt (m7 ((n_1,m,(W.of .i64 1),()))) fun o8=>
 .sum o8 (fun p9=>
 .ret p9.1)
 (fun o10=>
 .ret true))
def mB (m:Arr 16 (W .i64)) (n_1:W .i64):Option (Bool):=(EV m n_1).eval
def ES (f:TFree):Tree (Bool):=
 .ite (W.gt (Sl.len f.Ring) (W.of .i64 96)) (.ret false)
 (.ite (W.lt f.N (W.of .i64 0)) (.ret false)
 (.ite (W.gt f.N (Sl.len f.Ring)) (.ret false)
 (.ite (W.ge f.Head (W.of .i64 0)) (.ite (W.lt f.Head (Sl.len f.Ring)) (.ret true)
 (.ite (W.eq (Sl.len f.Ring) (W.of .i64 0)) (.ret (W.eq f.Head (W.of .i64 0)))
 (.ret false)))
 (.ite (W.eq (Sl.len f.Ring) (W.of .i64 0)) (.ret (W.eq f.Head (W.of .i64 0)))
 (.ret false)))))
def mz (f:TFree):Option (Bool):=(ES f).eval
def rh (f:TFree) (out:Sl 8 (W .i64)) (i:W .i64):Tree (Rnd wa cq):=
 .ite (W.lt i f.N) (.opt (W.rem? (W.add f.Head i) (Sl.len f.Ring)) fun z2=>
 .opt (Sl.get? f.Ring z2) fun y3=>
 .opt (Sl.app? out (Sl.lit 8 [y3] rfl:Sl 8 (W .i64))) fun l4=>
 .ret (.next (f,l4,(W.add i (W.of .i64 1)),())))
 (.ret (.out (out,())))
def mY (a:wa):Option cq:=az (fun a:wa=>(rh a.1 a.2.1 a.2.2.1).eval) aa a
def ET (f:TFree):Tree (Sl 8 (W .i64)):=
 .opt (mz f) fun r1=>
 .ite (!r1) (.ret (Sl.lit 8 [] rfl:Sl 8 (W .i64)))
 (.opt (mY ((f,(Sl.lit 8 [] rfl:Sl 8 (W .i64)),(W.of .i64 0),()))) fun o5=>
 .ret o5.1)
def mA (f:TFree):Option (Sl 8 (W .i64)):=(ET f).eval
def rj (n_1:W .i64) (l_5:Sl 8 (W .i64)) (i k:W .i64):Tree (Rnd wb NJ):=
 .ite (W.lt k i) (.opt (aI (List.length l_5.l) k) fun j5=>
 .opt (aI (List.length l_5.l) i) fun j6=>
 .ite (W.eq (List.getD l_5.l j5 (W.of .i64 0)) (List.getD l_5.l j6 (W.of .i64 0))) (.ret (.out (.inl (n_1,false,l_5,i,()))))
 (.ret (.next (n_1,l_5,i,(W.add k (W.of .i64 1)),()))))
 (.ret (.out (.inr (n_1,(),l_5,i,()))))
def m6 (a:wb):Option NJ:=az (fun a:wb=>(rj a.1 a.2.1 a.2.2.1 a.2.2.2.1).eval) aa a
def ri (n_1:W .i64) (l_5:Sl 8 (W .i64)) (i:W .i64):Tree (Rnd hE aV):=
 .ite (W.lt i (Sl.len l_5)) (.opt (aI (List.length l_5.l) i) fun j3=>
 .ite (W.lt (List.getD l_5.l j3 (W.of .i64 0)) (W.of .i64 0)) (.ret (.out (.inl (false,()))))
 (.opt (aI (List.length l_5.l) i) fun j4=>
 .ite (W.ge (List.getD l_5.l j4 (W.of .i64 0)) n_1) (.ret (.out (.inl (false,()))))
 (.opt (m6 ((n_1,l_5,i,(W.of .i64 0),()))) fun o7=>
 .sum o7 (fun p8=>
 .ret (.out (.inl (p8.2.1,()))))
 (fun o9=>
 .ret (.next (o9.1,o9.2.2.1,(W.add o9.2.2.2.1 (W.of .i64 1)),()))))))
 (.ret (.out (.inr ((),()))))
def mZ (a:hE):Option aV:=az (fun a:hE=>(ri a.1 a.2.1 a.2.2.1).eval) aa a
def EU (f:TFree) (n_1:W .i64):Tree (Bool):=
 .opt (mz f) fun r1=>
 .ite (!r1) (.ret false)
 (.ite (W.ne (Sl.len f.Ring) n_1) (.ret false)
 (.opt (mA f) fun r2=>
 .opt (mZ ((n_1,r2,(W.of .i64 0),()))) fun o10=>
 .sum o10 (fun p11=>
 .ret p11.1)
 (fun o12=>
 .ret true)))
def tj (f:TFree) (n_1:W .i64):Option (Bool):=(EU f n_1).eval
def EX (u:TUop):Tree (Bool):=
 .ite (W.ge u.Dst (W.of .i64 1)) (.ret (W.le u.Dst (W.of .i64 15)))
 (.ret false)
def tn (u:TUop):Option (Bool):=(EX u).eval
def rp (l_0:Sl 8 (W .i64)) (p n_5 i:W .i64):Tree (Rnd gM Y7):=
 .ite (W.lt i (Sl.len l_0)) (.opt (Sl.get? l_0 i) fun y1=>
 .ite (W.eq y1 p) (.ret (.next (l_0,p,(W.add n_5 (W.of .i64 1)),(W.add i (W.of .i64 1)),())))
 (.ret (.next (l_0,p,n_5,(W.add i (W.of .i64 1)),()))))
 (.ret (.out (n_5,())))
def nh (a:gM):Option Y7:=az (fun a:gM=>(rp a.1 a.2.1 a.2.2.1 a.2.2.2.1).eval) aa a
def EZ (l_0:Sl 8 (W .i64)) (p:W .i64):Tree (W .i64):=
 .opt (nh ((l_0,p,(W.of .i64 0),(W.of .i64 0),()))) fun o2=>
 .ret o2.1
def tq (l_0:Sl 8 (W .i64)) (p:W .i64):Option (W .i64):=(EZ l_0 p).eval
def Aa (n_1:W .i64) (flying:Sl 216 (TRen)) (s:TNames) (all:Sl 8 (W .i64)) (k:W .i64):Tree (Rnd xS NK):=
 .ite (W.lt k (W.of .i64 16)) (.opt (aI 16 k) fun j2=>
 .opt (Sl.app? all (Sl.lit 8 [(Arr.get s.Done j2)] rfl:Sl 8 (W .i64))) fun l3=>
 .ret (.next (n_1,flying,s,l3,(W.add k (W.of .i64 1)),())))
 (.ret (.out (n_1,flying,all,())))
def ng (a:xS):Option NK:=az (fun a:xS=>(Aa a.1 a.2.1 a.2.2.1 a.2.2.2.1 a.2.2.2.2.1).eval) aa a
def rm (n_1:W .i64) (flying:Sl 216 (TRen)) (all:Sl 8 (W .i64)) (i:W .i64):Tree (Rnd xT NL):=
 .ite (W.lt i (Sl.len flying)) (.opt (Sl.get? flying i) fun y5=>
 .ite (W.ne y5.Out (W.of .i64 (-1))) (.opt (Sl.get? flying i) fun y6=>
 .opt (Sl.app? all (Sl.lit 8 [y6.Out] rfl:Sl 8 (W .i64))) fun l7=>
 .ret (.next (n_1,flying,l7,(W.add i (W.of .i64 1)),())))
 (.ret (.next (n_1,flying,all,(W.add i (W.of .i64 1)),()))))
 (.ret (.out (n_1,all,())))
def na (a:xT):Option NL:=az (fun a:xT=>(rm a.1 a.2.1 a.2.2.1 a.2.2.2.1).eval) aa a
def rn (n_1:W .i64) (all:Sl 8 (W .i64)) (p:W .i64):Tree (Rnd hE NM):=
 .ite (W.lt p n_1) (.opt (tq all p) fun r9=>
 .ite (W.ne r9 (W.of .i64 1)) (.ret (.out (.inl (n_1,false,all,()))))
 (.ret (.next (n_1,all,(W.add p (W.of .i64 1)),()))))
 (.ret (.out (.inr (n_1,(),all,()))))
def nf (a:hE):Option NM:=az (fun a:hE=>(rn a.1 a.2.1 a.2.2.1).eval) aa a
def EY (s:TNames) (n_1:W .i64) (flying:Sl 216 (TRen)):Tree (Bool):=
 .opt (mA s.Free) fun r1=>
 .opt (ng ((n_1,flying,s,r1,(W.of .i64 1),()))) fun o4=>
 .opt (na ((o4.1,o4.2.1,o4.2.2.1,(W.of .i64 0),()))) fun o8=>
 .opt (nf ((o8.1,o8.2.1,(W.of .i64 1),()))) fun o10=>
 .sum o10 (fun p11=>
 .ret p11.2.1)
 (fun o12=>
 .ret (W.eq (Sl.len o12.2.2.1) (W.sub o12.1 (W.of .i64 1))))
def tp (s:TNames) (n_1:W .i64) (flying:Sl 216 (TRen)):Option (Bool):=(EY s n_1 flying).eval
def rl (n_1:W .i64) (flying:Sl 216 (TRen)) (s:TNames) (m:Arr 16 (W .i64)) (last:W .u64) (i:W .i64):Tree (Rnd wc NN):=
 .ite (W.lt i (Sl.len flying)) (.opt (Sl.get? flying i) fun y4=>
 .ite (W.le y4.Seq last) (.ret (.out (.inl (n_1,flying,s,false,m,()))))
 (.ite (W.ge y4.Seq s.Seq) (.ret (.out (.inl (n_1,flying,s,false,m,()))))
 (.opt (tn y4.Uop) fun r5=>
 .ite (!r5) (.ite (W.ne y4.Out (W.of .i64 (-1))) (.ret (.out (.inl (n_1,flying,s,false,m,()))))
 (.ite (W.ne y4.Old (W.of .i64 (-1))) (.ret (.out (.inl (n_1,flying,s,false,m,()))))
 (.ret (.next (n_1,flying,s,m,y4.Seq,(W.add i (W.of .i64 1)),())))))
 (.ite (W.lt y4.Out (W.of .i64 0)) (.ret (.out (.inl (n_1,flying,s,false,m,()))))
 (.opt (aI 16 y4.Uop.Dst) fun j6=>
 .ite (W.ne y4.Old (Arr.get m j6)) (.ret (.out (.inl (n_1,flying,s,false,m,()))))
 (.opt (aI 16 y4.Uop.Dst) fun j7=>
 .ret (.next (n_1,flying,s,(Arr.set m j7 y4.Out),y4.Seq,(W.add i (W.of .i64 1)),()))))))))
 (.ret (.out (.inr (n_1,flying,s,(),m,()))))
def m9 (a:wc):Option NN:=az (fun a:wc=>(rl a.1 a.2.1 a.2.2.1 a.2.2.2.1 a.2.2.2.2.1 a.2.2.2.2.2.1).eval) aa a
def EW (s:TNames) (n_1:W .i64) (flying:Sl 216 (TRen)):Tree (Bool):=
 .ite (W.lt n_1 (W.of .i64 17)) (.ret false)
 (.ite (W.gt n_1 (W.of .i64 96)) (.ret false)
 (.opt (mB s.Map n_1) fun r1=>
 .ite (!r1) (.ret false)
 (.opt (mB s.Done n_1) fun r2=>
 .ite (!r2) (.ret false)
 (.opt (tj s.Free n_1) fun r3=>
 .ite (!r3) (.ret false)
 (.opt (m9 ((n_1,flying,s,s.Done,(W.of .u64 0),(W.of .i64 0),()))) fun o8=>
 .sum o8 (fun p9=>
 .ret p9.2.2.2.1)
 (fun o10=>
 .ite (Tab.eq ab (.arr 16 (.int .i64)) o10.2.2.2.2.1 o10.2.2.1.Map) (.opt (tp o10.2.2.1 o10.1 o10.2.1) fun r11=>
 .ret r11)
 (.ret false)))))))
def ke (s:TNames) (n_1:W .i64) (flying:Sl 216 (TRen)):Option (Bool):=(EW s n_1 flying).eval
def sa (c:TCore) (r:TRen) (i:W .i64):Tree (Rnd wH aV):=
 .ite (W.lt i (Sl.len c.Rob)) (.opt (Sl.get? c.Rob i) fun y1=>
 .ite (Tab.eq ab (.named .TRen) y1.Ren r) (.opt (Sl.get? c.Rob i) fun y2=>
 .ite (!y2.Done) (.ret (.out (.inl (true,()))))
 (.ret (.next (c,r,(W.add i (W.of .i64 1)),()))))
 (.ret (.next (c,r,(W.add i (W.of .i64 1)),()))))
 (.ret (.out (.inr ((),()))))
def u4 (a:wH):Option aV:=az (fun a:wH=>(sa a.1 a.2.1 a.2.2.1).eval) aa a
def Fx (c:TCore) (r:TRen):Tree (Bool):=
 .opt (u4 ((c,r,(W.of .i64 0),()))) fun o3=>
 .sum o3 (fun p4=>
 .ret p4.1)
 (fun o5=>
 .ret false)
def mL (c:TCore) (r:TRen):Option (Bool):=(Fx c r).eval
def rV (c:TCore) (i k:W .i64):Tree (Rnd we w9):=
 .ite (W.lt k i) (.opt (Sl.get? c.Iq k) fun y3=>
 .opt (Sl.get? c.Iq i) fun y4=>
 .ite (W.eq y3.Ren.Seq y4.Ren.Seq) (.ret (.out (.inl (c,false,i,()))))
 (.ret (.next (c,i,(W.add k (W.of .i64 1)),()))))
 (.ret (.out (.inr (c,(),i,()))))
def uV (a:we):Option w9:=az (fun a:we=>(rV a.1 a.2.1 a.2.2.1).eval) aa a
def rX (c:TCore) (i:W .i64):Tree (Rnd dm aV):=
 .ite (W.lt i (Sl.len c.Iq)) (.opt (Sl.get? c.Iq i) fun y1=>
 .opt (mL c y1.Ren) fun r2=>
 .ite (!r2) (.ret (.out (.inl (false,()))))
 (.opt (uV ((c,i,(W.of .i64 0),()))) fun o5=>
 .sum o5 (fun p6=>
 .ret (.out (.inl (p6.2.1,()))))
 (fun o7=>
 .ret (.next (o7.1,(W.add o7.2.2.1 (W.of .i64 1)),())))))
 (.ret (.out (.inr ((),()))))
def uW (a:dm):Option aV:=az (fun a:dm=>(rX a.1 a.2.1).eval) aa a
def Ft (c:TCore):Tree (Bool):=
 .opt (uW ((c,(W.of .i64 0),()))) fun o8=>
 .sum o8 (fun p9=>
 .ret p9.1)
 (fun o10=>
 .ret true)
def iM (c:TCore):Option (Bool):=(Ft c).eval
def rP (c:TCore) (i:W .i64) (r:TRen) (k:W .i64):Tree (Rnd gR NO):=
 .ite (W.lt k i) (.opt (Sl.get? c.Units k) fun y3=>
 .ite (W.eq y3.Ren.Seq r.Seq) (.ret (.out (.inl (c,false,i,r,()))))
 (.ret (.next (c,i,r,(W.add k (W.of .i64 1)),()))))
 (.ret (.out (.inr (c,(),i,r,()))))
def uQ (a:gR):Option NO:=az (fun a:gR=>(rP a.1 a.2.1 a.2.2.1 a.2.2.2.1).eval) aa a
def rQ (c:TCore) (i:W .i64) (r:TRen) (k:W .i64):Tree (Rnd gR w9):=
 .ite (W.lt k (Sl.len c.Iq)) (.opt (Sl.get? c.Iq k) fun y7=>
 .ite (W.eq y7.Ren.Seq r.Seq) (.ret (.out (.inl (c,false,i,()))))
 (.ret (.next (c,i,r,(W.add k (W.of .i64 1)),()))))
 (.ret (.out (.inr (c,(),i,()))))
def uR (a:gR):Option w9:=az (fun a:gR=>(rQ a.1 a.2.1 a.2.2.1 a.2.2.2.1).eval) aa a
def rR (c:TCore) (i:W .i64):Tree (Rnd dm aV):=
 .ite (W.lt i (Sl.len c.Units)) (.opt (Sl.get? c.Units i) fun y1=>
 .opt (mL c y1.Ren) fun r2=>
 .ite (!r2) (.ret (.out (.inl (false,()))))
 (.opt (uQ ((c,i,y1.Ren,(W.of .i64 0),()))) fun o4=>
 .sum o4 (fun p5=>
 .ret (.out (.inl (p5.2.1,()))))
 (fun o6=>
 .opt (uR ((o6.1,o6.2.2.1,o6.2.2.2.1,(W.of .i64 0),()))) fun o8=>
 .sum o8 (fun p9=>
 .ret (.out (.inl (p9.2.1,()))))
 (fun o10=>
 .ret (.next (o10.1,(W.add o10.2.2.1 (W.of .i64 1)),()))))))
 (.ret (.out (.inr ((),()))))
def uS (a:dm):Option aV:=az (fun a:dm=>(rR a.1 a.2.1).eval) aa a
def Fp (c:TCore):Tree (Bool):=
 .opt (uS ((c,(W.of .i64 0),()))) fun o11=>
 .sum o11 (fun p12=>
 .ret p12.1)
 (fun o13=>
 .ret true)
def gG (c:TCore):Option (Bool):=(Fp c).eval
def rY (unit:W .i64) (c:TCore) (out:Sl 8 (W .u64)) (i:W .i64):Tree (Rnd xv wX):=
 .ite (W.lt i (Sl.len c.Rob)) (.opt (Sl.get? c.Rob i) fun y1=>
 .ite (W.eq y1.Ren.Uop.Unit unit) (.opt (Sl.get? c.Rob i) fun y2=>
 .opt (Sl.app? out (Sl.lit 8 [y2.Ren.Seq] rfl:Sl 8 (W .u64))) fun l3=>
 .ret (.next (unit,c,l3,(W.add i (W.of .i64 1)),())))
 (.ret (.next (unit,c,out,(W.add i (W.of .i64 1)),()))))
 (.ret (.out (out,())))
def uX (a:xv):Option wX:=az (fun a:xv=>(rY a.1 a.2.1 a.2.2.1 a.2.2.2.1).eval) aa a
def Fv (c:TCore) (unit:W .i64):Tree (Sl 8 (W .u64)):=
 .opt (uX ((unit,c,(Sl.lit 8 [] rfl:Sl 8 (W .u64)),(W.of .i64 0),()))) fun o4=>
 .ret o4.1
def mJ (c:TCore) (unit:W .i64):Option (Sl 8 (W .u64)):=(Fv c unit).eval
def rT (c:TCore) (l_3 s:Sl 8 (W .u64)) (i:W .i64):Tree (Rnd wI NP):=
 .ite (W.lt i (Sl.len l_3)) (.ite (W.lt i (Sl.len c.Lq)) (.opt (Sl.get? c.Lq i) fun y3=>
 .opt (Sl.get? l_3 i) fun y4=>
 .ite (W.ne y3.Seq y4) (.ret (.out (.inl (c,false,s,()))))
 (.ret (.next (c,l_3,s,(W.add i (W.of .i64 1)),()))))
 (.ret (.out (.inr (c,(),s,())))))
 (.ret (.out (.inr (c,(),s,()))))
def uT (a:wI):Option NP:=az (fun a:wI=>(rT a.1 a.2.1 a.2.2.1 a.2.2.2.1).eval) aa a
def rU (c:TCore) (s:Sl 8 (W .u64)) (i:W .i64):Tree (Rnd wJ aV):=
 .ite (W.lt i (Sl.len s)) (.ite (W.lt i (Sl.len c.Sq)) (.opt (Sl.get? c.Sq i) fun y8=>
 .opt (Sl.get? s i) fun y9=>
 .ite (W.ne y8.Seq y9) (.ret (.out (.inl (false,()))))
 (.ret (.next (c,s,(W.add i (W.of .i64 1)),()))))
 (.ret (.out (.inr ((),())))))
 (.ret (.out (.inr ((),()))))
def uU (a:wJ):Option aV:=az (fun a:wJ=>(rU a.1 a.2.1 a.2.2.1).eval) aa a
def Fs (c:TCore):Tree (Bool):=
 .opt (mJ c (W.of .i64 5)) fun r1=>
 .opt (mJ c (W.of .i64 6)) fun r2=>
 .ite (W.ne (Sl.len r1) (Sl.len c.Lq)) (.ret false)
 (.ite (W.ne (Sl.len r2) (Sl.len c.Sq)) (.ret false)
 (.opt (uT ((c,r1,r2,(W.of .i64 0),()))) fun o5=>
 .sum o5 (fun p6=>
 .ret p6.2.1)
 (fun o7=>
 .opt (uU ((o7.1,o7.2.2.1,(W.of .i64 0),()))) fun o10=>
 .sum o10 (fun p11=>
 .ret p11.1)
 (fun o12=>
 .ret true))))
def fS (c:TCore):Option (Bool):=(Fs c).eval
def MZ (f:TPhys) (p:W .i64):Tree (W .u32×Bool):=
 .opt (AW f p) fun r1=>
 .ite (!r1) (.ret ((W.of .u32 0),true))
 (.opt (Sl.get? f.Ready p) fun y2=>
 .ite (!y2) (.ret ((W.of .u32 0),false))
 (.opt (Sl.get? f.Val p) fun y3=>
 .ret (y3,true)))
def tl (f:TPhys) (p:W .i64):Option (W .u32×Bool):=(MZ f p).eval
def Jg (f:TPhys) (m:Arr 16 (W .i64)) (t_4 out:Arr 16 (W .u32)) (r:W .i64):Tree (Rnd gN wY):=
 .ite (W.lt r (W.of .i64 16)) (.opt (aI 16 r) fun j1=>
 .opt (tl f (Arr.get m j1)) fun r2=>
 .opt (aI 16 r) fun j3=>
 .ret (.next (f,m,t_4,(Arr.set out j3 r2.1),(W.add r (W.of .i64 1)),())))
 (.ret (.out (t_4,out,())))
def Md (a:gN):Option wY:=az (fun a:gN=>(Jg a.1 a.2.1 a.2.2.1 a.2.2.2.1 a.2.2.2.2.1).eval) aa a
def M2 (f:TPhys) (m:Arr 16 (W .i64)):Tree (Arr 16 (W .u32)):=
 .opt (Md ((f,m,(Arr.rep 16 (W.of .u32 0):Arr 16 (W .u32)),(Arr.rep 16 (W.of .u32 0):Arr 16 (W .u32)),(W.of .i64 1),()))) fun o4=>
 .ret o4.2.1
def fk (f:TPhys) (m:Arr 16 (W .i64)):Option (Arr 16 (W .u32)):=(M2 f m).eval
def Ar (a:TArch) (i:W .i64):Tree (Rnd wL wZ):=
 .ite (W.lt i (W.of .i64 12)) (.opt (aI 12 i) fun j1=>
 .opt (mu i) fun r2=>
 .opt (aI 12 i) fun j3=>
 .ite (W.ne (W.and (Arr.get a.C j1) r2) (Arr.get a.C j3)) (.ret (.out (.inl (a,false,()))))
 (.ret (.next (a,(W.add i (W.of .i64 1)),()))))
 (.ret (.out (.inr (a,(),()))))
def uP (a:wL):Option wZ:=az (fun a:wL=>(Ar a.1 a.2.1).eval) aa a
def Fo (a:TArch):Tree (Bool):=
 .opt (uP ((a,(W.of .i64 0),()))) fun o4=>
 .sum o4 (fun p5=>
 .ret p5.2.1)
 (fun o6=>
 .ret (W.eq (Arr.get o6.1.R 0) (W.of .u32 0)))
def eT (a:TArch):Option (Bool):=(Fo a).eval
def rZ (c:TCore) (i:W .i64):Tree (Rnd dm aV):=
 .ite (W.lt i (Sl.len c.Rob)) (.opt (Sl.get? c.Rob i) fun y1=>
 .ite (!y1.Done) (.ret (.next (c,(W.add i (W.of .i64 1)),())))
 (.ite (W.ne y1.Cause (W.of .i64 0)) (.ret (.next (c,(W.add i (W.of .i64 1)),())))
 (.ite (W.eq y1.Ren.Out (W.of .i64 (-1))) (.ret (.next (c,(W.add i (W.of .i64 1)),())))
 (.opt (tl c.Phys y1.Ren.Out) fun r2=>
 .ite (!r2.2) (.ret (.out (.inl (false,()))))
 (.ite (W.ne r2.1 y1.Val) (.ret (.out (.inl (false,()))))
 (.ret (.next (c,(W.add i (W.of .i64 1)),()))))))))
 (.ret (.out (.inr ((),()))))
def u3 (a:dm):Option aV:=az (fun a:dm=>(rZ a.1 a.2.1).eval) aa a
def Fw (c:TCore):Tree (Bool):=
 .opt (u3 ((c,(W.of .i64 0),()))) fun o3=>
 .sum o3 (fun p4=>
 .ret p4.1)
 (fun o5=>
 .ret true)
def eA (c:TCore):Option (Bool):=(Fw c).eval
def Ab (c:TCore) (out:Sl 8 (W .i64)) (rens:Sl 216 (TRen)) (i:W .i64):Tree hH:=
 .opt (Sl.get? c.Rob i) fun y2=>
 .opt (Sl.app? rens (Sl.lit 216 [y2.Ren] rfl:Sl 216 (TRen))) fun l3=>
 .ret (c,out,l3,(W.add i (W.of .i64 1)),())
def Ba (a:hH):Option hH:=(Ab a.1 a.2.1 a.2.2.1 a.2.2.2.1).eval
def rO (c:TCore) (out:Sl 8 (W .i64)) (rens:Sl 216 (TRen)) (i:W .i64):Tree (Rnd hH hJ):=
 .ite (W.lt i (Sl.len c.Rob)) (.opt (Ba ((c,out,rens,i,()))) fun o4=>
 .ret (.next (o4.1,o4.2.1,o4.2.2.1,o4.2.2.2.1,())))
 (.ret (.out (c,out,rens,())))
def nl (a:hH):Option hJ:=az (fun a:hH=>(rO a.1 a.2.1 a.2.2.1 a.2.2.2.1).eval) aa a
def Ae (c:TCore) (out:Sl 8 (W .i64)) (rens:Sl 216 (TRen)) (t_53:Bool):Tree hJ:=
 .ite t_53 (.opt (Sl.app? out (Sl.lit 8 [(W.of .i64 2)] rfl:Sl 8 (W .i64))) fun l7=>
 .ret (c,l7,rens,()))
 (.ret (c,out,rens,()))
def iQ (a:Og):Option hJ:=(Ae a.1 a.2.1 a.2.2.1 a.2.2.2.1).eval
def Jk (out:Sl 8 (W .i64)):Tree bu:=
 .ret ((),out,())
def uN (a:cq):Option bu:=(Jk a.1).eval
def Al (c:TCore) (out:Sl 8 (W .i64)):Tree bu:=
 .opt (eA c) fun r21=>
 .ite (!r21) (.opt (Sl.app? out (Sl.lit 8 [(W.of .i64 9)] rfl:Sl 8 (W .i64))) fun l22=>
 .opt (uN ((l22,()))) fun o23=>
 .ret ((),o23.2.1,()))
 (.opt (uN ((out,()))) fun o24=>
 .ret ((),o24.2.1,()))
def nw (a:cH):Option bu:=(Al a.1 a.2.1).eval
def Ak (c:TCore) (out:Sl 8 (W .i64)):Tree bu:=
 .opt (eT c.A) fun r19=>
 .ite (!r19) (.opt (Sl.app? out (Sl.lit 8 [(W.of .i64 8)] rfl:Sl 8 (W .i64))) fun l20=>
 .opt (nw ((c,l20,()))) fun o25=>
 .ret ((),o25.2.1,()))
 (.opt (nw ((c,out,()))) fun o26=>
 .ret ((),o26.2.1,()))
def nv (a:cH):Option bu:=(Ak a.1 a.2.1).eval
def Aj (c:TCore) (out:Sl 8 (W .i64)):Tree bu:=
 .opt (fk c.Phys c.Names.Done) fun r17=>
 .ite (!(Tab.eq ab (.arr 16 (.int .u32)) r17 c.A.R)) (.opt (Sl.app? out (Sl.lit 8 [(W.of .i64 7)] rfl:Sl 8 (W .i64))) fun l18=>
 .opt (nv ((c,l18,()))) fun o27=>
 .ret ((),o27.2.1,()))
 (.opt (nv ((c,out,()))) fun o28=>
 .ret ((),o28.2.1,()))
def nu (a:cH):Option bu:=(Aj a.1 a.2.1).eval
def Ai (c:TCore) (out:Sl 8 (W .i64)):Tree bu:=
 .opt (fS c) fun r15=>
 .ite (!r15) (.opt (Sl.app? out (Sl.lit 8 [(W.of .i64 6)] rfl:Sl 8 (W .i64))) fun l16=>
 .opt (nu ((c,l16,()))) fun o29=>
 .ret ((),o29.2.1,()))
 (.opt (nu ((c,out,()))) fun o30=>
 .ret ((),o30.2.1,()))
def nr (a:cH):Option bu:=(Ai a.1 a.2.1).eval
def Ah (c:TCore) (out:Sl 8 (W .i64)):Tree bu:=
 .opt (gG c) fun r13=>
 .ite (!r13) (.opt (Sl.app? out (Sl.lit 8 [(W.of .i64 5)] rfl:Sl 8 (W .i64))) fun l14=>
 .opt (nr ((c,l14,()))) fun o31=>
 .ret ((),o31.2.1,()))
 (.opt (nr ((c,out,()))) fun o32=>
 .ret ((),o32.2.1,()))
def nq (a:cH):Option bu:=(Ah a.1 a.2.1).eval
def Ag (c:TCore) (out:Sl 8 (W .i64)):Tree bu:=
 .opt (iM c) fun r11=>
 .ite (!r11) (.opt (Sl.app? out (Sl.lit 8 [(W.of .i64 4)] rfl:Sl 8 (W .i64))) fun l12=>
 .opt (nq ((c,l12,()))) fun o33=>
 .ret ((),o33.2.1,()))
 (.opt (nq ((c,out,()))) fun o34=>
 .ret ((),o34.2.1,()))
def nm (a:cH):Option bu:=(Ag a.1 a.2.1).eval
def Af (c:TCore) (out:Sl 8 (W .i64)) (rens:Sl 216 (TRen)):Tree bu:=
 .opt (ke c.Names c.Conf.Phys rens) fun r9=>
 .ite (!r9) (.opt (Sl.app? out (Sl.lit 8 [(W.of .i64 3)] rfl:Sl 8 (W .i64))) fun l10=>
 .opt (nm ((c,l10,()))) fun o35=>
 .ret ((),o35.2.1,()))
 (.opt (nm ((c,out,()))) fun o36=>
 .ret ((),o36.2.1,()))
def ku (a:hJ):Option bu:=(Af a.1 a.2.1 a.2.2.1).eval
def Ad (c:TCore) (out:Sl 8 (W .i64)) (rens:Sl 216 (TRen)):Tree bu:=
 .opt (tr c.Rob) fun r6=>
 .ite (!r6) (.opt (iQ ((c,out,rens,true,()))) fun o8=>
 .opt (ku ((o8.1,o8.2.1,o8.2.2.1,()))) fun o37=>
 .ret ((),o37.2.1,()))
 (.ite (W.gt (Sl.len c.Rob) (W.of .i64 0)) (.opt (Sl.get? c.Rob (W.sub (Sl.len c.Rob) (W.of .i64 1))) fun y38=>
 .opt (iQ ((c,out,rens,(W.ge y38.Ren.Seq c.Names.Seq),()))) fun o39=>
 .opt (ku ((o39.1,o39.2.1,o39.2.2.1,()))) fun o40=>
 .ret ((),o40.2.1,()))
 (.opt (iQ ((c,out,rens,false,()))) fun o41=>
 .opt (ku ((o41.1,o41.2.1,o41.2.2.1,()))) fun o42=>
 .ret ((),o42.2.1,())))
def uM (a:hJ):Option bu:=(Ad a.1 a.2.1 a.2.2.1).eval
def Am (c:TCore):Tree bu:=
 .opt (nl ((c,(Sl.lit 8 [] rfl:Sl 8 (W .i64)),(Sl.lit 216 [] rfl:Sl 216 (TRen)),(W.of .i64 0),()))) fun o5=>
 .opt (uM ((o5.1,o5.2.1,o5.2.2.1,()))) fun o43=>
 .ret ((),o43.2.1,())
def uO (a:Y0):Option bu:=(Am a.1).eval
def Fl (c:TCore):Tree (Sl 8 (W .i64)):=
 .opt (tC c) fun r1=>
 .ite (!r1) (.ret (Sl.lit 8 [(W.of .i64 1)] rfl:Sl 8 (W .i64)))
 (.opt (uO ((c,()))) fun o44=>
 .ret o44.2.1)
def tB (c:TCore):Option (Sl 8 (W .i64)):=(Fl c).eval
def rB (l_5:Sl 40 (TWay)) (a some k:W .i64):Tree (Rnd xw NQ):=
 .ite (W.lt k (Sl.len l_5)) (.opt (Sl.get? l_5 k) fun y2=>
 .ite (W.eq y2.Age a) (.ret (.next (l_5,a,(W.add some (W.of .i64 1)),(W.add k (W.of .i64 1)),())))
 (.ret (.next (l_5,a,some,(W.add k (W.of .i64 1)),()))))
 (.ret (.out (l_5,a,some,())))
def uD (a:xw):Option NQ:=az (fun a:xw=>(rB a.1 a.2.1 a.2.2.1 a.2.2.2.1).eval) aa a
def rC (l_5:Sl 40 (TWay)) (a:W .i64):Tree (Rnd xy aV):=
 .ite (W.lt a (Sl.len l_5)) (.opt (uD ((l_5,a,(W.of .i64 0),(W.of .i64 0),()))) fun o3=>
 .ite (W.ne o3.2.2.1 (W.of .i64 1)) (.ret (.out (.inl (false,()))))
 (.ret (.next (o3.1,(W.add o3.2.1 (W.of .i64 1)),()))))
 (.ret (.out (.inr ((),()))))
def uE (a:xy):Option aV:=az (fun a:xy=>(rC a.1 a.2.1).eval) aa a
def E6 (c:TCache) (s:W .i64):Tree (Bool):=
 .opt (Sl.get? c.Sets s) fun y1=>
 .opt (uE ((y1,(W.of .i64 0),()))) fun o4=>
 .sum o4 (fun p5=>
 .ret p5.1)
 (fun o6=>
 .ret true)
def kg (c:TCache) (s:W .i64):Option (Bool):=(E6 c s).eval
def vP (c:TCache) (line:W .u32):Tree (W .i64):=
 .ite (W.eq (Sl.len c.Sets) (W.of .i64 0)) (.ret (W.of .i64 (-1)))
 (.opt (W.rem? (W.conv (.i64) line) (Sl.len c.Sets)) fun z1=>
 .ret z1)
def gF (c:TCache) (line:W .u32):Option (W .i64):=(vP c line).eval
def rD (s:W .i64) (c:TCache) (l_5:Sl 40 (TWay)) (k j:W .i64):Tree (Rnd wh NR):=
 .ite (W.lt j k) (.opt (Sl.get? l_5 k) fun y10=>
 .ite (W.ne y10.State (W.of .i64 0)) (.opt (Sl.get? l_5 j) fun y11=>
 .ite (W.ne y11.State (W.of .i64 0)) (.opt (Sl.get? l_5 k) fun y12=>
 .opt (Sl.get? l_5 j) fun y13=>
 .ite (W.eq y12.Tag y13.Tag) (.ret (.out (.inl (s,c,false,l_5,k,()))))
 (.ret (.next (s,c,l_5,k,(W.add j (W.of .i64 1)),()))))
 (.ret (.next (s,c,l_5,k,(W.add j (W.of .i64 1)),()))))
 (.ret (.next (s,c,l_5,k,(W.add j (W.of .i64 1)),()))))
 (.ret (.out (.inr (s,c,(),l_5,k,()))))
def iP (a:wh):Option NR:=az (fun a:wh=>(rD a.1 a.2.1 a.2.2.1 a.2.2.2.1 a.2.2.2.2.1).eval) aa a
def rE (s:W .i64) (c:TCache) (l_5:Sl 40 (TWay)) (k:W .i64):Tree (Rnd wj aV):=
 .ite (W.lt k (Sl.len l_5)) (.opt (Sl.get? l_5 k) fun y2=>
 .ite (W.lt y2.State (W.of .i64 0)) (.ret (.out (.inl (false,()))))
 (.opt (Sl.get? l_5 k) fun y3=>
 .ite (W.gt y3.State (W.of .i64 3)) (.ret (.out (.inl (false,()))))
 (.opt (Sl.get? l_5 k) fun y4=>
 .ite (W.eq y4.State (W.of .i64 0)) (.opt (Sl.get? l_5 k) fun y5=>
 .ite (W.ne y5.Tag (W.of .u32 0)) (.ret (.out (.inl (false,()))))
 (.opt (Sl.get? l_5 k) fun y6=>
 .ite (!(Tab.eq ab (.arr 16 (.int .u8)) y6.Data (Arr.lit 16 [(W.of .u8 0),(W.of .u8 0),(W.of .u8 0),(W.of .u8 0),(W.of .u8 0),(W.of .u8 0),(W.of .u8 0),(W.of .u8 0),(W.of .u8 0),(W.of .u8 0),(W.of .u8 0),(W.of .u8 0),(W.of .u8 0),(W.of .u8 0),(W.of .u8 0),(W.of .u8 0)] rfl:Arr 16 (W .u8)))) (.ret (.out (.inl (false,()))))
 (.opt (Sl.get? l_5 k) fun y7=>
 .ite (W.ne y7.State (W.of .i64 0)) (.opt (Sl.get? l_5 k) fun y8=>
 .opt (gF c y8.Tag) fun r9=>
 .ite (W.ne r9 s) (.ret (.out (.inl (false,()))))
 (.opt (iP ((s,c,l_5,k,(W.of .i64 0),()))) fun o14=>
 .sum o14 (fun p15=>
 .ret (.out (.inl (p15.2.2.1,()))))
 (fun o16=>
 .ret (.next (o16.1,o16.2.1,o16.2.2.2.1,(W.add o16.2.2.2.2.1 (W.of .i64 1)),())))))
 (.opt (iP ((s,c,l_5,k,(W.of .i64 0),()))) fun o17=>
 .sum o17 (fun p18=>
 .ret (.out (.inl (p18.2.2.1,()))))
 (fun o19=>
 .ret (.next (o19.1,o19.2.1,o19.2.2.2.1,(W.add o19.2.2.2.2.1 (W.of .i64 1)),())))))))
 (.opt (Sl.get? l_5 k) fun y20=>
 .ite (W.ne y20.State (W.of .i64 0)) (.opt (Sl.get? l_5 k) fun y21=>
 .opt (gF c y21.Tag) fun r22=>
 .ite (W.ne r22 s) (.ret (.out (.inl (false,()))))
 (.opt (iP ((s,c,l_5,k,(W.of .i64 0),()))) fun o23=>
 .sum o23 (fun p24=>
 .ret (.out (.inl (p24.2.2.1,()))))
 (fun o25=>
 .ret (.next (o25.1,o25.2.1,o25.2.2.2.1,(W.add o25.2.2.2.2.1 (W.of .i64 1)),())))))
 (.opt (iP ((s,c,l_5,k,(W.of .i64 0),()))) fun o26=>
 .sum o26 (fun p27=>
 .ret (.out (.inl (p27.2.2.1,()))))
 (fun o28=>
 .ret (.next (o28.1,o28.2.1,o28.2.2.2.1,(W.add o28.2.2.2.2.1 (W.of .i64 1)),()))))))))
 (.ret (.out (.inr ((),()))))
def uF (a:wj):Option aV:=az (fun a:wj=>(rE a.1 a.2.1 a.2.2.1 a.2.2.2.1).eval) aa a
def E7 (c:TCache) (s:W .i64):Tree (Bool):=
 .opt (Sl.get? c.Sets s) fun y1=>
 .opt (uF ((s,c,y1,(W.of .i64 0),()))) fun o29=>
 .sum o29 (fun p30=>
 .ret p30.1)
 (fun o31=>
 .ret true)
def ki (c:TCache) (s:W .i64):Option (Bool):=(E7 c s).eval
def rA (c:TCache) (s:W .i64):Tree (Rnd fw aV):=
 .ite (W.lt s (Sl.len c.Sets)) (.opt (Sl.get? c.Sets s) fun y1=>
 .ite (W.lt (Sl.len y1) (W.of .i64 1)) (.ret (.out (.inl (false,()))))
 (.ite (W.gt (Sl.len y1) (W.of .i64 4)) (.ret (.out (.inl (false,()))))
 (.opt (Sl.get? c.Sets (W.of .i64 0)) fun y2=>
 .ite (W.ne (Sl.len y1) (Sl.len y2)) (.ret (.out (.inl (false,()))))
 (.opt (kg c s) fun r3=>
 .ite (!r3) (.ret (.out (.inl (false,()))))
 (.opt (ki c s) fun r4=>
 .ite (!r4) (.ret (.out (.inl (false,()))))
 (.ret (.next (c,(W.add s (W.of .i64 1)),()))))))))
 (.ret (.out (.inr ((),()))))
def uC (a:fw):Option aV:=az (fun a:fw=>(rA a.1 a.2.1).eval) aa a
def E5 (c:TCache):Tree (Bool):=
 .ite (W.lt (Sl.len c.Sets) (W.of .i64 1)) (.ret false)
 (.ite (W.gt (Sl.len c.Sets) (W.of .i64 8)) (.ret false)
 (.opt (uC ((c,(W.of .i64 0),()))) fun o5=>
 .sum o5 (fun p6=>
 .ret p6.1)
 (fun o7=>
 .ret true)))
def mD (c:TCache):Option (Bool):=(E5 c).eval
def E9 (m:TCoh) (line:W .u32):Tree (Bool):=
 .ret (W.le (W.add (W.mul (W.conv (.u64) line) (W.of .u64 16)) (W.of .u64 16)) (W.conv (.u64) (Sl.len m.Mem)))
def mE (m:TCoh) (line:W .u32):Option (Bool):=(E9 m line).eval
def rM (line:W .u32) (m:TCoh) (t_4 out:Arr 16 (W .u8)) (i:W .i64):Tree (Rnd wM NS):=
 .ite (W.lt i (W.of .i64 16)) (.opt (Sl.get? m.Mem (W.add (W.mul (W.conv (.i64) line) (W.of .i64 16)) i)) fun y1=>
 .opt (aI 16 i) fun j2=>
 .ret (.next (line,m,t_4,(Arr.set out j2 y1),(W.add i (W.of .i64 1)),())))
 (.ret (.out (t_4,out,())))
def nj (a:wM):Option NS:=az (fun a:wM=>(rM a.1 a.2.1 a.2.2.1 a.2.2.2.1 a.2.2.2.2.1).eval) aa a
def Ff (m:TCoh) (line:W .u32):Tree (Arr 16 (W .u8)):=
 .opt (nj ((line,m,(Arr.rep 16 (W.of .u8 0):Arr 16 (W .u8)),(Arr.lit 16 [(W.of .u8 0),(W.of .u8 0),(W.of .u8 0),(W.of .u8 0),(W.of .u8 0),(W.of .u8 0),(W.of .u8 0),(W.of .u8 0),(W.of .u8 0),(W.of .u8 0),(W.of .u8 0),(W.of .u8 0),(W.of .u8 0),(W.of .u8 0),(W.of .u8 0),(W.of .u8 0)] rfl:Arr 16 (W .u8)),(W.of .i64 0),()))) fun o3=>
 .ret o3.2.1
def mF (m:TCoh) (line:W .u32):Option (Arr 16 (W .u8)):=(Ff m line).eval
def E8 (m:TCoh) (who:W .i64):Tree (Bool):=
 .ite (W.ge who (W.of .i64 0)) (.ret (W.lt who (Sl.len m.Caches)))
 (.ret false)
def tu (m:TCoh) (who:W .i64):Option (Bool):=(E8 m who).eval
def lQ (line:W .u32) (c:TCache) (s k:W .i64):Tree (Rnd wk NT):=
 .opt (Sl.get? c.Sets s) fun y2=>
 .ite (W.lt k (Sl.len y2)) (.opt (Sl.get? c.Sets s) fun y3=>
 .opt (Sl.get? y3 k) fun y4=>
 .ite (W.eq y4.Tag line) (.opt (Sl.get? c.Sets s) fun y5=>
 .opt (Sl.get? y5 k) fun y6=>
 .ite (W.ne y6.State (W.of .i64 0)) (.ret (.out (.inl (s,k,true,()))))
 (.ret (.next (line,c,s,(W.add k (W.of .i64 1)),()))))
 (.ret (.next (line,c,s,(W.add k (W.of .i64 1)),()))))
 (.ret (.out (.inr ((),(),(),()))))
def uB (a:wk):Option NT:=az (fun a:wk=>(lQ a.1 a.2.1 a.2.2.1 a.2.2.2.1).eval) aa a
def vO (c:TCache) (line:W .u32):Tree (W .i64×W .i64×Bool):=
 .opt (gF c line) fun r1=>
 .ite (W.lt r1 (W.of .i64 0)) (.ret ((W.of .i64 0),(W.of .i64 0),false))
 (.opt (uB ((line,c,r1,(W.of .i64 0),()))) fun o7=>
 .sum o7 (fun p8=>
 .ret (p8.1,p8.2.1,p8.2.2.1))
 (fun o9=>
 .ret ((W.of .i64 0),(W.of .i64 0),false)))
def kf (c:TCache) (line:W .u32):Option (W .i64×W .i64×Bool):=(vO c line).eval
def Fi (c:TCache) (line:W .u32):Tree (TWay):=
 .opt (kf c line) fun r1=>
 .ite (!r1.2.2) (.ret (TWay.mk (W.of .i64 0) (W.of .u32 0) (Arr.rep 16 (W.of .u8 0):Arr 16 (W .u8)) (W.of .i64 0)))
 (.opt (Sl.get? c.Sets r1.1) fun y2=>
 .opt (Sl.get? y2 r1.2.1) fun y3=>
 .ret y3)
def tz (c:TCache) (line:W .u32):Option (TWay):=(Fi c line).eval
def Fc (m:TCoh) (who:W .i64) (line:W .u32):Tree (W .i64):=
 .opt (tu m who) fun r1=>
 .ite (!r1) (.ret (W.of .i64 0))
 (.opt (Sl.get? m.Caches who) fun y2=>
 .opt (tz y2 line) fun r3=>
 .ret r3.State)
def tw (m:TCoh) (who:W .i64) (line:W .u32):Option (W .i64):=(Fc m who line).eval
def rz (states:Sl 8 (W .i64)) (some:W .i64) (alone:Bool) (i:W .i64):Tree (Rnd wm NU):=
 .ite (W.lt i (Sl.len states)) (.opt (Sl.get? states i) fun y1=>
 .ite (W.lt y1 (W.of .i64 0)) (.ret (.out (.inl (false,some,alone,()))))
 (.opt (Sl.get? states i) fun y2=>
 .ite (W.gt y2 (W.of .i64 3)) (.ret (.out (.inl (false,some,alone,()))))
 (.opt (Sl.get? states i) fun y3=>
 .ite (W.gt y3 (W.of .i64 0)) (.opt (Sl.get? states i) fun y4=>
 .ite (W.gt y4 (W.of .i64 1)) (.ret (.next (states,(W.add some (W.of .i64 1)),true,(W.add i (W.of .i64 1)),())))
 (.ret (.next (states,(W.add some (W.of .i64 1)),alone,(W.add i (W.of .i64 1)),()))))
 (.opt (Sl.get? states i) fun y5=>
 .ite (W.gt y5 (W.of .i64 1)) (.ret (.next (states,some,true,(W.add i (W.of .i64 1)),())))
 (.ret (.next (states,some,alone,(W.add i (W.of .i64 1)),())))))))
 (.ret (.out (.inr ((),some,alone,()))))
def ni (a:wm):Option NU:=az (fun a:wm=>(rz a.1 a.2.1 a.2.2.1 a.2.2.2.1).eval) aa a
def E4 (states:Sl 8 (W .i64)):Tree (Bool):=
 .opt (ni ((states,(W.of .i64 0),false,(W.of .i64 0),()))) fun o6=>
 .sum o6 (fun p7=>
 .ret p7.1)
 (fun o8=>
 .ite (!o8.2.2.1) (.ret true)
 (.ret (W.eq o8.2.1 (W.of .i64 1))))
def mC (states:Sl 8 (W .i64)):Option (Bool):=(E4 states).eval
def rI (m:TCoh) (k s w:W .i64) (x:TWay) (l_7:Sl 8 (W .i64)) (j:W .i64):Tree (Rnd wN NV):=
 .ite (W.lt j (Sl.len m.Caches)) (.opt (tw m j x.Tag) fun r11=>
 .opt (Sl.app? l_7 (Sl.lit 8 [r11] rfl:Sl 8 (W .i64))) fun l12=>
 .ret (.next (m,k,s,w,x,l12,(W.add j (W.of .i64 1)),())))
 (.ret (.out (m,k,s,w,l_7,())))
def kq (a:wN):Option NV:=az (fun a:wN=>(rI a.1 a.2.1 a.2.2.1 a.2.2.2.1 a.2.2.2.2.1 a.2.2.2.2.2.1 a.2.2.2.2.2.2.1).eval) aa a
def rG (m:TCoh) (k s w:W .i64):Tree (Rnd wO NW):=
 .opt (Sl.get? m.Caches k) fun y4=>
 .opt (Sl.get? y4.Sets s) fun y5=>
 .ite (W.lt w (Sl.len y5)) (.opt (Sl.get? m.Caches k) fun y6=>
 .opt (Sl.get? y6.Sets s) fun y7=>
 .opt (Sl.get? y7 w) fun y8=>
 .ite (W.eq y8.State (W.of .i64 0)) (.ret (.next (m,k,s,(W.add w (W.of .i64 1)),())))
 (.opt (mE m y8.Tag) fun r9=>
 .ite (!r9) (.ret (.out (.inl (m,false,k,s,()))))
 (.ite (W.ne y8.State (W.of .i64 3)) (.opt (mF m y8.Tag) fun r10=>
 .ite (!(Tab.eq ab (.arr 16 (.int .u8)) y8.Data r10)) (.ret (.out (.inl (m,false,k,s,()))))
 (.opt (kq ((m,k,s,w,y8,(Sl.lit 8 [] rfl:Sl 8 (W .i64)),(W.of .i64 0),()))) fun o13=>
 .opt (mC o13.2.2.2.2.1) fun r14=>
 .ite (!r14) (.ret (.out (.inl (o13.1,false,o13.2.1,o13.2.2.1,()))))
 (.ret (.next (o13.1,o13.2.1,o13.2.2.1,(W.add o13.2.2.2.1 (W.of .i64 1)),())))))
 (.opt (kq ((m,k,s,w,y8,(Sl.lit 8 [] rfl:Sl 8 (W .i64)),(W.of .i64 0),()))) fun o15=>
 .opt (mC o15.2.2.2.2.1) fun r16=>
 .ite (!r16) (.ret (.out (.inl (o15.1,false,o15.2.1,o15.2.2.1,()))))
 (.ret (.next (o15.1,o15.2.1,o15.2.2.1,(W.add o15.2.2.2.1 (W.of .i64 1)),())))))))
 (.ret (.out (.inr (m,(),k,s,()))))
def uH (a:wO):Option NW:=az (fun a:wO=>(rG a.1 a.2.1 a.2.2.1 a.2.2.2.1).eval) aa a
def rF (m:TCoh) (k s:W .i64):Tree (Rnd gV wU):=
 .opt (Sl.get? m.Caches k) fun y3=>
 .ite (W.lt s (Sl.len y3.Sets)) (.opt (uH ((m,k,s,(W.of .i64 0),()))) fun o17=>
 .sum o17 (fun p18=>
 .ret (.out (.inl (p18.1,p18.2.1,p18.2.2.1,()))))
 (fun o19=>
 .ret (.next (o19.1,o19.2.2.1,(W.add o19.2.2.2.1 (W.of .i64 1)),()))))
 (.ret (.out (.inr (m,(),k,()))))
def uG (a:gV):Option wU:=az (fun a:gV=>(rF a.1 a.2.1 a.2.2.1).eval) aa a
def rH (m:TCoh) (k:W .i64):Tree (Rnd fx aV):=
 .ite (W.lt k (Sl.len m.Caches)) (.opt (Sl.get? m.Caches k) fun y1=>
 .opt (mD y1) fun r2=>
 .ite (!r2) (.ret (.out (.inl (false,()))))
 (.opt (uG ((m,k,(W.of .i64 0),()))) fun o20=>
 .sum o20 (fun p21=>
 .ret (.out (.inl (p21.2.1,()))))
 (fun o22=>
 .ret (.next (o22.1,(W.add o22.2.2.1 (W.of .i64 1)),())))))
 (.ret (.out (.inr ((),()))))
def uI (a:fx):Option aV:=az (fun a:fx=>(rH a.1 a.2.1).eval) aa a
def Fa (m:TCoh):Tree (Bool):=
 .opt (uI ((m,(W.of .i64 0),()))) fun o23=>
 .sum o23 (fun p24=>
 .ret p24.1)
 (fun o25=>
 .ret true)
def tv (m:TCoh):Option (Bool):=(Fa m).eval
def Fj (m:TCoh):Tree (Bool):=
 .opt (mr m.Mem) fun r1=>
 .ite r1 (.ite (W.ge (Sl.len m.Caches) (W.of .i64 1)) (.ite (W.le (Sl.len m.Caches) (W.of .i64 2)) (.opt (tv m) fun r2=>
 .ret r2)
 (.ret false))
 (.ret false))
 (.ret false)
def mH (m:TCoh):Option (Bool):=(Fj m).eval
def Fg (m:TCoh):Tree (TCoh):=
 .opt (Sl.make? 1 (W.of .u8 0) (Sl.len m.Mem) (Sl.len m.Mem)) fun l1=>
 .opt (Sl.make? 24 (TCache.mk (Sl.nil:Sl 24 (Sl 40 (TWay)))) (Sl.len m.Caches) (Sl.len m.Caches)) fun l2=>
 .ret (TCoh.mk (Sl.copy l1 0 m.Mem) (Sl.copy l2 0 m.Caches))
def mG (m:TCoh):Option (TCoh):=(Fg m).eval
def rN (line:W .u32) (data:Arr 16 (W .u8)) (t_6 out:TCoh) (i:W .i64):Tree (Rnd wo (TCoh×TCoh×Unit)):=
 .ite (W.lt i (W.of .i64 16)) (.opt (aI 16 i) fun j3=>
 .opt (aI (List.length out.Mem.l) (W.add (W.mul (W.conv (.i64) line) (W.of .i64 16)) i)) fun j4=>
 .ret (.next (line,data,t_6,({ out with Mem:=(Sl.set out.Mem j4 (Arr.get data j3)) }:TCoh),(W.add i (W.of .i64 1)),())))
 (.ret (.out (t_6,out,())))
def nk (a:wo):Option (TCoh×TCoh×Unit):=az (fun a:wo=>(rN a.1 a.2.1 a.2.2.1 a.2.2.2.1 a.2.2.2.2.1).eval) aa a
def Fh (m:TCoh) (line:W .u32) (data:Arr 16 (W .u8)):Tree (TCoh):=
 .opt (mE m line) fun r1=>
 .ite (!r1) (.ret m)
 (.opt (mG m) fun r2=>
 .opt (nk ((line,data,(TCoh.mk (Sl.nil:Sl 1 (W .u8)) (Sl.nil:Sl 24 (TCache))),r2,(W.of .i64 0),()))) fun o5=>
 .ret o5.2.1)
def tx (m:TCoh) (line:W .u32) (data:Arr 16 (W .u8)):Option (TCoh):=(Fh m line data).eval
def rK (m:TCoh) (out:Sl 1 (W .u8)) (k s w:W .i64):Tree (Rnd xU kP):=
 .opt (Sl.get? m.Caches k) fun y3=>
 .opt (Sl.get? y3.Sets s) fun y4=>
 .ite (W.lt w (Sl.len y4)) (.opt (Sl.get? m.Caches k) fun y5=>
 .opt (Sl.get? y5.Sets s) fun y6=>
 .opt (Sl.get? y6 w) fun y7=>
 .ite (W.eq y7.State (W.of .i64 3)) (.opt (tx (TCoh.mk out (Sl.nil:Sl 24 (TCache))) y7.Tag y7.Data) fun r8=>
 .ret (.next (m,r8.Mem,k,s,(W.add w (W.of .i64 1)),())))
 (.ret (.next (m,out,k,s,(W.add w (W.of .i64 1)),()))))
 (.ret (.out (m,out,k,s,())))
def uK (a:xU):Option kP:=az (fun a:xU=>(rK a.1 a.2.1 a.2.2.1 a.2.2.2.1 a.2.2.2.2.1).eval) aa a
def rJ (m:TCoh) (out:Sl 1 (W .u8)) (k s:W .i64):Tree (Rnd kP kQ):=
 .opt (Sl.get? m.Caches k) fun y2=>
 .ite (W.lt s (Sl.len y2.Sets)) (.opt (uK ((m,out,k,s,(W.of .i64 0),()))) fun o9=>
 .ret (.next (o9.1,o9.2.1,o9.2.2.1,(W.add o9.2.2.2.1 (W.of .i64 1)),())))
 (.ret (.out (m,out,k,())))
def uJ (a:kP):Option kQ:=az (fun a:kP=>(rJ a.1 a.2.1 a.2.2.1 a.2.2.2.1).eval) aa a
def rL (m:TCoh) (out:Sl 1 (W .u8)) (k:W .i64):Tree (Rnd kQ cV):=
 .ite (W.lt k (Sl.len m.Caches)) (.opt (uJ ((m,out,k,(W.of .i64 0),()))) fun o10=>
 .ret (.next (o10.1,o10.2.1,(W.add o10.2.2.1 (W.of .i64 1)),())))
 (.ret (.out (out,())))
def uL (a:kQ):Option cV:=az (fun a:kQ=>(rL a.1 a.2.1 a.2.2.1).eval) aa a
def Fe (m:TCoh):Tree (Sl 1 (W .u8)):=
 .opt (mG m) fun r1=>
 .opt (uL ((m,r1.Mem,(W.of .i64 0),()))) fun o11=>
 .ret o11.1
def AZ (m:TCoh):Option (Sl 1 (W .u8)):=(Fe m).eval
def Fk (m:TCoh):Tree (Sl 1 (W .u8)):=
 .opt (AZ m) fun r1=>
 .ret r1
def tA (m:TCoh):Option (Sl 1 (W .u8)):=(Fk m).eval
def EK (m:Sl 1 (W .u8)) (addr:W .u32) (size:W .i64):Tree (W .i64):=
 .ite (W.eq size (W.of .i64 1)) (.ite (W.le (W.add (W.conv (.i64) addr) size) (Sl.len m)) (.ret (W.of .i64 0))
 (.ret (W.of .i64 9)))
 (.ite (W.eq size (W.of .i64 2)) (.ite (W.le (W.add (W.conv (.i64) addr) size) (Sl.len m)) (.ret (W.of .i64 0))
 (.ret (W.of .i64 9)))
 (.ite (W.eq size (W.of .i64 4)) (.ite (W.le (W.add (W.conv (.i64) addr) size) (Sl.len m)) (.ret (W.of .i64 0))
 (.ret (W.of .i64 9)))
 (.ret (W.of .i64 9))))
def kc (m:Sl 1 (W .u8)) (addr:W .u32) (size:W .i64):Option (W .i64):=(EK m addr size).eval
def ry (l_0:Sl 16 (TSb)) (m:Sl 1 (W .u8)) (i:W .i64):Tree (Rnd xV aV):=
 .ite (W.lt i (Sl.len l_0)) (.opt (Sl.get? l_0 i) fun y1=>
 .ite (W.ne y1.Size (W.of .i64 1)) (.ite (W.ne y1.Size (W.of .i64 2)) (.ite (W.ne y1.Size (W.of .i64 4)) (.ret (.out (.inl (false,()))))
 (.opt (Sl.get? l_0 i) fun y2=>
 .opt (W.rem? y2.Addr (W.conv (.u32) y1.Size)) fun z3=>
 .ite (W.ne z3 (W.of .u32 0)) (.ret (.out (.inl (false,()))))
 (.opt (Sl.get? l_0 i) fun y4=>
 .opt (kc m y4.Addr y1.Size) fun r5=>
 .ite (W.ne r5 (W.of .i64 0)) (.ret (.out (.inl (false,()))))
 (.ret (.next (l_0,m,(W.add i (W.of .i64 1)),()))))))
 (.opt (Sl.get? l_0 i) fun y6=>
 .opt (W.rem? y6.Addr (W.conv (.u32) y1.Size)) fun z7=>
 .ite (W.ne z7 (W.of .u32 0)) (.ret (.out (.inl (false,()))))
 (.opt (Sl.get? l_0 i) fun y8=>
 .opt (kc m y8.Addr y1.Size) fun r9=>
 .ite (W.ne r9 (W.of .i64 0)) (.ret (.out (.inl (false,()))))
 (.ret (.next (l_0,m,(W.add i (W.of .i64 1)),()))))))
 (.opt (Sl.get? l_0 i) fun y10=>
 .opt (W.rem? y10.Addr (W.conv (.u32) y1.Size)) fun z11=>
 .ite (W.ne z11 (W.of .u32 0)) (.ret (.out (.inl (false,()))))
 (.opt (Sl.get? l_0 i) fun y12=>
 .opt (kc m y12.Addr y1.Size) fun r13=>
 .ite (W.ne r13 (W.of .i64 0)) (.ret (.out (.inl (false,()))))
 (.ret (.next (l_0,m,(W.add i (W.of .i64 1)),()))))))
 (.ret (.out (.inr ((),()))))
def uA (a:xV):Option aV:=az (fun a:xV=>(ry a.1 a.2.1 a.2.2.1).eval) aa a
def E3 (l_0:Sl 16 (TSb)) (m:Sl 1 (W .u8)):Tree (Bool):=
 .ite (W.gt (Sl.len l_0) (W.of .i64 8)) (.ret false)
 (.opt (uA ((l_0,m,(W.of .i64 0),()))) fun o14=>
 .sum o14 (fun p15=>
 .ret p15.1)
 (fun o16=>
 .ret true))
def iL (l_0:Sl 16 (TSb)) (m:Sl 1 (W .u8)):Option (Bool):=(E3 l_0 m).eval
def rf (t_0:Sl 1 (W .u8)) (some:Bool) (bits:W .i64):Tree (Rnd gS NX):=
 .ite (W.le bits (W.of .i64 8)) (.ite some (.ret (.next (t_0,true,(W.add bits (W.of .i64 1)),())))
 (.opt (kd bits) fun r1=>
 .ret (.next (t_0,(W.eq (Sl.len t_0) r1),(W.add bits (W.of .i64 1)),()))))
 (.ret (.out (t_0,some,())))
def uw (a:gS):Option NX:=az (fun a:gS=>(rf a.1 a.2.1 a.2.2.1).eval) aa a
def jT (t_0:Sl 1 (W .u8)) (some:Bool) (i:W .i64):Tree (Rnd gS Y1):=
 .ite (W.lt i (Sl.len t_0)) (.ite some (.opt (Sl.get? t_0 i) fun y3=>
 .ret (.next (t_0,(W.le y3 (W.of .u8 3)),(W.add i (W.of .i64 1)),())))
 (.ret (.out (some,()))))
 (.ret (.out (some,())))
def uv (a:gS):Option Y1:=az (fun a:gS=>(jT a.1 a.2.1 a.2.2.1).eval) aa a
def EM (t:Sl 1 (W .u8)):Tree (Bool):=
 .opt (uw ((t,false,(W.of .i64 0),()))) fun o2=>
 .opt (uv ((o2.1,o2.2.1,(W.of .i64 0),()))) fun o4=>
 .ret o4.1
def ti (t:Sl 1 (W .u8)):Option (Bool):=(EM t).eval
def ER (aB many:W .i64):Tree (Bool):=
 .ite (W.ge aB (W.of .i64 0)) (.ite (W.lt aB many) (.ret true)
 (.ret (W.eq aB (W.of .i64 0))))
 (.ret false)
def my (aB many:W .i64):Option (Bool):=(ER aB many).eval
def EP (c:TConf) (p:TPred):Tree (Bool):=
 .opt (mw c) fun r1=>
 .ite (W.ne (Sl.len p.Table) (Sl.len r1.Table)) (.ret false)
 (.ite (W.ne (Sl.len p.Btb) (Sl.len r1.Btb)) (.ret false)
 (.ite (W.ne (Sl.len p.Ras) (Sl.len r1.Ras)) (.ret false)
 (.opt (ti p.Table) fun r2=>
 .ite (!r2) (.ret false)
 (.ite (W.lt (W.conv (.i64) p.Hist) (Sl.len r1.Table)) (.opt (my p.Next (Sl.len p.Btb)) fun r3=>
 .ite r3 (.opt (my p.Top (Sl.len p.Ras)) fun r4=>
 .ret r4)
 (.ret false))
 (.ret false)))))
def gD (c:TConf) (p:TPred):Option (Bool):=(EP c p).eval
def ru (l_0:Sl 48 (TLq)) (i:W .i64):Tree (Rnd wP aV):=
 .ite (W.lt i (Sl.len l_0)) (.opt (Sl.get? l_0 i) fun y1=>
 .ite (W.lt y1.Seq (W.of .u64 1)) (.ret (.out (.inl (false,()))))
 (.ite (W.gt i (W.of .i64 0)) (.opt (Sl.get? l_0 i) fun y2=>
 .opt (Sl.get? l_0 (W.sub i (W.of .i64 1))) fun y3=>
 .ite (W.le y2.Seq y3.Seq) (.ret (.out (.inl (false,()))))
 (.opt (Sl.get? l_0 i) fun y4=>
 .ite y4.Known (.opt (Sl.get? l_0 i) fun y5=>
 .ite (W.ne y5.Size (W.of .i64 1)) (.opt (Sl.get? l_0 i) fun y6=>
 .ite (W.ne y6.Size (W.of .i64 2)) (.opt (Sl.get? l_0 i) fun y7=>
 .ite (W.ne y7.Size (W.of .i64 4)) (.ret (.out (.inl (false,()))))
 (.ret (.next (l_0,(W.add i (W.of .i64 1)),()))))
 (.ret (.next (l_0,(W.add i (W.of .i64 1)),()))))
 (.ret (.next (l_0,(W.add i (W.of .i64 1)),()))))
 (.ret (.next (l_0,(W.add i (W.of .i64 1)),())))))
 (.opt (Sl.get? l_0 i) fun y8=>
 .ite y8.Known (.opt (Sl.get? l_0 i) fun y9=>
 .ite (W.ne y9.Size (W.of .i64 1)) (.opt (Sl.get? l_0 i) fun y10=>
 .ite (W.ne y10.Size (W.of .i64 2)) (.opt (Sl.get? l_0 i) fun y11=>
 .ite (W.ne y11.Size (W.of .i64 4)) (.ret (.out (.inl (false,()))))
 (.ret (.next (l_0,(W.add i (W.of .i64 1)),()))))
 (.ret (.next (l_0,(W.add i (W.of .i64 1)),()))))
 (.ret (.next (l_0,(W.add i (W.of .i64 1)),()))))
 (.ret (.next (l_0,(W.add i (W.of .i64 1)),()))))))
 (.ret (.out (.inr ((),()))))
def uz (a:wP):Option aV:=az (fun a:wP=>(ru a.1 a.2.1).eval) aa a
def E2 (l_0:Sl 48 (TLq)):Tree (Bool):=
 .opt (uz ((l_0,(W.of .i64 0),()))) fun o12=>
 .sum o12 (fun p13=>
 .ret p13.1)
 (fun o14=>
 .ret true)
def fR (l_0:Sl 48 (TLq)):Option (Bool):=(E2 l_0).eval
def rq (l_0:Sl 32 (TSq)) (last:W .u64) (i:W .i64):Tree (Rnd wQ aV):=
 .ite (W.lt i (Sl.len l_0)) (.opt (Sl.get? l_0 i) fun y1=>
 .ite (W.le y1.Seq last) (.ret (.out (.inl (false,()))))
 (.opt (Sl.get? l_0 i) fun y2=>
 .ite y2.Known (.opt (Sl.get? l_0 i) fun y3=>
 .ite (W.ne y3.Size (W.of .i64 1)) (.opt (Sl.get? l_0 i) fun y4=>
 .ite (W.ne y4.Size (W.of .i64 2)) (.opt (Sl.get? l_0 i) fun y5=>
 .ite (W.ne y5.Size (W.of .i64 4)) (.ret (.out (.inl (false,()))))
 (.opt (Sl.get? l_0 i) fun y6=>
 .ret (.next (l_0,y6.Seq,(W.add i (W.of .i64 1)),()))))
 (.opt (Sl.get? l_0 i) fun y7=>
 .ret (.next (l_0,y7.Seq,(W.add i (W.of .i64 1)),()))))
 (.opt (Sl.get? l_0 i) fun y8=>
 .ret (.next (l_0,y8.Seq,(W.add i (W.of .i64 1)),()))))
 (.opt (Sl.get? l_0 i) fun y9=>
 .ret (.next (l_0,y9.Seq,(W.add i (W.of .i64 1)),())))))
 (.ret (.out (.inr ((),()))))
def uy (a:wQ):Option aV:=az (fun a:wQ=>(rq a.1 a.2.1 a.2.2.1).eval) aa a
def E1 (l_0:Sl 32 (TSq)):Tree (Bool):=
 .opt (uy ((l_0,(W.of .u64 0),(W.of .i64 0),()))) fun o10=>
 .sum o10 (fun p11=>
 .ret p11.1)
 (fun o12=>
 .ret true)
def fo (l_0:Sl 32 (TSq)):Option (Bool):=(E1 l_0).eval
def lR (c:TCore) (m:TCoh) (out:Sl 8 (W .i64)) (t_18:Bool):Tree NY:=
 .ite t_18 (.ret (.inl (c,m,(),out,())))
 (.ret (.inr (c,m,(),out,())))
def kA (a:Np):Option NY:=(lR a.1 a.2.1 a.2.2.1 a.2.2.2.1).eval
def Av (c:TCore) (out:Sl 8 (W .i64)) (t_50:Bool):Tree cH:=
 .ite t_50 (.opt (Sl.app? out (Sl.lit 8 [(W.of .i64 12)] rfl:Sl 8 (W .i64))) fun l11=>
 .ret (c,l11,()))
 (.ret (c,out,()))
def iS (a:Nq):Option cH:=(Av a.1 a.2.1 a.2.2.1).eval
def Az (out:Sl 8 (W .i64)):Tree bu:=
 .ret ((),out,())
def u5 (a:cq):Option bu:=(Az a.1).eval
def Ay (c:TCore) (out:Sl 8 (W .i64)):Tree bu:=
 .opt (fo c.Sq) fun r17=>
 .ite (!r17) (.opt (Sl.app? out (Sl.lit 8 [(W.of .i64 15)] rfl:Sl 8 (W .i64))) fun l18=>
 .opt (u5 ((l18,()))) fun o19=>
 .ret ((),o19.2.1,()))
 (.opt (u5 ((out,()))) fun o20=>
 .ret ((),o20.2.1,()))
def nA (a:cH):Option bu:=(Ay a.1 a.2.1).eval
def Ax (c:TCore) (out:Sl 8 (W .i64)):Tree bu:=
 .opt (fR c.Lq) fun r15=>
 .ite (!r15) (.opt (Sl.app? out (Sl.lit 8 [(W.of .i64 14)] rfl:Sl 8 (W .i64))) fun l16=>
 .opt (nA ((c,l16,()))) fun o21=>
 .ret ((),o21.2.1,()))
 (.opt (nA ((c,out,()))) fun o22=>
 .ret ((),o22.2.1,()))
def nz (a:cH):Option bu:=(Ax a.1 a.2.1).eval
def Aw (c:TCore) (out:Sl 8 (W .i64)):Tree bu:=
 .opt (gD c.Conf c.Pred) fun r13=>
 .ite (!r13) (.opt (Sl.app? out (Sl.lit 8 [(W.of .i64 13)] rfl:Sl 8 (W .i64))) fun l14=>
 .opt (nz ((c,l14,()))) fun o23=>
 .ret ((),o23.2.1,()))
 (.opt (nz ((c,out,()))) fun o24=>
 .ret ((),o24.2.1,()))
def kz (a:cH):Option bu:=(Aw a.1 a.2.1).eval
def Au (c:TCore) (m:TCoh) (out:Sl 8 (W .i64)) (long right:Bool):Tree bu:=
 .ite long (.ite right (.opt (tA m) fun r9=>
 .opt (iL c.Sb r9) fun r10=>
 .opt (iS ((c,out,(!r10),()))) fun o12=>
 .opt (kz ((o12.1,o12.2.1,()))) fun o25=>
 .ret ((),o25.2.1,()))
 (.opt (iS ((c,out,false,()))) fun o26=>
 .opt (kz ((o26.1,o26.2.1,()))) fun o27=>
 .ret ((),o27.2.1,())))
 (.opt (iS ((c,out,false,()))) fun o28=>
 .opt (kz ((o28.1,o28.2.1,()))) fun o29=>
 .ret ((),o29.2.1,()))
def ny (a:wR):Option bu:=(Au a.1 a.2.1 a.2.2.1 a.2.2.2.1 a.2.2.2.2.1).eval
def As (c:TCore) (m:TCoh) (out:Sl 8 (W .i64)) (long right:Bool):Tree bu:=
 .ite (!right) (.opt (Sl.app? out (Sl.lit 8 [(W.of .i64 11)] rfl:Sl 8 (W .i64))) fun l8=>
 .opt (ny ((c,m,l8,long,right,()))) fun o30=>
 .ret ((),o30.2.1,()))
 (.opt (ny ((c,m,out,long,right,()))) fun o31=>
 .ret ((),o31.2.1,()))
def nx (a:wR):Option bu:=(As a.1 a.2.1 a.2.2.1 a.2.2.2.1 a.2.2.2.2.1).eval
def AA (c:TCore) (m:TCoh) (out:Sl 8 (W .i64)):Tree bu:=
 .opt (mH m) fun r6=>
 .ite (!(W.eq (Sl.len c.Shadow) (Sl.len m.Mem))) (.opt (Sl.app? out (Sl.lit 8 [(W.of .i64 10)] rfl:Sl 8 (W .i64))) fun l7=>
 .opt (nx ((c,m,l7,(W.eq (Sl.len c.Shadow) (Sl.len m.Mem)),r6,()))) fun o32=>
 .ret ((),o32.2.1,()))
 (.opt (nx ((c,m,out,(W.eq (Sl.len c.Shadow) (Sl.len m.Mem)),r6,()))) fun o33=>
 .ret ((),o33.2.1,()))
def nB (a:Nr):Option bu:=(AA a.1 a.2.1 a.2.2.1).eval
def Fy (c:TCore) (m:TCoh):Tree (Sl 8 (W .i64)):=
 .opt (tB c) fun r1=>
 .ite (W.eq (Sl.len r1) (W.of .i64 1)) (.opt (aI (List.length r1.l) (W.of .i64 0)) fun j2=>
 .opt (kA ((c,m,r1,(W.eq (List.getD r1.l j2 (W.of .i64 0)) (W.of .i64 1)),()))) fun o3=>
 .sum o3 (fun p4=>
 .ret p4.2.2.2.1)
 (fun o5=>
 .opt (nB ((o5.1,o5.2.1,o5.2.2.2.1,()))) fun o34=>
 .ret o34.2.1))
 (.opt (kA ((c,m,r1,false,()))) fun o35=>
 .sum o35 (fun p36=>
 .ret p36.2.2.2.1)
 (fun o37=>
 .opt (nB ((o37.1,o37.2.1,o37.2.2.2.1,()))) fun o38=>
 .ret o38.2.1))
def kj (c:TCore) (m:TCoh):Option (Sl 8 (W .i64)):=(Fy c m).eval
def si (a b:Sl 8 (W .i64)) (i:W .i64):Tree (Rnd gU aV):=
 .ite (W.lt i (Sl.len a)) (.ite (W.lt i (Sl.len b)) (.opt (Sl.get? a i) fun y1=>
 .opt (Sl.get? b i) fun y2=>
 .ite (W.ne y1 y2) (.ret (.out (.inl (false,()))))
 (.ret (.next (a,b,(W.add i (W.of .i64 1)),()))))
 (.ret (.out (.inr ((),())))))
 (.ret (.out (.inr ((),()))))
def u6 (a:gU):Option aV:=az (fun a:gU=>(si a.1 a.2.1 a.2.2.1).eval) aa a
def FH (a b:Sl 8 (W .i64)):Tree (Bool):=
 .ite (W.ne (Sl.len a) (Sl.len b)) (.ret false)
 (.opt (u6 ((a,b,(W.of .i64 0),()))) fun o3=>
 .sum o3 (fun p4=>
 .ret p4.1)
 (fun o5=>
 .ret true))
def mM (a b:Sl 8 (W .i64)):Option (Bool):=(FH a b).eval
def MG (c:TCore) (m:TCoh):Tree (Bool):=
 .opt (gB c m) fun r1=>
 .ite (!r1) (.opt (iK) fun r2=>
 .ret r2)
 (.opt (iI c m) fun r3=>
 .opt (kj c m) fun r4=>
 .opt (mM r3 r4) fun r5=>
 .ite r5 (.opt (iK) fun r6=>
 .ret r6)
 (.ret false))
def RK (c:TCore) (m:TCoh):Option (Bool):=(MG c m).eval
def sb (out l_4:Sl 8 (W .i64)) (i:W .i64):Tree (Rnd gU cq):=
 .ite (W.lt i (Sl.len l_4)) (.opt (aI (List.length l_4.l) i) fun j5=>
 .opt (Sl.app? out (Sl.lit 8 [(W.add (W.of .i64 100) (List.getD l_4.l j5 (W.of .i64 0)))] rfl:Sl 8 (W .i64))) fun l6=>
 .ret (.next (l6,l_4,(W.add i (W.of .i64 1)),())))
 (.ret (.out (out,())))
def nC (a:gU):Option cq:=az (fun a:gU=>(sb a.1 a.2.1 a.2.2.1).eval) aa a
def FA (d:TDuo):Tree (Sl 8 (W .i64)):=
 .ite (W.ne (Sl.len d.Cores) (W.of .i64 2)) (.ret (Sl.lit 8 [(W.of .i64 90)] rfl:Sl 8 (W .i64)))
 (.ite (W.ne (Sl.len d.Mem.Caches) (W.of .i64 2)) (.ret (Sl.lit 8 [(W.of .i64 90)] rfl:Sl 8 (W .i64)))
 (.opt (Sl.get? d.Cores (W.of .i64 0)) fun y1=>
 .opt (kj y1 d.Mem) fun r2=>
 .opt (Sl.get? d.Cores (W.of .i64 1)) fun y3=>
 .opt (kj y3 d.Mem) fun r4=>
 .opt (nC ((r2,r4,(W.of .i64 0),()))) fun o7=>
 .ret o7.1))
def tD (d:TDuo):Option (Sl 8 (W .i64)):=(FA d).eval
def qV (d:TDuo) (i:W .i64):Tree (Rnd wT NZ):=
 .ite (W.lt i (Sl.len d.Cores)) (.opt (Sl.get? d.Cores i) fun y2=>
 .opt (gB y2 d.Mem) fun r3=>
 .ite (!r3) (.opt (iK) fun r4=>
 .ret (.out (.inl (d,r4,()))))
 (.ret (.next (d,(W.add i (W.of .i64 1)),()))))
 (.ret (.out (.inr (d,(),()))))
def mT (a:wT):Option NZ:=az (fun a:wT=>(qV a.1 a.2.1).eval) aa a
def Er (d:TDuo):Tree (Bool):=
 .ite (W.gt (Sl.len d.Cores) (W.of .i64 3)) (.opt (iK) fun r1=>
 .ret r1)
 (.opt (mT ((d,(W.of .i64 0),()))) fun o5=>
 .sum o5 (fun p6=>
 .ret p6.2.1)
 (fun o7=>
 .opt (lW o7.1) fun r8=>
 .opt (tD o7.1) fun r9=>
 .opt (mM r8 r9) fun r10=>
 .ite r10 (.opt (iK) fun r11=>
 .ret r11)
 (.ret false)))
def AK (d:TDuo):Option (Bool):=(Er d).eval
end
end Go.Proofs.YtnpgljilkkipkaaGreat
