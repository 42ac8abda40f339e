/- A2Core: a machine over typed values: its values, its operations, its runs. No statement of the seat is proved here. -/
import Derived.KernelRfl
import Derived.Calls
import GoSem.Claims
set_option linter.unusedSimpArgs false
set_option linter.unusedVariables false
namespace Go.A2
theorem wrap_has (k:IntKind) (n:Int):k.has (k.wrap n):=by
 cases k<;>simp only [IntKind.has,IntKind.min,IntKind.max,IntKind.wrap,IntKind.signed,IntKind.bits,if_true,Bool.true_and,Bool.false_and,Bool.false_eq_true,if_false,decide_eq_true_eq,ge_iff_le]<;>first | omega | (split<;>omega)
structure W (k:IntKind) where
 n:Int
 h:k.has n
theorem W.ext {k:IntKind} {a b:W k} (h:a.n=b.n):a=b:=by cases a;cases b;cases h;rfl
instance {k : IntKind} : DecidableEq (W k) := fun a b => if h : a.n = b.n then isTrue (W.ext h) else isFalse fun e => h (by rw [e])
def W.of (k:IntKind) (n:Int):W k:=⟨k.wrap n,wrap_has k n⟩
instance {k : IntKind} : Inhabited (W k) := ⟨.of k 0⟩
def room:Nat:=140737488355328
structure Str where
 l:List UInt8
 h:l.length≤room
structure Sl (b:Nat) (α:Type) where
 l:List α
 h:l.length*b≤room∧l.length≤room
structure Arr (n:Nat) (α:Type) where
 l:List α
 h:l.length=n
theorem Str.ext {a b:Str} (h:a.l=b.l):a=b:=by cases a;cases b;cases h;rfl
theorem Sl.ext {b:Nat} {α:Type} {x y:Sl b α} (h:x.l=y.l):x=y:=by cases x;cases y;cases h;rfl
theorem Arr.ext {n:Nat} {α:Type} {x y:Arr n α} (h:x.l=y.l):x=y:=by cases x;cases y;cases h;rfl
instance : DecidableEq Str := fun a b => if h : a.l = b.l then isTrue (Str.ext h) else isFalse fun e => h (by rw [e])
instance {n : Nat} {α : Type} [DecidableEq α] : DecidableEq (Arr n α) := fun a b => if h : a.l = b.l then isTrue (Arr.ext h) else isFalse fun e => h (by rw [e])
instance : Inhabited Str := ⟨⟨[], Nat.zero_le _⟩⟩
def Sl.nil {b:Nat} {α:Type}:Sl b α:=⟨[],by simp,by simp⟩
instance {b : Nat} {α : Type} : Inhabited (Sl b α) := ⟨.nil⟩
def Arr.rep (n:Nat) {α:Type} (x:α):Arr n α:=⟨List.replicate n x,List.length_replicate ..⟩
instance {n : Nat} {α : Type} [Inhabited α] : Inhabited (Arr n α) := ⟨.rep n default⟩
def Arr.get {n:Nat} {α:Type} [Inhabited α] (a:Arr n α) (i:Nat):α:=a.l.getD i default
def Arr.set {n:Nat} {α:Type} (a:Arr n α) (i:Nat) (x:α):Arr n α:=⟨a.l.set i x,by rw [List.length_set];exact a.h⟩
def Sl.get {b:Nat} {α:Type} [Inhabited α] (a:Sl b α) (i:Nat):α:=a.l.getD i default
def Sl.set {b:Nat} {α:Type} (a:Sl b α) (i:Nat) (x:α):Sl b α:=⟨a.l.set i x,by rw [List.length_set];exact a.h⟩
def Sl.len {b:Nat} {α:Type} (a:Sl b α):W .i64:=⟨a.l.length,by have:=a.h.2;unfold room at this;constructor<;>simp [IntKind.min,IntKind.max,IntKind.signed,IntKind.bits]<;>omega⟩
def Str.len (a:Str):W .i64:=⟨a.l.length,by have:=a.h;unfold room at this;constructor<;>simp [IntKind.min,IntKind.max,IntKind.signed,IntKind.bits]<;>omega⟩
def idx? {k:IntKind} (n:Nat) (i:W k):Option Nat:=if 0≤i.n∧i.n < n then some i.n.toNat else none
def Sl.get? {b:Nat} {α:Type} {k:IntKind} (a:Sl b α) (i:W k):Option α:=if 0≤i.n then a.l[i.n.toNat]? else none
def Str.get? {k:IntKind} (a:Str) (i:W k):Option (W .u8):=if 0≤i.n then a.l[i.n.toNat]?.map fun b=>W.of .u8 b.toNat else none
def Sl.mk? {α:Type} (b:Nat) (l:List α):Option (Sl b α):=if h:l.length*b≤room∧l.length≤room then some ⟨l,h⟩ else none
def Sl.app? {b:Nat} {α:Type} (x y:Sl b α):Option (Sl b α):=match x.l with
 | []=>some y
 | _=>Sl.mk? b (x.l++y.l)
def vw? (n:Nat) (lo hi:Option Nat):Option Unit:=if lo.getD 0≤hi.getD n∧hi.getD n≤n then some () else none
def Sl.cut {b:Nat} {α:Type} (x:Sl b α) (lo hi:Nat):Sl b α:=⟨(x.l.take hi).drop lo,by
  have h1:((x.l.take hi).drop lo).length≤x.l.length:=by rw [List.length_drop,List.length_take];omega
  exact ⟨Nat.le_trans (Nat.mul_le_mul_right _ h1) x.h.1,Nat.le_trans h1 x.h.2⟩⟩
def cpL {α:Type} (l:List α) (off:Nat) (m:List α):List α:=l.take off++(m.take (l.length - off)++l.drop (off+m.length))
theorem cpL_length {α:Type} (l:List α) (off:Nat) (m:List α):(cpL l off m).length=l.length:=by
 simp only [cpL,List.length_append,List.length_take,List.length_drop];omega
def okA (b n:Nat):Bool:=decide (n*b≤room∧n≤room)
def Arr.sl {n:Nat} {α:Type} (b:Nat) (v:Arr n α) (h:okA b n=true):Sl b α:=⟨v.l,by rw [v.h];exact of_decide_eq_true h⟩
def Arr.copy {n b:Nat} {α:Type} (x:Arr n α) (off:Nat) (y:Sl b α):Arr n α:=⟨cpL x.l off y.l,by rw [cpL_length];exact x.h⟩
def Arr.copyLen {n b:Nat} {α:Type} (_:Arr n α) (off:Nat) (y:Sl b α):W .i64:=W.of .i64 (min (n - off) y.l.length:Nat)
def Sl.copy {b:Nat} {α:Type} (x:Sl b α) (off:Nat) (y:Sl b α):Sl b α:=⟨cpL x.l off y.l,by rw [cpL_length];exact x.h⟩
def Sl.clr {b:Nat} {α:Type} (x:Sl b α) (off:Nat) (z:α):Sl b α:=⟨cpL x.l off (List.replicate (x.l.length - off) z),by rw [cpL_length];exact x.h⟩
def Sl.copyLen {b:Nat} {α:Type} (x:Sl b α) (off:Nat) (y:Sl b α):W .i64:=W.of .i64 (min (x.l.length - off) y.l.length:Nat)
def Sl.make? {α:Type} {k k':IntKind} (b:Nat) (x:α) (n:W k) (c:W k'):Option (Sl b α):=
 if 0≤n.n∧n.n≤c.n∧c.n*b≤room∧c.n≤room then Sl.mk? b (List.replicate n.n.toNat x) else none
def Sl.sub? {b:Nat} {α:Type} (x:Sl b α) (lo hi:Nat):Option (Sl b α):=
 if h:lo≤hi∧hi≤x.l.length then some ⟨(x.l.take hi).drop lo,by
  have h1:((x.l.take hi).drop lo).length≤x.l.length:=by rw [List.length_drop,List.length_take];omega
  exact ⟨Nat.le_trans (Nat.mul_le_mul_right _ h1) x.h.1,Nat.le_trans h1 x.h.2⟩⟩ else none
def Sl.sub3? {b:Nat} {α:Type} (x:Sl b α) (lo hi m:Nat):Option (Sl b α):=if hi=m∧m≤x.l.length then Sl.sub? x lo m else none
def Str.sub? (x:Str) (lo hi:Nat):Option Str:=
 if h:lo≤hi∧hi≤x.l.length then some ⟨(x.l.take hi).drop lo,by
  have h1:((x.l.take hi).drop lo).length≤x.l.length:=by rw [List.length_drop,List.length_take];omega
  exact Nat.le_trans h1 x.h⟩ else none
def nat? {k:IntKind} (i:W k):Option Nat:=if 0≤i.n then some i.n.toNat else none
section ops
variable {k k':IntKind}
def W.add (a b:W k):W k:=.of k (a.n+b.n)
def W.sub (a b:W k):W k:=.of k (a.n - b.n)
def W.mul (a b:W k):W k:=.of k (a.n*b.n)
def W.quo (a b:W k):W k:=.of k (a.n.tdiv b.n)
def W.rem (a b:W k):W k:=.of k (a.n.tmod b.n)
def W.quo? (a b:W k):Option (W k):=if b.n=0 then none else some (a.quo b)
def W.rem? (a b:W k):Option (W k):=if b.n=0 then none else some (a.rem b)
def W.and (a b:W k):W k:=.of k (BitVec.ofInt k.bits a.n &&& BitVec.ofInt k.bits b.n).toNat
def W.or (a b:W k):W k:=.of k (BitVec.ofInt k.bits a.n ||| BitVec.ofInt k.bits b.n).toNat
def W.xor (a b:W k):W k:=.of k (BitVec.ofInt k.bits a.n ^^^ BitVec.ofInt k.bits b.n).toNat
def W.andNot (a b:W k):W k:=.of k (BitVec.ofInt k.bits a.n &&& ~~~ BitVec.ofInt k.bits b.n).toNat
def W.shl (a:W k) (b:W k'):W k:=.of k (a.n*2 ^ (min b.n.toNat k.bits))
def W.shr (a:W k) (b:W k'):W k:=.of k (a.n.fdiv (2 ^ (min b.n.toNat k.bits)))
def W.shl? (a:W k) (b:W k'):Option (W k):=if b.n < 0 then none else some (a.shl b)
def W.shr? (a:W k) (b:W k'):Option (W k):=if b.n < 0 then none else some (a.shr b)
def W.neg (a:W k):W k:=.of k (0 - a.n)
def W.com (a:W k):W k:=.of k (BitVec.ofInt k.bits (if k.signed then -1 else k.max) ^^^ BitVec.ofInt k.bits a.n).toNat
def W.eq (a b:W k):Bool:=a.n==b.n
def W.ne (a b:W k):Bool:=a.n != b.n
def W.lt (a b:W k):Bool:=a.n < b.n
def W.le (a b:W k):Bool:=a.n≤b.n
def W.gt (a b:W k):Bool:=a.n > b.n
def W.ge (a b:W k):Bool:=a.n ≥ b.n
def W.conv (k':IntKind) (a:W k):W k':=.of k' a.n
def W.max (a b:W k):W k:=if b.n > a.n then b else a
def W.min (a b:W k):W k:=if b.n < a.n then b else a
end ops
def eqT {α:Type} [DecidableEq α] (x y:α):Bool:=decide (x=y)
inductive Ty (ι:Type) where
 | int (k:IntKind)
 | bool
 | str
 | named (i:ι)
 | arr (n:Nat) (t:Ty ι)
 | slice (b:Nat) (t:Ty ι)
 | map (k t:Ty ι)
 deriving DecidableEq,Inhabited
def den {ι:Type} (D:ι→Type):Ty ι→Type
 | .int k=>W k
 | .bool=>Bool
 | .str=>Str
 | .named i=>D i
 | .arr n t=>Arr n (den D t)
 | .slice b t=>Sl b (den D t)
 | .map k t=>List (den D k×den D t)
def Tup {ι:Type} (D:ι→Type):List (Ty ι)→Type
 | []=>Unit
 | t :: ts=>den D t×Tup D ts
structure Tab where
 ι:Type
 deq:DecidableEq ι
 D:ι→Type
 fields:ι→List (Ty ι)
 to:(i:ι)→D i→Tup D (fields i)
 of:(i:ι)→Tup D (fields i)→D i
 zeroD:(i:ι)→D i
 eqD:(i:ι)→D i→D i→Bool
 szD:ι→Nat
 flatD:ι→Bool
 gl:List (Nat×Ty ι×List Value):=[]
 lf:List Nat:=[]
 df:List Nat:=[]
 ls:List Nat:=[]
instance {X : Tab} : DecidableEq X.ι := X.deq
abbrev Tab.Ty (X:Tab):Type:=A2.Ty X.ι
section tab
variable {X:Tab}
abbrev Tab.den (X:Tab) (T:X.Ty):Type:=A2.den X.D T
abbrev Tab.Tup (X:Tab) (ts:List X.Ty):Type:=A2.Tup X.D ts
def Tab.zero (X:Tab):(T:X.Ty)→X.den T
 | .int k=>(default:W k)
 | .bool=>false
 | .str=>(default:Str)
 | .named i=>X.zeroD i
 | .arr n t=>Arr.rep n (X.zero t)
 | .slice _ _=>Sl.nil
 | .map _ _=>[]
def Tab.sz (X:Tab):X.Ty→Nat
 | .named i=>X.szD i
 | .arr n t=>n*X.sz t
 | _=>1
def Tab.szs (X:Tab):List X.Ty→Nat
 | []=>0
 | t :: ts=>X.sz t+X.szs ts
def Tab.off (X:Tab) (i:X.ι) (j:Nat):Nat:=X.szs ((X.fields i).take j)
def Tab.flat (X:Tab):X.Ty→Bool
 | .named i=>X.flatD i
 | .arr _ t=>X.flat t
 | .slice _ _=>false
 | .map _ _=>false
 | _=>true
def beqB (a b:Bool):Bool:=a==b
def listEq {α:Type} (f:α→α→Bool):List α→List α→Bool
 | [],[]=>true
 | x :: xs,y :: ys=>f x y&&listEq f xs ys
 | _,_=>false
def Tab.eq (X:Tab):(T:X.Ty)→X.den T→X.den T→Bool
 | .int _,a,b=>W.eq a b
 | .bool,a,b=>beqB a b
 | .str,a,b=>Str.l a==Str.l b
 | .named i,a,b=>X.eqD i a b
 | .arr _ t,a,b=>listEq (X.eq t) (Arr.l a) (Arr.l b)
 | .slice _ _,_,_=>false
 | .map _ _,_,_=>false
def Tab.comparable (X:Tab):X.Ty→Bool
 | .named i=>X.flatD i
 | .arr _ t=>X.comparable t
 | .slice _ _=>false
 | .map _ _=>false
 | _=>true
def mGet {K V:Type} (eq:K→K→Bool):List (K×V)→K→Option V
 | [],_=>none
 | p :: l,x=>bif eq x p.1 then some p.2 else mGet eq l x
def mPut {K V:Type} (eq:K→K→Bool):List (K×V)→K→V→List (K×V)
 | [],x,y=>[(x,y)]
 | p :: l,x,y=>bif eq x p.1 then (x,y) :: l else p :: mPut eq l x y
def mDel {K V:Type} (eq:K→K→Bool):List (K×V)→K→List (K×V)
 | [],_=>[]
 | p :: l,x=>bif eq x p.1 then l else p :: mDel eq l x
def mLen? {α:Type} (l:List α):Option (W .i64):=if l.length≤room then some (W.of .i64 l.length) else none
def castT {T:X.Ty} (v:X.den T) (T':X.Ty):Option (X.den T'):=if h:T=T' then some (h ▸ v) else none
def getT:(ts:List X.Ty)→X.Tup ts→Nat→Option ((T:X.Ty)×X.den T)
 | [],_,_=>none
 | t :: _,x,0=>some ⟨t,x.1⟩
 | _ :: ts,x,j+1=>getT ts x.2 j
def setT:(ts:List X.Ty)→X.Tup ts→Nat→(T:X.Ty)→X.den T→Option (X.Tup ts)
 | [],_,_,_,_=>none
 | t :: _,x,0,_,v=>(castT v t).map fun y=>(y,x.2)
 | _ :: ts,x,j+1,T,v=>(setT ts x.2 j T v).map fun y=>(x.1,y)
inductive PS where
 | fld (j:Nat)
 | idx (i:Nat)
 deriving Inhabited
def getQ:List PS→(T:X.Ty)→X.den T→Option ((T:X.Ty)×X.den T)
 | [],T,v=>some ⟨T,v⟩
 | .fld j :: q,.named i,v=>match getT (X.fields i) (X.to i v) j with
  | some ⟨T,u⟩=>getQ q T u
  | none=>none
 | .idx i :: q,.arr _ t,v=>getQ q t (v.l.getD i (X.zero t))
 | _,_,_=>none
def setQ:List PS→(T:X.Ty)→X.den T→(T':X.Ty)→X.den T'→Option (X.den T)
 | [],T,_,_,u=>castT u T
 | .fld j :: q,.named i,v,T',u=>match getT (X.fields i) (X.to i v) j with
  | some ⟨T,x⟩=>match setQ q T x T' u with
   | some y=>(setT (X.fields i) (X.to i v) j T y).map (X.of i)
   | none=>none
  | none=>none
 | .idx i :: q,.arr _ t,v,T',u=>(setQ q t (v.l.getD i (X.zero t)) T' u).map fun y=>Arr.set v i y
 | _,_,_,_,_=>none
inductive Own where
 | no
 | full
 | yes (g:Nat)
 | dead
 | st (l:List Own)
 deriving Inhabited
mutual
def Own.pure:Own→Bool
 | .no=>true
 | .full=>true
 | .yes _=>false
 | .dead=>false
 | .st l=>Own.pureL l
def Own.pureL:List Own→Bool
 | []=>true
 | o :: l=>o.pure&&Own.pureL l
end
mutual
def Own.alive:Own→Bool
 | .dead=>false
 | .st l=>Own.aliveL l
 | _=>true
def Own.aliveL:List Own→Bool
 | []=>true
 | o :: l=>o.alive&&Own.aliveL l
end
mutual
def Own.gen (g:Nat):Own→Own
 | .yes _=>.yes g
 | .st l=>.st (Own.genL g l)
 | o=>o
def Own.genL (g:Nat):List Own→List Own
 | []=>[]
 | o :: l=>o.gen g :: Own.genL g l
end
def Own.isNo:Own→Bool
 | .no=>true
 | _=>false
def Own.fldD:Own→Nat→Own
 | .st l,j=>l.getD j .no
 | .dead,_=>.dead
 | _,_=>.no
def ownAt:Own→List PS→Own
 | o,[]=>o
 | o,.fld j :: q=>ownAt (o.fldD j) q
 | .dead,.idx _ :: _=>.dead
 | _,.idx _ :: _=>.no
def putL:List Own→Nat→Own→List Own
 | [],0,o=>[o]
 | [],j+1,o=>.no :: putL [] j o
 | _ :: l,0,o=>o :: l
 | x :: l,j+1,o=>x :: putL l j o
def Own.list:Own→List Own
 | .st l=>l
 | _=>[]
def setO:Own→List PS→Own→Option Own
 | _,[],o=>some o
 | .dead,_ :: _,_=>none
 | a,.fld j :: q,o=>match setO (a.fldD j) q o with
  | some b=>if (a.fldD j).isNo&&b.isNo then some a else
    let l:=putL a.list j b
    some (if l.all Own.isNo then .no else .st l)
  | none=>none
 | a,.idx _ :: _,o=>if a.isNo&&o.pure then some .no else none
inductive Base where
 | box (s g:Nat)
 | elem (s:Nat) (q:List PS) (g i:Nat)
 deriving Inhabited
inductive AV (X:Tab) where
 | undef
 | val (T:X.Ty) (v:X.den T) (o:Own)
 | tup (l:List (AV X))
 | box (g:Nat) (T:X.Ty) (v:X.den T) (o:Own)
 | ref (s:Nat) (q:List PS) (g:Nat)
 | ptr (b:Base) (q:List PS)
 | rptr (T:X.Ty) (v:X.den T)
 | fn (f:Nat) (first caps:List (AV X))
 | view (s:Nat) (q:List PS) (g off:Nat) (hi:Option Nat)
 | mref (s g:Nat)
 | rfn (f:Nat) (first caps:List (AV X))
 | fnew (g:Nat)
 | fnb (f g:Nat) (T:X.Ty) (v:X.den T) (o:Own)
 | fref (s g:Nat)
 | aview (bs:Base) (q:List PS) (b n:Nat) (t:X.Ty) (off hi:Nat)
instance : Inhabited (AV X) := ⟨.undef⟩
inductive AX (X:Tab) where
 | t (n:Nat)
 | v (n:Nat)
 | c (x:AV X)
inductive AOp (X:Tab) where
 | move (x:AX X)
 | pick (c a b:AX X)
 | alloc (T:X.Ty)
 | box (T:X.Ty) (x:AX X)
 | load (T:X.Ty) (x:AX X)
 | loadM (T:X.Ty) (x:AX X)
 | moveT (x:AX X)
 | junk
 | store (T:X.Ty) (x v:AX X)
 | fld (i:X.ι) (j:Nat) (x:AX X)
 | idxA (n:Nat) (t:X.Ty) (x i:AX X)
 | idxS (b:Nat) (t:X.Ty) (x i:AX X)
 | idxStr (x i:AX X)
 | part (i:X.ι) (j:Nat) (x:AX X)
 | idxV (n:Nat) (t:X.Ty) (x i:AX X)
 | bin (o:BinOp) (x y:AX X)
 | eq (T:X.Ty) (neg:Bool) (x y:AX X)
 | un (o:UnOp) (x:AX X)
 | conv (k:IntKind) (x:AX X)
 | strB (x:AX X)
 | cat (x y:AX X)
 | build (i:X.ι) (parts:List (Nat×AX X))
 | buildA (n:Nat) (t:X.Ty) (parts:List (Nat×AX X))
 | buildSlice (b:Nat) (t:X.Ty) (len:Nat) (parts:List (Nat×AX X))
 | extract (x:AX X) (i:Nat)
 | call (f:Nat) (args:List (AX X))
 | callv (x:AX X) (args:List (AX X))
 | mm (isMax:Bool) (args:List (AX X))
 | len (str:Bool) (x:AX X)
 | append (b:Nat) (t:X.Ty) (x y:AX X)
 | makeSlice (b:Nat) (t:X.Ty) (len cap:AX X)
 | arrS (b n:Nat) (t:X.Ty) (x:AX X) (lo hi:Option (AX X))
 | slice (T:X.Ty) (x:AX X) (lo hi mx:Option (AX X))
 | isNil (neg:Bool) (x:AX X)
 | makeFunc (f:Nat) (first caps:List (AX X))
 | nilCheck (x:AX X)
 | view (b:Nat) (t:X.Ty) (x:AX X) (lo hi:Option (AX X))
 | copy (b:Nat) (t:X.Ty) (x y:AX X)
 | makeMap (k t:X.Ty)
 | mlook (k t:X.Ty) (ok:Bool) (x i:AX X)
 | mset (k t:X.Ty) (x i v:AX X)
 | mdel (k t:X.Ty) (x i:AX X)
 | clr (b:Nat) (t:X.Ty) (x:AX X)
 | mlen (k t:X.Ty) (x:AX X)
 | allocF
 | storeF (x v:AX X)
 | loadF (x:AX X)
 | bad
structure AOpr (X:Tab) where
 dst:Option Nat
 op:AOp X
 guard:Option (Nat×Bool)
inductive Sh where
 | any
 | own
 | pure
 | fz
 deriving Inhabited,DecidableEq
inductive ACode (X:Tab) where
 | skip
 | region (ops:List (AOpr X))
 | draw (ops:List (AOpr X)) (ms:List Nat)
 | seq (a b:ACode X)
 | cond (c:AX X) (a b:ACode X)
 | block (id:Nat) (a:ACode X)
 | loop (a:ACode X)
 | exit (id:Nat)
 | ret
 | mark (i:Nat) (D:List (Nat×Sh)) (a:ACode X)
 | trim (D:List (Nat×Sh)) (a:ACode X)
 | dfr (t:Nat) (a:ACode X)
 | bad
inductive ARes (X:Tab) where
 | tmp (s:Nat)
 | cell (s:Nat) (T:X.Ty)
structure AFn (X:Tab) where
 np:Nat
 keep:List Nat
 lent:List Nat
 body:ACode X
 res:List (ARes X×Bool)
abbrev Env (X:Tab):=Nat→AV X
abbrev Ups (X:Tab):=List (Nat×AV X)
def upd (e:Env X) (s:Nat) (v:AV X):Env X:=fun s'=>if s'=s then v else e s'
def applyU (e:Env X):Ups X→Env X
 | []=>e
 | (s,v) :: l=>applyU (upd e s v) l
def mkE:List (Nat×AV X)→Env X
 | []=>fun _=>.undef
 | (k,v) :: l=>fun s=>if s=k then v else mkE l s
def slotC:AV X→Option ((T:X.Ty)×X.den T×Own)
 | .val T v o=>some ⟨T,v,o⟩
 | .box _ T v o=>some ⟨T,v,o⟩
 | _=>none
def withV (x:AV X) (T:X.Ty) (v:X.den T) (o:Own):AV X:=
 match x with
 | .box g _ _ _=>.box g T v o
 | _=>.val T v o
def cont (e:Env X) (s:Nat) (q:List PS) (g:Nat):Option ((b:Nat)×(t:X.Ty)×Sl b (X.den t)):=
 match slotC (e s) with
 | some ⟨T,v,o⟩=>match getQ q T v,ownAt o q with
  | some ⟨.slice b t,l⟩,.yes g'=>if g=g' then some ⟨b,t,l⟩ else none
  | _,_=>none
 | none=>none
def rd (e:Env X):AX X→AV X
 | .c x=>x
 | .t s | .v s=>match e s with
  | .val (.slice b t) l (.yes g)=>.ref s [] g
  | .val (.map k t) l (.yes g)=>.mref s g
  | .box g _ _ _=>.ptr (.box s g) []
  | .fnb _ g _ _ _=>.fref s g
  | v=>v
def derefA (e:Env X) (bs:Base) (q:List PS) (n:Nat) (t:X.Ty):Option (Arr n (X.den t)):=
 match bs with
 | .box s g=>match e s with
  | .box g' T v o=>if g=g'∧(ownAt o q).isNo=true then match getQ q T v with
    | some ⟨_,x⟩=>castT x (.arr n t)
    | none=>none
   else none
  | _=>none
 | .elem s p g i=>match cont e s p g with
  | some ⟨_,t',l⟩=>match getQ q t' (l.l.getD i (X.zero t')) with
   | some ⟨_,x⟩=>castT x (.arr n t)
   | none=>none
  | none=>none
def slOf (e:Env X):AV X→Option ((b:Nat)×(t:X.Ty)×Sl b (X.den t))
 | .val (.slice b t) l .no=>some ⟨b,t,l⟩
 | .val (.slice b t) l .full=>some ⟨b,t,l⟩
 | .ref s q g=>cont e s q g
 | .view s q g off hi=>match cont e s q g with
  | some ⟨b,t,l⟩=>some ⟨b,t,l.cut off (hi.getD l.l.length)⟩
  | none=>none
 | .aview bs q b n t off hi=>match derefA e bs q n t with
  | some v=>if h:okA b n=true then some ⟨b,t,(Arr.sl b v h).cut off hi⟩ else none
  | none=>none
 | _=>none
def valOf (x:AV X) (T:X.Ty):Option (X.den T):=
 match x with
 | .val T' v _=>castT v T
 | _=>none
def valP (x:AV X) (T:X.Ty):Option (X.den T):=
 match x with
 | .val T' v o=>if o.pure then castT v T else none
 | _=>none
def boolOf:AV X→Option Bool
 | .val .bool b _=>some b
 | _=>none
def tyQ:List PS→X.Ty→Option X.Ty
 | [],T=>some T
 | .fld j :: q,.named i=>match (X.fields i)[j]? with
  | some t=>tyQ q t
  | none=>none
 | .idx k :: q,.arr n t=>if k < n then tyQ q t else none
 | _,_=>none
def tyB:List PS→X.Ty→Option X.Ty
 | [],T=>some T
 | .fld j :: q,.named i=>match (X.fields i)[j]? with
  | some t=>tyB q t
  | none=>none
 | .idx _ :: q,.arr _ t=>tyB q t
 | _,_=>none
def ptrTy (e:Env X) (b:Base) (q:List PS):Option X.Ty:=
 match b with
 | .box s g=>match e s with
  | .box g' T _ _=>if g=g' then tyB q T else none
  | _=>none
 | .elem s p g _=>match cont e s p g with
  | some ⟨_,t,_⟩=>tyB q t
  | none=>none
structure Taken (X:Tab) where
 T:X.Ty
 v:X.den T
 o:Own
 u:Ups X
def setMask (e:Env X) (s:Nat) (q:List PS) (o:Own):Option (Ups X):=
 match e s with
 | .val T v m=>(setO m q o).map fun m'=>[(s,.val T v m')]
 | .box g T v m=>(setO m q o).map fun m'=>[(s,.box g T v m')]
 | _=>none
def takeRef (e:Env X) (r:Nat) (q:List PS) (g:Nat):Option (Taken X):=
 match cont e r q g,setMask e r q .no with
 | some ⟨b,t,l⟩,some u=>some ⟨.slice b t,l,.no,u⟩
 | _,_=>none
def take (e:Env X) (x:AX X):Option (Taken X):=
 match x with
 | .c (.val T v o)=>if o.pure then some ⟨T,v,o,[]⟩ else none
 | .c _=>none
 | .t s=>match e s with
  | .val T v o=>if o.pure then some ⟨T,v,o,[]⟩ else some ⟨T,v,o,[(s,.undef)]⟩
  | .ref r q g=>takeRef e r q g
  | _=>none
 | .v s=>match e s with
  | .val T v o=>if o.pure then some ⟨T,v,o,[]⟩ else if o.alive then some ⟨T,v,.no,[(s,.val T v .no)]⟩ else none
  | .ref r q g=>takeRef e r q g
  | _=>none
def W.bin {k:IntKind} (o:BinOp) (a b:W k):Option (AV X):=
 match o with
 | .add=>some (.val (.int k) (a.add b) .no)
 | .sub=>some (.val (.int k) (a.sub b) .no)
 | .mul=>some (.val (.int k) (a.mul b) .no)
 | .quo=>(a.quo? b).map (.val (.int k) · .no)
 | .rem=>(a.rem? b).map (.val (.int k) · .no)
 | .and=>some (.val (.int k) (a.and b) .no)
 | .or=>some (.val (.int k) (a.or b) .no)
 | .xor=>some (.val (.int k) (a.xor b) .no)
 | .andNot=>some (.val (.int k) (a.andNot b) .no)
 | .eql=>some (.val .bool (a.eq b) .no)
 | .neq=>some (.val .bool (a.ne b) .no)
 | .lss=>some (.val .bool (a.lt b) .no)
 | .leq=>some (.val .bool (a.le b) .no)
 | .gtr=>some (.val .bool (a.gt b) .no)
 | .geq=>some (.val .bool (a.ge b) .no)
 | _=>none
def shiftV {k k':IntKind} (o:BinOp) (a:W k) (b:W k'):Option (AV X):=
 match o with
 | .shl=>if k'.signed then (a.shl? b).map (.val (.int k) · .no) else some (.val (.int k) (a.shl b) .no)
 | .shr=>if k'.signed then (a.shr? b).map (.val (.int k) · .no) else some (.val (.int k) (a.shr b) .no)
 | _=>none
def isShift:BinOp→Bool
 | .shl=>true
 | .shr=>true
 | _=>false
def binV (o:BinOp) (x y:AV X):Option (AV X):=
 match x,y with
 | .val (.int k) a _,.val (.int k') b _=>if isShift o then shiftV o a b else match castT (X:=X) (T:=.int k') b (.int k) with
  | some b=>W.bin o a b
  | none=>none
 | _,_=>none
def unV (o:UnOp) (x:AV X):Option (AV X):=
 match o,x with
 | .neg,.val (.int k) a _=>some (.val (.int k) (W.neg a) .no)
 | .xor,.val (.int k) a _=>some (.val (.int k) (W.com a) .no)
 | .not,.val .bool b _=>some (.val .bool (!b) .no)
 | _,_=>none
def mmI (k:IntKind) (isMax:Bool):W k→List (AV X)→Option (W k)
 | x,[]=>some x
 | x,y :: l=>match valOf y (.int k) with
  | some z=>mmI k isMax (if isMax then W.max x z else W.min x z) l
  | none=>none
def natOf:AV X→Option Nat
 | .val (.int _) i _=>nat? i
 | _=>none
def setParts (i:X.ι):X.Tup (X.fields i)→List (Nat×(T:X.Ty)×X.den T)→Option (X.Tup (X.fields i))
 | x,[]=>some x
 | x,(j,⟨T,v⟩) :: l=>match setT (X.fields i) x j T v with
  | some y=>setParts i y l
  | none=>none
def setElems {t:X.Ty}:List (X.den t)→List (Nat×(T:X.Ty)×X.den T)→Option (List (X.den t))
 | x,[]=>some x
 | x,(j,⟨_,v⟩) :: l=>match castT v t with
  | some y=>if j < x.length then setElems (x.set j y) l else none
  | none=>none
theorem setElems_length {t:X.Ty}:∀ {l:List (Nat×(T:X.Ty)×X.den T)} {x y:List (X.den t)},setElems x l=some y→y.length=x.length
 | [],x,y,h=>by simp [setElems] at h;rw [h]
 | (j,⟨T,v⟩) :: l,x,y,h=>by
  simp only [setElems] at h
  split at h
  ·split at h
   ·have:=setElems_length h;rw [this,List.length_set]
   ·cases h
  ·cases h
def takeAll (e:Env X):List (Nat×AX X)→Option (List (Nat×(T:X.Ty)×X.den T×Own)×Ups X)
 | []=>some ([],[])
 | (j,x) :: l=>match take e x with
  | some ⟨T,v,o,u⟩=>match takeAll (applyU e u) l with
   | some (vs,us)=>some ((j,⟨T,v,o⟩) :: vs,u++us)
   | none=>none
  | none=>none
def partsV (l:List (Nat×(T:X.Ty)×X.den T×Own)):List (Nat×(T:X.Ty)×X.den T):=l.map fun ⟨j,T,v,_⟩=>(j,⟨T,v⟩)
def partsO (g:Nat):List (Nat×(T:X.Ty)×X.den T×Own)→Own→Option Own
 | [],o=>some o
 | (j,⟨_,_,m⟩) :: l,o=>match setO o [.fld j] (if m.pure then .no else m.gen g) with
  | some o1=>partsO g l o1
  | none=>none
def partsPure (l:List (Nat×(T:X.Ty)×X.den T×Own)):Bool:=l.all fun ⟨_,_,_,o⟩=>o.pure
def outU (d:Option Nat) (v:AV X):Ups X:=match d with | some d=>[(d,v)] | none=>[]
def onlyFld:List PS→Bool
 | []=>true
 | .fld _ :: q=>onlyFld q
 | .idx _ :: _=>false
def loadV (e:Env X) (T:X.Ty) (x:AV X) (d:Option Nat):Option (Ups X):=
 match x with
 | .rptr _ v=>(castT v T).map fun v=>outU d (.val T v .no)
 | .ptr (.box s g) q=>match e s with
  | .box g' T0 v0 o0=>if g=g' then
    match getQ q T0 v0 with
    | some ⟨_,v⟩=>match castT v T with
     | some v=>match ownAt o0 q with
      | .no=>some (outU d (.val T v .no))
      | .full=>some (outU d (.val T v .full))
      | .yes g1=>if onlyFld q then some (outU d (.ref s q g1)) else none
      | .dead=>none
      | .st l=>if Own.pureL l then some (outU d (.val T v .no)) else if Own.aliveL l then (setO o0 q .no).map fun m=>(s,.box g' T0 v0 m) :: outU d (.val T v .no) else none
     | none=>none
    | none=>none
   else none
  | _=>none
 | .ptr (.elem s p g i) q=>match cont e s p g with
  | some ⟨_,t,l⟩=>match getQ q t (l.l.getD i (X.zero t)) with
   | some ⟨_,v⟩=>(castT v T).map fun v=>outU d (.val T v .no)
   | none=>none
  | none=>none
 | _=>none
def storeV (e:Env X) (g0:Nat) (T:X.Ty) (x:AV X) (v:X.den T) (o:Own):Option (Ups X):=
 match x with
 | .ptr (.box s g) q=>match e s with
  | .box g' T0 v0 o0=>if g=g' then
    match setQ q T0 v0 T v,setO o0 q (o.gen g0) with
    | some v1,some o1=>some [(s,.box g' T0 v1 o1)]
    | _,_=>none
   else none
  | _=>none
 | .ptr (.elem s p g i) q=>if o.pure then match cont e s p g with
   | some ⟨b,t,l⟩=>match setQ q t (l.l.getD i (X.zero t)) T v,e s with
    | some y,.val T0 v0 o0=>(setQ p T0 v0 (.slice b t) (l.set i y)).map fun v1=>[(s,.val T0 v1 o0)]
    | some y,.box g' T0 v0 o0=>(setQ p T0 v0 (.slice b t) (l.set i y)).map fun v1=>[(s,.box g' T0 v1 o0)]
    | _,_=>none
   | none=>none
  else none
 | _=>none
def grab (e:Env X) (x:AX X):Option ((b:Nat)×(t:X.Ty)×Sl b (X.den t)×Ups X×Bool):=
 match x with
 | .c (.val (.slice b t) l .full)=>match l.l with
  | []=>some ⟨b,t,l,[],false⟩
  | _=>none
 | .c _=>none
 | .t s | .v s=>match e s with
  | .val (.slice b t) l .full=>some ⟨b,t,l,[],true⟩
  | .val (.slice b t) l (.yes _)=>some ⟨b,t,l,[(s,.undef)],false⟩
  | .ref r q g=>match cont e r q g,(if q.isEmpty then some [(r,.undef)] else setMask e r q .dead) with
   | some ⟨b,t,l⟩,some u=>some ⟨b,t,l,u,false⟩
   | _,_=>none
  | _=>none
def hasOne {α:Type}:List α→Bool
 | []=>false
 | _=>true
structure Arg (X:Tab) where
 a:AV X
 back:Option Nat
 roots:List (Nat×List PS)
 caps:List Nat
def capArg (e:Env X):AV X→Option (Arg X)
 | .ptr (.box s g) q=>match e s with
  | .box g' T v o=>if g=g'∧o.pure=true then match getQ q T v with
    | some ⟨T',u⟩=>some ⟨.rptr T' u,none,[],[s]⟩
    | none=>none
   else none
  | _=>none
 | .val T v o=>if o.pure then some ⟨.val T v .no,none,[],[]⟩ else none
 | .rptr T v=>some ⟨.rptr T v,none,[],[]⟩
 | .undef=>some ⟨.undef,none,[],[]⟩
 | _=>none
def allO {α β:Type} (f:α→Option β):List α→Option (List β)
 | []=>some []
 | x :: l=>match f x,allO f l with
  | some y,some ys=>some (y :: ys)
  | _,_=>none
def isLf (X:Tab) (f:Nat):Bool:=X.lf.any (·==f)
def lendB (e:Env X) (f:Nat):List (AV X)→List (AV X)→Option (Arg X)
 | [],[.ptr (.box s g) []]=>match e s with
  | .box g' T v o=>if g=g' then some ⟨.fnb f 0 T v (o.gen 0),some s,[],[]⟩ else none
  | _=>none
 | _,_=>none
def argV (e:Env X):AV X→Option (Arg X)
 | .val T v o=>if o.pure then some ⟨.val T v .no,none,[],[]⟩ else none
 | .ref s q g=>match cont e s q g with
  | some ⟨b,t,l⟩=>some ⟨.val (.slice b t) l .no,none,[(s,q)],[]⟩
  | none=>none
 | .ptr (.box s g) []=>match e s with
  | .box g' T v o=>if g=g' then some ⟨.box 0 T v (o.gen 0),some s,[],[]⟩ else none
  | _=>none
 | .rptr T v=>some ⟨.rptr T v,none,[],[]⟩
 | .rfn f a b=>some ⟨.rfn f a b,none,[],[]⟩
 | .aview (.box s g) q b n t off hi=>match e s,slOf e (.aview (.box s g) q b n t off hi) with
  | .box _ _ _ o,some ⟨b,t,l⟩=>if o.pure=true then some ⟨.val (.slice b t) l .no,none,[],[s]⟩ else none
  | _,_=>none
 | .fref s g=>match e s with
  | .fnb f g' T v o=>if g=g' then some ⟨.fnb f 0 T v (o.gen 0),some s,[],[]⟩ else none
  | _=>none
 | .fn f first caps=>if isLf X f then lendB e f first caps else match allO (capArg e) first,allO (capArg e) caps with
  | some fs,some cs=>some ⟨.fn f (fs.map (·.a)) (cs.map (·.a)),none,[],(fs++cs).flatMap (·.caps)⟩
  | _,_=>none
 | _=>none
def lendR (e:Env X) (s g:Nat):Option (Arg X):=match e s with
 | .val (.slice b t) l (.yes g')=>if g=g' then some ⟨.val (.slice b t) l (.yes 0),some s,[],[]⟩ else none
 | _=>none
def lendV (e:Env X):AV X→Option (Arg X)
 | .ref s [] g=>lendR e s g
 | .val T v .full=>some ⟨.val T v .full,none,[],[]⟩
 | v=>argV e v
def isLs (X:Tab) (f:Nat):Bool:=X.ls.any (·==f)
def argF (e:Env X) (f:Nat) (x:AX X):Option (Arg X):=if isLs X f then lendV e (rd e x) else argV e (rd e x)
mutual
def flatV:AV X→Bool
 | .val T _ _=>X.flat T
 | .tup l=>flatL l
 | _=>false
def flatL:List (AV X)→Bool
 | []=>true
 | x :: l=>flatV x&&flatL l
end
mutual
def genV (g:Nat):AV X→AV X
 | .val T v o=>.val T v (o.gen g)
 | .box _ T v o=>.box g T v (o.gen g)
 | .fnb f _ T v o=>.fnb f g T v (o.gen g)
 | .fnew _=>.fnew g
 | .tup l=>.tup (genVL g l)
 | v=>v
def genVL (g:Nat):List (AV X)→List (AV X)
 | []=>[]
 | x :: l=>genV g x :: genVL g l
end
def isVal:AV X→Bool
 | .val _ _ o=>o.alive
 | _=>false
def isRes:AV X→Bool
 | .tup l=>l.all isVal
 | .fn _ _ _=>true
 | v=>isVal v
def freezeAll (e:Env X):List (Nat×List PS)→Option (Ups X)
 | []=>some []
 | (s,q) :: l=>match setMask e s q .no with
  | some u=>(freezeAll (applyU e u) l).map (u++·)
  | none=>none
def bk1 (g:Nat) (x o:AV X):Option (AV X):=match o,x with
 | .box _ T v m,.box g' T' _ _=>if T=T' then some (.box g' T v (m.gen g)) else none
 | .val (.slice b t) l m,.val (.slice b' t') _ (.yes _)=>if b=b'∧t=t' then some (.val (.slice b t) l (m.gen g)) else none
 | .undef,.val (.slice _ _) _ (.yes _)=>some .undef
 | .box _ T v m,.fnb f g' T' _ _=>if T=T' then some (.fnb f g' T v (m.gen g)) else none
 | .fnb _ _ T v m,.box g' T' _ _=>if T=T' then some (.box g' T v (m.gen g)) else none
 | .fnb f _ T v m,.fnb f' g' T' _ _=>if T=T'∧f=f' then some (.fnb f g' T v (m.gen g)) else none
 | _,_=>none
def giveBack (e:Env X) (g:Nat):List (Arg X)→List (AV X)→Option (Ups X)
 | [],[]=>some []
 | a :: as,o :: os=>match a.back with
  | some s=>match bk1 g (e s) o with
   | some x=>(giveBack e g as os).map ((s,x) :: ·)
   | none=>none
  | none=>giveBack e g as os
 | _,_=>none
abbrev Ret (X:Tab):=AV X×List (AV X)
def nodupB:List Nat→Bool
 | []=>true
 | x :: l=>l.all (fun y=>!(x==y))&&nodupB l
def flatO:AV X→Bool
 | .box _ T _ _=>X.flat T
 | .val (.slice _ t) _ (.yes _)=>X.flat t
 | .fnb _ _ T _ _=>X.flat T
 | .undef=>true
 | _=>false
def dropAll (e:Env X) (l:List Nat):Env X:=l.foldl (fun e s=>upd e s .undef) e
def afterCall (cp:Bool) (e:Env X) (g:Nat) (args:List (Arg X)) (d:Option Nat) (r:Ret X):Option (Ups X):=
 let roots:=args.flatMap (·.roots)
 let lent:=args.filterMap (·.back)
 let caps:=args.flatMap (·.caps)
 if nodupB lent&&(roots.all fun q=>lent.all fun s=>!(q.1==s))&&(caps.all fun q=>lent.all fun s=>!(q==s))&&isRes r.1 then
  match (if flatV r.1&&r.2.all flatO then some [] else if caps.isEmpty || (cp&&caps.all fun c=>roots.all fun q=>!(q.1==c)) then (freezeAll e roots).map (·++caps.map fun s=>(s,.undef)) else none),giveBack e g args r.2 with
  | some u1,some u2=>some (u1++(u2++outU d (genV g r.1)))
  | _,_=>none
 else none
def subV (T:X.Ty) (v:X.den T) (o:Own) (lo hi mx:Option Nat):Option (AV X):=
 match T,v with
 | .str,s=>if mx.isNone then (Str.sub? s (lo.getD 0) (hi.getD (Str.l s).length)).map (.val .str · .no) else none
 | .slice b t,l=>match mx with
  | none=>(Sl.sub? l (lo.getD 0) (hi.getD (Sl.l l).length)).map fun l'=>.val (.slice b t) l' (match o,hi with | .full,none=>.full | _,_=>.no)
  | some m=>if hi=some m∧m≤(Sl.l l).length then (Sl.sub? l (lo.getD 0) m).map fun l'=>.val (.slice b t) l' .full else none
 | _,_=>none
def Str.cat? (a b:Str):Option Str:=if h:(a.l++b.l).length≤room then some ⟨a.l++b.l,h⟩ else none
def strOf (l:Sl 1 (W .u8)):Str:=⟨l.l.map fun w=>UInt8.ofNat w.n.toNat,by rw [List.length_map];exact l.h.2⟩
def oNat (e:Env X):Option (AX X)→Option (Option Nat)
 | none=>some none
 | some x=>(natOf (rd e x)).map some
def AOp.xs:AOp X→List (AX X)
 | .move x | .box _ x | .load _ x | .fld _ _ x | .part _ _ x | .un _ x | .conv _ x | .extract x _ | .len _ x | .isNil _ x | .nilCheck x | .mlen _ _ x | .loadF x | .strB x | .loadM _ x | .moveT x | .clr _ _ x=>[x]
 | .arrS _ _ _ x lo hi=>x :: (lo.toList++hi.toList)
 | .pick a b c | .mset _ _ a b c=>[a,b,c]
 | .store _ x y | .idxA _ _ x y | .idxS _ _ x y | .idxStr x y | .idxV _ _ x y | .bin _ x y | .eq _ _ x y | .append _ _ x y | .makeSlice _ _ x y | .copy _ _ x y | .mlook _ _ _ x y | .mdel _ _ x y | .storeF x y | .cat x y=>[x,y]
 | .build _ ps | .buildA _ _ ps | .buildSlice _ _ _ ps=>ps.map (·.2)
 | .call _ args | .mm _ args=>args
 | .callv x args=>x :: args
 | .slice _ x a b c=>x :: (a.toList++b.toList++c.toList)
 | .view _ _ x a b=>x :: (a.toList++b.toList)
 | .makeFunc _ fs cs=>fs++cs
 | .alloc _ | .makeMap _ _ | .allocF | .bad | .junk=>[]
def capRef:AV X→Option (AV X)
 | .ptr b q=>some (.ptr b q)
 | .rptr T v=>some (.rptr T v)
 | .val T v o=>if o.pure then some (.val T v .no) else none
 | .rfn f a b=>some (.rfn f a b)
 | .undef=>some .undef
 | _=>none
def isSl:X.Ty→Bool
 | .slice _ _=>true
 | _=>false
def zmF (g:Nat) (T:X.Ty):Own:=if isSl T then .yes g else .no
def zm (g:Nat) (T:X.Ty):Own:=
 match T with
 | .slice _ _=>.yes g
 | .named i=>if (X.fields i).any isSl then .st ((X.fields i).map (zmF g)) else .no
 | _=>.no
def selfMv (e:Env X) (d:Option Nat) (r:Nat) (q:List PS) (g:Nat):Bool:=
 match d,q,e r with
 | some d',[],.val (.slice _ _) _ (.yes g')=>d'==r&&g==g'
 | _,_,_=>false
def vwOf:AV X→Option (Nat×List PS×Nat×Nat)
 | .view s q g off none=>some (s,q,g,off)
 | .ref s q g=>some (s,q,g,0)
 | _=>none
def capL (e:Env X):AV X→Option (Arg X)
 | .rfn f a b=>argV e (.rfn f a b)
 | .ptr (.box s g) []=>argV e (.ptr (.box s g) [])
 | v=>capArg e v
def isDf (X:Tab) (f:Nat):Bool:=X.df.any (·==f)
def capA (e:Env X) (f:Nat) (v:AV X):Option (Arg X):=if isLf X f then capL e v else capArg e v
def findB:List (Option Nat)→Nat→Nat→Option Nat
 | [],_,_=>none
 | some t :: l,s,i=>if t=s then some i else findB l s (i+1)
 | none :: l,s,i=>findB l s (i+1)
def fixP (e:Env X) (backs:List (Option Nat)):AV X→AV X
 | .ptr (.box s g) []=>match e s with
  | .box g' _ _ _=>if g=g' then match findB backs s 0 with
    | some i=>.ptr (.box i 0) []
    | none=>.undef
   else .undef
  | _=>.undef
 | _=>.undef
def fixV (e:Env X) (backs:List (Option Nat)):AV X→AV X
 | .rfn f a b=>.rfn f (a.map (fixP e backs)) (b.map (fixP e backs))
 | v=>v
def fixA (e:Env X) (backs:List (Option Nat)) (A:Arg X):Arg X:=⟨fixV e backs A.a,A.back,A.roots,A.caps⟩
def Arg.bk (A:Arg X):Option Nat:=match A.a with
 | .fnb _ _ _ _ _=>none
 | _=>A.back
def fixAll (e:Env X) (as:List (Arg X)):List (Arg X):=as.map (fixA e (as.map (·.bk)))
def callArgs (e:Env X):AOp X→Option (Nat×List (Arg X))
 | .call f args=>match allO (argF e f) args with
  | some as=>some (f,fixAll e as)
  | none=>none
 | .callv x args=>match rd e x with
  | .fn f first caps=>match allO (argF e f) args,allO (capArg e) first,allO (capA e f) caps with
   | some as,some fs,some cs=>some (f,fixAll e (fs++as++cs))
   | _,_,_=>none
  | .fref s g=>match e s with
   | .fnb f g' T v o=>if g=g' then match allO (argF e f) args with
     | some as=>some (f,fixAll e (as++[⟨.box 0 T v (o.gen 0),some s,[],[]⟩]))
     | none=>none
    else none
   | _=>none
  | _=>none
 | _=>none
def mapAt (e:Env X) (k t:X.Ty):AV X→Option (Nat×Nat×List (X.den k×X.den t))
 | .mref s g=>match e s with
  | .val T v (.yes g')=>if g=g' then (castT v (.map k t)).map fun l=>(s,g,l) else none
  | _=>none
 | _=>none
def mapOf (e:Env X) (k t:X.Ty):AV X→Option (List (X.den k×X.den t))
 | .val T v o=>if o.pure then castT v (.map k t) else none
 | .mref s g=>(mapAt e k t (.mref s g)).map (·.2.2)
 | _=>none
def eff (ans:Ret X) (g:Nat) (e:Env X) (d:Option Nat) (op:AOp X):Option (Ups X):=
 let out (v:AV X):Option (Ups X):=some (outU d v)
 match op with
 | .move x=>match x with
  | .t s=>match e s with
   | .val T v o=>if o.pure then out (.val T v o) else (out (.val T v (o.gen g))).map ([(s,.undef)]++·)
   | .tup l=>(out (genV g (.tup l))).map ([(s,.undef)]++·)
   | .ref r q g'=>if selfMv e d r q g' then some [] else out (.ref r q g')
   | .fnew _=>none
   | _=>out (rd e x)
  | .v s=>match e s with
   | .tup _=>none
   | .val (.slice b t) l (.yes g')=>out (.ref s [] g')
   | .val (.map k t) l (.yes g')=>out (.mref s g')
   | .val T v o=>if o.pure then out (.val T v o) else if o.alive then (out (.val T v .no)).map ([(s,.val T v .no)]++·) else none
   | .fnew _=>none
   | _=>out (rd e x)
  | .c x=>out x
 | .pick c a b=>match boolOf (rd e c) with
  | some true=>(boolOf (rd e a)).bind fun z=>out (.val .bool z .no)
  | some false=>(boolOf (rd e b)).bind fun z=>out (.val .bool z .no)
  | none=>none
 | .alloc T=>out (.box g T (X.zero T) (zm g T))
 | .box T x=>match take e x with
  | some ⟨_,v,o,u⟩=>match castT v T with
   | some v=>(out (.box g T v (o.gen g))).map (u++·)
   | none=>none
  | none=>none
 | .moveT x=>match take e x with
  | some ⟨T,v,o,u⟩=>(out (.val T v (o.gen g))).map (u++·)
  | none=>none
 | .load T x=>loadV e T (rd e x) d
 | .loadM T x=>match rd e x with
  | .ptr (.box s g') []=>match e s with
   | .box g2 T0 v0 o0=>if g'=g2∧o0.alive=true then match castT v0 T with
     | some v=>(out (.val T v (o0.gen g))).map ([(s,.undef)]++·)
     | none=>none
    else none
   | _=>none
  | _=>none
 | .store T x v=>match take e v with
  | some ⟨_,v,o,u⟩=>match castT v T with
   | some v=>(storeV (applyU e u) g T (rd (applyU e u) x) v o).map (u++·)
   | none=>none
  | none=>none
 | .fld i j x=>match rd e x with
  | .ptr b q=>if ptrTy e b q=some (.named i)∧j < (X.fields i).length then out (.ptr b (q++[.fld j])) else none
  | .rptr T v=>match castT v (.named i) with
   | some v=>match getT (X.fields i) (X.to i v) j with
    | some ⟨T',u⟩=>out (.rptr T' u)
    | none=>none
   | none=>none
  | _=>none
 | .idxA n t x i=>match rd e x,rd e i with
  | .ptr b q,.val (.int _) i _=>if ptrTy e b q=some (.arr n t) then (idx? n i).bind fun j=>out (.ptr b (q++[.idx j])) else none
  | .rptr T v,.val (.int _) i _=>match castT v (.arr n t) with
   | some v=>(idx? n i).bind fun j=>out (.rptr t (v.l.getD j (X.zero t)))
   | none=>none
  | _,_=>none
 | .idxS b t x i=>match rd e x,rd e i with
  | .ref s q g',.val (.int _) i _=>match cont e s q g' with
   | some ⟨b',t',l⟩=>if b=b'∧t=t' then (idx? l.l.length i).bind fun j=>out (.ptr (.elem s q g' j) []) else none
   | none=>none
  | .val T l o,.val (.int _) i _=>if o.pure then match castT l (.slice b t) with
    | some l=>(Sl.get? l i).bind fun x=>out (.rptr t x)
    | none=>none
   else none
  | _,_=>none
 | .idxStr x i=>match rd e x,rd e i with
  | .val .str s _,.val (.int _) i _=>(Str.get? s i).bind fun b=>out (.val (.int .u8) b .no)
  | _,_=>none
 | .part i j x=>match rd e x with
  | .val T v o=>if o.pure then match castT v (.named i) with
    | some v=>match getT (X.fields i) (X.to i v) j with
     | some ⟨T',u⟩=>out (.val T' u .no)
     | none=>none
    | none=>none
   else none
  | _=>none
 | .idxV n t x i=>match rd e x,rd e i with
  | .val T v o,.val (.int _) i _=>if o.pure then match castT v (.arr n t) with
    | some v=>(idx? n i).bind fun j=>out (.val t (v.l.getD j (X.zero t)) .no)
    | none=>none
   else none
  | _,_=>none
 | .bin o x y=>(binV o (rd e x) (rd e y)).bind out
 | .eq T neg x y=>match valP (rd e x) T,valP (rd e y) T with
  | some a,some b=>if X.comparable T then out (.val .bool (if neg then !(X.eq T a b) else X.eq T a b) .no) else none
  | _,_=>none
 | .un o x=>(unV o (rd e x)).bind out
 | .conv k x=>match rd e x with
  | .val (.int _) a _=>out (.val (.int k) (W.conv k a) .no)
  | _=>none
 | .cat x y=>match rd e x,rd e y with
  | .val .str a _,.val .str b _=>(Str.cat? a b).bind fun s=>out (.val .str s .no)
  | _,_=>none
 | .strB x=>match slOf e (rd e x) with
  | some ⟨b,t,l⟩=>match castT (X:=X) (T:=.slice b t) l (.slice 1 (.int .u8)) with
   | some l=>out (.val .str (strOf l) .no)
   | none=>none
  | none=>none
 | .build i parts=>match takeAll e parts with
  | some (vs,u)=>match setParts i (X.to i (X.zeroD i)) (partsV vs),partsO g vs (zm g (.named i)) with
   | some x,some m=>(out (.val (.named i) (X.of i x) m)).map (u++·)
   | _,_=>none
  | none=>none
 | .buildA n t parts=>match takeAll e parts with
  | some (vs,u)=>if partsPure vs then match h:setElems (List.replicate n (X.zero t)) (partsV vs) with
    | some x=>(out (.val (.arr n t) (⟨x,by rw [setElems_length h,List.length_replicate]⟩:Arr n (X.den t)) .no)).map (u++·)
    | none=>none
   else none
  | none=>none
 | .buildSlice b t len parts=>match takeAll e parts with
  | some (vs,u)=>if partsPure vs&&decide (len*X.sz t≤16777216) then match setElems (List.replicate len (X.zero t)) (partsV vs) with
    | some x=>(Sl.mk? b x).bind fun l=>(out (.val (.slice b t) l (.yes g))).map (u++·)
    | none=>none
   else none
  | none=>none
 | .extract x i=>match x with
  | .t s=>match e s with
   | .tup l=>match l[i]? with
    | some (.val T v o)=>if o.pure then out (.val T v o) else (out (.val T v (o.gen g))).map ([(s,.tup (l.set i .undef))]++·)
    | some (.fn f a b)=>out (.fn f a b)
    | _=>none
   | _=>none
  | _=>none
 | .call f args=>match callArgs e (.call f args) with
  | some (_,as)=>afterCall true e g as d ans
  | none=>none
 | .callv x args=>match callArgs e (.callv x args) with
  | some (_,as)=>afterCall false e g as d ans
  | none=>none
 | .mm isMax args=>match args.map (rd e) with
  | .val (.int k) x _ :: l=>(mmI k isMax x l).bind fun z=>out (.val (.int k) z .no)
  | _=>none
 | .len true x=>match rd e x with
  | .val .str s _=>out (.val (.int .i64) (Str.len s) .no)
  | _=>none
 | .len false x=>(slOf e (rd e x)).bind fun ⟨_,_,l⟩=>out (.val (.int .i64) l.len .no)
 | .append b t x y=>match grab e x with
  | some ⟨b1,t1,l1,u,z⟩=>match castT (X:=X) (T:=.slice b1 t1) l1 (.slice b t),slOf e (rd e y) with
   | some l1,some ⟨b2,t2,l2⟩=>match castT (X:=X) (T:=.slice b2 t2) l2 (.slice b t) with
    | some l2=>if (!z || hasOne l2.l)=true then (Sl.app? l1 l2).bind fun l=>(out (.val (.slice b t) l (.yes g))).map (u++·) else (out (.val (.slice b t) l1 .full)).map (u++·)
    | none=>none
   | _,_=>none
  | none=>none
 | .arrS b n t x lo hi=>match oNat e lo,oNat e hi with
  | some lo,some hi=>match rd e x with
   | .ptr bs q=>if ptrTy e bs q=some (.arr n t) then (vw? n lo hi).bind fun _=>out (.aview bs q b n t (lo.getD 0) (hi.getD n)) else none
   | .rptr T v=>match castT v (.arr n t) with
    | some v=>if h:okA b n=true then (Sl.sub? (Arr.sl b v h) (lo.getD 0) (hi.getD n)).bind fun r=>out (.val (.slice b t) r .no) else none
    | none=>none
   | _=>none
  | _,_=>none
 | .makeSlice b t l c=>match rd e l,rd e c with
  | .val (.int _) n _,.val (.int _) m _=>(Sl.make? b (X.zero t) n m).bind fun l=>out (.val (.slice b t) l (.yes g))
  | _,_=>none
 | .slice T x lo hi mx=>match take e x,oNat e lo,oNat e hi,oNat e mx with
  | some ⟨_,v,o,u⟩,some lo,some hi,some mx=>match castT v T with
   | some v=>if o.alive then (subV T v o lo hi mx).bind fun r=>(out r).map (u++·) else none
   | none=>none
  | _,_,_,_=>none
 | .isNil _ _=>none
 | .makeFunc f first caps=>match allO (fun x=>capRef (rd e x)) first,allO (fun x=>capRef (rd e x)) caps with
  | some a,some b=>out (.fn f a b)
  | _,_=>none
 | .view b t x lo hi=>match oNat e lo,oNat e hi with
  | some lo,some hi=>match rd e x with
   | .ref s q g'=>match cont e s q g' with
    | some ⟨b',t',l⟩=>if b=b'∧t=t' then (vw? l.l.length lo hi).bind fun _=>out (.view s q g' (lo.getD 0) hi) else none
    | none=>none
   | .val T v o=>if o.pure then match castT v (.slice b t) with
     | some v=>(Sl.sub? v (lo.getD 0) (hi.getD (Sl.l v).length)).bind fun r=>out (.val (.slice b t) r .no)
     | none=>none
    else none
   | _=>none
  | _,_=>none
 | .copy b t x y=>match vwOf (rd e x) with
  | some (s,q,g',off)=>match cont e s q g',slOf e (rd e y),slotC (e s) with
   | some ⟨b1,t1,l1⟩,some ⟨b2,t2,l2⟩,some ⟨T,v,o⟩=>match castT (X:=X) (T:=.slice b1 t1) l1 (.slice b t),castT (X:=X) (T:=.slice b2 t2) l2 (.slice b t) with
    | some l1,some l2=>match setQ q T v (.slice b t) (Sl.copy l1 off l2) with
     | some v1=>(out (.val (.int .i64) (Sl.copyLen l1 off l2) .no)).map ([(s,withV (e s) T v1 o)]++·)
     | none=>none
    | _,_=>none
   | _,_,_=>none
  | none=>match rd e x with
   | .aview bs q b' n t' off hi=>if b'=b∧t'=t∧hi=n then match derefA e bs q n t,slOf e (rd e y) with
     | some v,some ⟨b2,t2,l2⟩=>match castT (X:=X) (T:=.slice b2 t2) l2 (.slice b t) with
      | some l2=>match storeV e g (.arr n t) (.ptr bs q) (Arr.copy (b:=b) v off l2) .no with
       | some u=>(out (.val (.int .i64) (Arr.copyLen (b:=b) v off l2) .no)).map (u++·)
       | none=>none
      | none=>none
     | _,_=>none
    else none
   | _=>none
 | .nilCheck x=>match rd e x with
  | .ptr b q=>if (ptrTy e b q).isSome then out (.ptr b q) else none
  | .rptr T v=>out (.rptr T v)
  | _=>none
 | .allocF=>out (.fnew g)
 | .junk=>out .undef
 | .storeF x v=>match x,rd e v with
  | .t s,.fn f a b | .v s,.fn f a b=>match e s with
   | .fnew _=>if d.isNone then some [(s,.rfn f a b)] else none
   | _=>none
  | _,_=>none
 | .loadF x=>match rd e x with
  | .rfn f a b=>out (.fn f a b)
  | _=>none
 | .makeMap k t=>out (.val (.map k t) ([]:List (X.den k×X.den t)) (.yes g))
 | .mlook k t ok x i=>match mapOf e k t (rd e x),valP (rd e i) k with
  | some l,some z=>if ok then out (.tup [.val t ((mGet (X.eq k) l z).getD (X.zero t)) .no,.val .bool (mGet (X.eq k) l z).isSome .no]) else out (.val t ((mGet (X.eq k) l z).getD (X.zero t)) .no)
  | _,_=>none
 | .mset k t x i v=>match mapAt e k t (rd e x),valP (rd e i) k,valP (rd e v) t with
  | some (s,g',l),some z,some y=>if d.isNone then some [(s,.val (.map k t) (mPut (X.eq k) l z y) (.yes g'))] else none
  | _,_,_=>none
 | .mdel k t x i=>match mapAt e k t (rd e x),valP (rd e i) k with
  | some (s,g',l),some z=>(out (.tup [])).map ([(s,.val (.map k t) (mDel (X.eq k) l z) (.yes g'))]++·)
  | _,_=>none
 | .clr b t x=>match vwOf (rd e x) with
  | some (s,q,g',off)=>match cont e s q g',slotC (e s) with
   | some ⟨b1,t1,l1⟩,some ⟨T,v,o⟩=>match castT (X:=X) (T:=.slice b1 t1) l1 (.slice b t) with
    | some l1=>match setQ q T v (.slice b t) (Sl.clr l1 off (X.zero t)) with
     | some v1=>(out (.tup [])).map ([(s,withV (e s) T v1 o)]++·)
     | none=>none
    | none=>none
   | _,_=>none
  | none=>none
 | .mlen k t x=>(mapOf e k t (rd e x)).bind fun l=>(mLen? l).bind fun n=>out (.val (.int .i64) n .no)
 | .bad=>none
end tab
end Go.A2
