/- YtnpgljilkkipkaaGreatA2F: parts of the machine and its laws, in one text. No statement of the seat is proved here. -/
import Derived.Test.YtnpgljilkkipkaaGreatA2D
set_option linter.unusedSimpArgs false
set_option linter.unusedVariables false
namespace Go.A2
theorem zY (n:Int):IntKind.u32.wrap n=n % 4294967296:=by simp [IntKind.wrap,IntKind.bits,IntKind.signed]
theorem eP (n:Int):IntKind.u64.wrap n=n % 18446744073709551616:=by simp [IntKind.wrap,IntKind.bits,IntKind.signed]
theorem de (n:Int):IntKind.i64.wrap n=(n+9223372036854775808) % 18446744073709551616 - 9223372036854775808:=by
 simp [IntKind.wrap,IntKind.bits,IntKind.signed];split<;>omega
theorem W.r_u32 (a:W .u32):0≤a.n∧a.n < 4294967296:=by
 have:=a.h;simp only [IntKind.has,IntKind.min,IntKind.max,IntKind.signed,IntKind.bits,Bool.false_eq_true,if_false] at this;omega
theorem W.r_u64 (a:W .u64):0≤a.n∧a.n < 18446744073709551616:=by
 have:=a.h;simp only [IntKind.has,IntKind.min,IntKind.max,IntKind.signed,IntKind.bits,Bool.false_eq_true,if_false] at this;omega
theorem W.r_i64 (a:W .i64):-9223372036854775808≤a.n∧a.n < 9223372036854775808:=by
 have:=a.h;simp only [IntKind.has,IntKind.min,IntKind.max,IntKind.signed,IntKind.bits,if_true] at this;omega
section
variable {k k':IntKind}
theorem W.of_n (n:Int):(W.of k n).n=k.wrap n:=rfl
theorem W.add_n (a b:W k):(a.add b).n=k.wrap (a.n+b.n):=rfl
theorem W.sub_n (a b:W k):(a.sub b).n=k.wrap (a.n - b.n):=rfl
theorem W.mul_n (a b:W k):(a.mul b).n=k.wrap (a.n*b.n):=rfl
theorem W.rem_n (a b:W k):(a.rem b).n=k.wrap (a.n.tmod b.n):=rfl
theorem W.conv_n (a:W k):(W.conv k' a).n=k'.wrap a.n:=rfl
theorem W.and_n (a b:W k):(a.and b).n=k.wrap (BitVec.ofInt k.bits a.n &&& BitVec.ofInt k.bits b.n).toNat:=rfl
theorem W.andNot_n (a b:W k):(a.andNot b).n=k.wrap (BitVec.ofInt k.bits a.n &&& ~~~ BitVec.ofInt k.bits b.n).toNat:=rfl
theorem W.eq_iff {a b:W k}:W.eq a b=true ↔ a=b:=by
 unfold W.eq
 rw [beq_iff_eq]
 exact ⟨W.ext,fun h=>by rw [h]⟩
theorem W.eq_n {a b:W k}:W.eq a b=true ↔ a.n=b.n:=by unfold W.eq;rw [beq_iff_eq]
theorem W.lt_n {a b:W k}:W.lt a b=true ↔ a.n < b.n:=by unfold W.lt;rw [decide_eq_true_eq]
theorem W.le_n {a b:W k}:W.le a b=true ↔ a.n≤b.n:=by unfold W.le;rw [decide_eq_true_eq]
theorem W.gt_n {a b:W k}:W.gt a b=true ↔ a.n > b.n:=by unfold W.gt;rw [decide_eq_true_eq]
theorem W.ge_n {a b:W k}:W.ge a b=true ↔ a.n ≥ b.n:=by unfold W.ge;rw [decide_eq_true_eq]
theorem W.max_n {a b:W k}:(W.max a b).n=if b.n > a.n then b.n else a.n:=by unfold W.max;split<;>rfl
theorem W.eq_self (a:W k):W.eq a a=true:=W.eq_iff.2 rfl
end
section
variable {R:Type}
theorem ae (r:R):(Tree.ret r).eval=some r:=rfl
theorem ak (b:Bool) (t e:Tree R):(Tree.ite b t e).eval=if b=true then t.eval else e.eval:=by cases b<;>rfl
theorem an {α:Type} (o:Option α) (f:α→Tree R):(Tree.opt o f).eval=o.bind fun a=>(f a).eval:=by cases o<;>rfl
theorem aM {α β:Type} (o:α⊕β) (f:α→Tree R) (g:β→Tree R):(Tree.sum o f g).eval=Sum.elim (fun a=>(f a).eval) (fun b=>(g b).eval) o:=by cases o<;>rfl
theorem aj {α β:Type} (a:α) (f:α→Option β):(some a).bind f=f a:=rfl
end
theorem PJ {α β:Type} {f:α→Option (Rnd α β)} (I:α→Prop) (μ:α→Nat) (Q:β→Prop)
  (hstep:∀ a,I a→(∃ a',f a=some (.next a')∧I a'∧μ a' < μ a)∨∃ b,f a=some (.out b)∧Q b):∀ {n:Nat} {a:α},I a→μ a < n→∃ b,az f n a=some b∧Q b
 | 0,a,_,hn=>by omega
 | n+1,a,hI,hn=>by
  rw [dt]
  rcases hstep a hI with ⟨a',h1,h2,h3⟩ | ⟨b,h1,h2⟩
  ·rw [h1];exact PJ I μ Q hstep h2 (by omega)
  ·rw [h1];exact ⟨b,rfl,h2⟩
theorem jw {k:IntKind} {n:Nat} {i:W k} (h:0≤i.n∧i.n < n):aI n i=some i.n.toNat:=by unfold aI;rw [if_pos h]
theorem Arr.get_set {α:Type} [Inhabited α] {n:Nat} {a:Arr n α} {i j:Nat} {x:α} (h:i < n):(a.set i x).get j=if i=j then x else a.get j:=by
 unfold Arr.get Arr.set
 have:=a.h
 by_cases hij:i=j
 ·subst hij
  simp [List.getD_eq_getElem?_getD,this,h]
 ·simp [List.getD_eq_getElem?_getD,hij]
theorem Arr.get_rep {α:Type} [Inhabited α] {n j:Nat} {x:α} (h:j < n):(Arr.rep n x).get j=x:=by
 simp [Arr.get,Arr.rep,List.getD_eq_getElem?_getD,h]
def W.v {k:IntKind} (a:W k):Nat:=a.n.toNat
section u32
theorem W.v_lt (a:W .u32):a.v < 4294967296:=by have:=a.r_u32;unfold W.v;omega
theorem W.n_v (a:W .u32):a.n=a.v:=by have:=a.r_u32;unfold W.v;omega
theorem W.ext_v {a b:W .u32} (h:a.v=b.v):a=b:=W.ext (by rw [W.n_v,W.n_v,h])
theorem Qg (a:W .u32):BitVec.ofInt 32 a.n=BitVec.ofNat 32 a.v:=by rw [W.n_v];simp
theorem W.and_v (a b:W .u32):(a.and b).v=a.v &&& b.v:=by
 have h:(a.and b).n=IntKind.u32.wrap (BitVec.ofInt 32 a.n &&& BitVec.ofInt 32 b.n).toNat:=rfl
 unfold W.v
 rw [h,Qg,Qg,BitVec.toNat_and,BitVec.toNat_ofNat,BitVec.toNat_ofNat,Nat.mod_eq_of_lt a.v_lt,Nat.mod_eq_of_lt b.v_lt,zY]
 have:a.v &&& b.v < 4294967296:=Nat.lt_of_le_of_lt Nat.and_le_left a.v_lt
 show (((a.v &&& b.v:Nat):Int) % 4294967296).toNat=a.v &&& b.v
 omega
theorem ahn {a:W .u32} {m:Nat} (h:a.n=IntKind.u32.wrap (m:Int)):a.v=m % 4294967296:=by
 unfold W.v;rw [h,zY];omega
theorem W.rem_v (a b:W .u32):(a.rem b).v=a.v % b.v:=by
 rw [ahn (m:=a.v % b.v) (by rw [W.rem_n,a.n_v,b.n_v];rfl)]
 exact Nat.mod_eq_of_lt (Nat.lt_of_le_of_lt (Nat.mod_le _ _) a.v_lt)
section uns
variable {k:IntKind} (hk:k.signed=false)
include hk
theorem W.ur (a:W k):0≤a.n∧a.n < 2 ^ k.bits:=by
 have:=a.h;simp only [IntKind.has,IntKind.min,IntKind.max,hk,Bool.false_eq_true,if_false] at this;omega
theorem W.un (a:W k):a.n=a.v:=by have:=a.ur hk;unfold W.v;omega
end uns
theorem W.conv_u64_v (a:W .u32):(W.conv .u64 a).v=a.v:=by
 have h:(W.conv .u64 a).n=IntKind.u64.wrap a.n:=rfl
 have:=a.r_u32
 unfold W.v;rw [h,eP];omega
theorem W.conv_i64_v (a:W .u32):(W.conv .i64 a).n=a.v:=by
 have h:(W.conv .i64 a).n=IntKind.i64.wrap a.n:=rfl
 have:=a.r_u32
 unfold W.v;rw [h,de];omega
end u32
end Go.A2
namespace Go.A2
def runL {α σ β:Type} (g:Nat→α→σ→Option (σ⊕β)) (out:σ→Option β):Nat→List α→σ→Option β
 | _,[],s=>out s
 | n,x :: l,s=>match g n x s with
  | some (.inl s')=>runL g out (n+1) l s'
  | some (.inr b)=>some b
  | none=>none
def adP {σ β S:Type} (st:σ→S):Option (σ⊕β)→Option (Rnd S β)
 | some (.inl s)=>some (.next (st s))
 | some (.inr b)=>some (.out b)
 | none=>none
theorem yF {α σ β S:Type} {f:S→Option (Rnd S β)} (st:Nat→σ→S) (g:Nat→α→σ→Option (σ⊕β)) (out:σ→Option β):
  ∀ {l:List α} {n N:Nat} {s:σ},(∀ i x s,l[i]?=some x→f (st (n+i) s)=adP (st (n+i+1)) (g (n+i) x s))→(∀ s,f (st (n+l.length) s)=(out s).map .out)→l.length < N→az f N (st n s)=runL g out n l s
 | [],n,N,s,_,hl,hN=>by
  obtain ⟨N,rfl⟩:∃ M,N=M+1:=⟨N - 1,by simp at hN;omega⟩
  rw [dt]
  have:=hl s
  simp only [List.length_nil,Nat.add_zero] at this
  rw [this]
  cases h:out s<;>simp [runL,h]
 | x :: l,n,N,s,hs,hl,hN=>by
  obtain ⟨N,rfl⟩:∃ M,N=M+1:=⟨N - 1,by simp at hN;omega⟩
  rw [dt]
  have h0:=hs 0 x s (by simp)
  rw [Nat.add_zero] at h0
  rw [h0]
  simp only [runL]
  cases hg:g n x s with
  | none=>rfl
  | some r=>
   cases r with
   | inr b=>rfl
   | inl s'=>
    show az f N (st (n+1) s')=runL g out (n+1) l s'
    refine yF st g out (fun i y s hi=>?_) (fun s=>?_) (by simp at hN;omega)
    ·have:=hs (i+1) y s (by simpa using hi)
     rw [show n+1+i=n+(i+1) by omega];exact this
    ·have:=hl s
     rw [show n+1+l.length=n+(x :: l).length by simp;omega];exact this
theorem G0 {S β:Type} {f:S→Option (Rnd S β)} (st:Nat→S) (b:β) {n:Nat} (step:∀ i,i < n→f (st i)=some (.next (st (i+1)))) (last:f (st n)=some (.out b)):∀ {k N:Nat},k≤n→n - k < N→az f N (st k)=some b
 | k,0,_,hN=>by omega
 | k,N+1,hk,hN=>by
  rw [dt]
  by_cases h:k=n
  ·subst h;rw [last]
  ·rw [step k (by omega)]
   exact G0 st b step last (by omega) (by omega)
abbrev wi (n:Nat):W .i64:=W.of .i64 (n:Int)
theorem aQ {n:Nat} (h:n≤aw):(wi n).n=n:=by
 unfold aw at h
 rw [W.of_n,de];omega
theorem Sl.len_n {b:Nat} {α:Type} (s:Sl b α):(Sl.len s).n=s.l.length:=rfl
theorem Sl.len_wi {b:Nat} {α:Type} (s:Sl b α):Sl.len s=wi s.l.length:=W.ext (by rw [aQ s.h.2];rfl)
theorem br {n m:Nat} (h:n≤aw) (h':m≤aw):W.lt (wi n) (wi m)=decide (n < m):=by
 unfold W.lt;rw [aQ h,aQ h'];simp
theorem dc {n:Nat} (h:n < aw):W.add (wi n) (W.of .i64 1)=wi (n+1):=by
 refine W.ext ?_
 rw [W.add_n,aQ (Nat.le_of_lt h),show (W.of .i64 1).n=1 from rfl,W.of_n];simp
theorem jR {b:Nat} {α:Type} (s:Sl b α) {n:Nat} (h:n≤aw):Sl.get? s (wi n)=s.l[n]?:=by
 unfold Sl.get?
 rw [aQ h,if_pos (by omega)];simp
theorem aY:W.of .i64 0=wi 0:=rfl
theorem dJ {n m:Nat} (h:n≤aw):aI m (wi n)=if n < m then some n else none:=by
 unfold aI
 rw [aQ h]
 by_cases hm:n < m
 ·rw [if_pos (by omega),if_pos hm];simp
 ·rw [if_neg (by omega),if_neg hm]
theorem W.ge_lt {k:IntKind} (a b:W k):W.ge a b=!W.lt a b:=by
 unfold W.ge W.lt
 by_cases h:a.n < b.n
 ·rw [decide_eq_true h,decide_eq_false (by omega)];rfl
 ·rw [decide_eq_false h,decide_eq_true (by omega)];rfl
theorem W.le_gt {k:IntKind} (a b:W k):W.le a b=!W.gt a b:=by
 unfold W.le W.gt
 by_cases h:a.n > b.n
 ·rw [decide_eq_true h,decide_eq_false (by omega)];rfl
 ·rw [decide_eq_false h,decide_eq_true (by omega)];rfl
theorem W.ne_eq {k:IntKind} (a b:W k):W.ne a b=!W.eq a b:=rfl
theorem W.ne_self {k:IntKind} (a:W k):W.ne a a=false:=by simp [W.ne]
theorem ahw {a:W .i64} {lo hi:Nat} (h:(lo:Int)≤a.n) (h':a.n≤hi):∃ k,a=wi k∧lo≤k∧k≤hi:=by
 refine ⟨a.n.toNat,W.ext ?_,by omega,by omega⟩
 have:=a.r_i64
 rw [W.of_n,de];omega
theorem ib {p:Nat→Bool} {n:Nat} (h:(List.range n).all p=true) {k:Nat} (hk:k < n):p k=true:=List.all_eq_true.1 h k (List.mem_range.2 hk)
theorem QE {α β:Type} (p:α→Bool) (a:Nat→β) (b:β):∀ (l:List α) (n:Nat),∃ r,runL (fun n x (_:Unit)=>some (if p x then .inr (a n) else .inl ())) (fun _=>some b) n l ()=some r∧((l.any p=true∧∃ k,r=a k∧n≤k∧k < n+l.length)∨(l.any p=false∧r=b))
 | [],n=>⟨b,rfl,.inr ⟨rfl,rfl⟩⟩
 | x :: l,n=>by
  cases hx:p x with
  | true=>exact ⟨a n,by simp [runL,hx],.inl ⟨by simp [hx],n,rfl,by omega,by simp⟩⟩
  | false=>
   obtain ⟨r,h1,h2⟩:=QE p a b l (n+1)
   refine ⟨r,by simp [runL,hx,h1],?_⟩
   rcases h2 with ⟨h3,k,h4,h5,h6⟩ | ⟨h3,h4⟩
   ·exact .inl ⟨by simp [hx,h3],k,h4,by omega,by simp;omega⟩
   ·exact .inr ⟨by simp [hx,h3],h4⟩
theorem Ip {α β:Type} (p:Nat→α→Bool) (a:Nat→β) (b:β):∀ (l:List α) (n:Nat),∃ r,runL (fun n x (_:Unit)=>some (if p n x then .inr (a n) else .inl ())) (fun _=>some b) n l ()=some r∧((∃ (i:Nat) (x:α),l[i]?=some x∧p (n+i) x=true∧r=a (n+i))∨((∀ (i:Nat) (x:α),l[i]?=some x→p (n+i) x=false)∧r=b))
 | [],n=>⟨b,rfl,.inr ⟨fun i x hi=>by simp at hi,rfl⟩⟩
 | x :: l,n=>by
  cases hx:p n x with
  | true=>exact ⟨a n,by simp [runL,hx],.inl ⟨0,x,rfl,hx,rfl⟩⟩
  | false=>
   obtain ⟨r,h1,h2⟩:=Ip p a b l (n+1)
   refine ⟨r,by simp [runL,hx,h1],?_⟩
   rcases h2 with ⟨i,y,h3,h4,h5⟩ | ⟨h3,h4⟩
   ·exact .inl ⟨i+1,y,by simpa using h3,by rw [show n+(i+1)=n+1+i by omega];exact h4,by rw [show n+(i+1)=n+1+i by omega];exact h5⟩
   ·refine .inr ⟨fun i y hi=>?_,h4⟩
    cases i with
    | zero=>simp at hi;subst hi;exact hx
    | succ i=>rw [show n+(i+1)=n+1+i by omega];exact h3 i y (by simpa using hi)
theorem Sv (x m:BitVec 32):x &&& ~~~m=0#32 ↔ x &&& m=x:=by
 constructor
 ·intro h
  ext i hi
  have:=congrArg (fun z:BitVec 32=>z.getLsbD i) h
  simp [hi] at this ⊢
  intro hx;exact this hx
 ·intro h
  ext i hi
  have:=congrArg (fun z:BitVec 32=>z.getLsbD i) h
  simp [hi] at this ⊢
  intro hx;exact this hx
theorem W.toBV {a:W .u32}:((BitVec.ofInt 32 a.n).toNat:Int)=a.n:=by
 have:=a.r_u32
 rw [BitVec.toNat_ofInt];omega
theorem W.masked (x m:W .u32):W.ne (W.andNot x m) (W.of .u32 0)=W.ne (W.and x m) x:=by
 have h1:(W.andNot x m).n=((BitVec.ofInt 32 x.n &&& ~~~BitVec.ofInt 32 m.n).toNat:Int):=by
  rw [W.andNot_n,zY]
  have:=(BitVec.ofInt 32 x.n &&& ~~~BitVec.ofInt 32 m.n).isLt
  show (((BitVec.ofInt 32 x.n &&& ~~~BitVec.ofInt 32 m.n).toNat:Int)) % 4294967296=_
  omega
 have h2:(W.and x m).n=((BitVec.ofInt 32 x.n &&& BitVec.ofInt 32 m.n).toNat:Int):=by
  rw [W.and_n,zY]
  have:=(BitVec.ofInt 32 x.n &&& BitVec.ofInt 32 m.n).isLt
  show (((BitVec.ofInt 32 x.n &&& BitVec.ofInt 32 m.n).toNat:Int)) % 4294967296=_
  omega
 have h3:(W.of .u32 0).n=0:=rfl
 have key:=Sv (BitVec.ofInt 32 x.n) (BitVec.ofInt 32 m.n)
 unfold W.ne
 rw [h1,h2,h3]
 have e1:((BitVec.ofInt 32 x.n &&& ~~~BitVec.ofInt 32 m.n).toNat:Int)=0 ↔ BitVec.ofInt 32 x.n &&& ~~~BitVec.ofInt 32 m.n=0#32:=by
  constructor
  ·intro h;apply BitVec.eq_of_toNat_eq;simpa using h
  ·intro h;rw [h];rfl
 have hx:((BitVec.ofInt 32 x.n).toNat:Int)=x.n:=W.toBV
 have e2:((BitVec.ofInt 32 x.n &&& BitVec.ofInt 32 m.n).toNat:Int)=x.n ↔ BitVec.ofInt 32 x.n &&& BitVec.ofInt 32 m.n=BitVec.ofInt 32 x.n:=by
  generalize BitVec.ofInt 32 x.n=X at hx
  rw [←hx]
  constructor
  ·intro h
   exact BitVec.eq_of_toNat_eq (Int.ofNat.inj h)
  ·intro h
   rw [h]
 generalize ((BitVec.ofInt 32 x.n &&& ~~~BitVec.ofInt 32 m.n).toNat:Int)=A at e1
 generalize ((BitVec.ofInt 32 x.n &&& BitVec.ofInt 32 m.n).toNat:Int)=B at e2
 have:A=0 ↔ B=x.n:=e1.trans (key.trans e2.symm)
 by_cases hc:A=0
 ·have:=this.1 hc
  simp [bne,hc,this]
 ·have h':B ≠ x.n:=fun h=>hc (this.2 h)
  have z1:(A==0)=false:=beq_eq_false_iff_ne.2 hc
  have z2:(B==x.n)=false:=beq_eq_false_iff_ne.2 h'
  simp only [bne,z1,z2]
def qk {b:Nat} {α:Type} [DecidableEq α] (x y:Option (Sl b α)) (n:Nat):Bool:=
 match x,y with
 | some a,some b=>decide (a.l=b.l)&&Nat.beq a.l.length n
 | _,_=>false
theorem Iu {b:Nat} {α:Type} [DecidableEq α] {x y:Option (Sl b α)} {n:Nat} (h:qk x y n=true):∃ a,x=some a∧y=some a∧a.l.length=n:=by
 cases x with
 | none=>cases h
 | some a=>
  cases y with
  | none=>cases h
  | some c=>
   unfold qk at h
   simp only [Bool.and_eq_true,decide_eq_true_eq] at h
   exact ⟨a,rfl,by rw [Sl.ext h.1],Nat.eq_of_beq_eq_true h.2⟩
end Go.A2
namespace Go.A2
theorem yD {α β S:Type} {f:S→Option (Rnd S β)} (st:Nat→S) (l:List α) (good:Nat→α→Bool) (bad:Nat→β) (fin:β) {N:Nat}
  (step:∀ (i:Nat) x,l[i]?=some x→f (st i)=some (if good i x=true then .next (st (i+1)) else .out (bad i))) (last:f (st l.length)=some (.out fin)) (hN:l.length < N):
  (az f N (st 0)=some fin∧∀ (i:Nat) x,l[i]?=some x→good i x=true)∨∃ i,az f N (st 0)=some (bad i)∧∃ x,l[i]?=some x∧good i x=false:=by
 have key:=yF (f:=f) (fun n (_:Unit)=>st n) (fun n x _=>some (if (!good n x)=true then .inr (bad n) else .inl ())) (fun _=>some fin) (l:=l) (n:=0) (N:=N) (s:=()) (fun i x _ hi=>by
  rw [Nat.zero_add,step i x hi]
  cases good i x<;>rfl) (fun _=>by rw [Nat.zero_add,last];rfl) hN
 obtain ⟨r,h1,h2⟩:=Ip (fun n x=>!good n x) bad fin l 0
 rw [key,h1]
 rcases h2 with ⟨i,x,h3,h4,rfl⟩ | ⟨h3,rfl⟩
 ·rw [Nat.zero_add] at h4 ⊢
  exact .inr ⟨i,rfl,x,h3,by simpa using h4⟩
 ·exact .inl ⟨rfl,fun i x hi=>by have:=h3 i x hi;rw [Nat.zero_add] at this;simpa using this⟩
theorem di {n m:Nat} (h:n≤aw) (h':m≤aw):W.eq (wi n) (wi m)=decide (n=m):=by
 by_cases hnm:n=m
 ·subst hnm;rw [W.eq_self];simp
 ·have:W.eq (wi n) (wi m) ≠ true:=fun hh=>hnm (by have:=W.eq_n.1 hh;rw [aQ h,aQ h'] at this;omega)
  simp [hnm,this]
theorem bQ {a b:Bool} (h:a=true ↔ b=true):a=b:=by cases a<;>cases b<;>simp_all
end Go.A2
namespace Go.A2
theorem cR {S β:Type} {f:S→Option (Rnd S β)} (I:Nat→S→Prop) (n:Nat) (P:Nat→Prop) (Fb Tb:β→Prop)
  (step:∀ i s,i < n→I i s→(∀ k,k < i→P k)→(P i∧∃ s',f s=some (.next s')∧I (i+1) s')∨(¬ P i∧∃ b,f s=some (.out b)∧Fb b))
  (last:∀ s,I n s→(∀ k,k < n→P k)→∃ b,f s=some (.out b)∧Tb b) {s:S} (h0:I 0 s) {N:Nat} (hN:n < N):
  ∃ b,az f N s=some b∧(((∀ k,k < n→P k)∧Tb b)∨((¬ ∀ k,k < n→P k)∧Fb b)):=by
 have main:∀ (m i N:Nat) (s:S),n - i=m→i≤n→m < N→I i s→(∀ k,k < i→P k)→∃ b,az f N s=some b∧(((∀ k,k < n→P k)∧Tb b)∨((¬ ∀ k,k < n→P k)∧Fb b)):=by
  intro m
  induction m with
  | zero=>
   intro i N s hm hi hN hI hP
   obtain ⟨N,rfl⟩:∃ M,N=M+1:=⟨N - 1,by omega⟩
   have:i=n:=by omega
   subst this
   obtain ⟨b,h1,h2⟩:=last s hI hP
   exact ⟨b,by rw [dt,h1],.inl ⟨hP,h2⟩⟩
  | succ m ih=>
   intro i N s hm hi hN hI hP
   obtain ⟨N,rfl⟩:∃ M,N=M+1:=⟨N - 1,by omega⟩
   rcases step i s (by omega) hI hP with ⟨hp,s',h1,h2⟩ | ⟨hp,b,h1,h2⟩
   ·rw [dt,h1]
    refine ih (i+1) N s' (by omega) (by omega) (by omega) h2 fun k hk=>?_
    by_cases hki:k=i
    ·rw [hki];exact hp
    ·exact hP k (by omega)
   ·exact ⟨b,by rw [dt,h1],.inr ⟨fun h=>hp (h i (by omega)),h2⟩⟩
 exact main n 0 N s (by omega) (by omega) hN h0 (fun k hk=>by omega)
theorem GZ {S S' β β':Type} {f:S→Option (Rnd S β)} {g:S'→Option (Rnd S' β')} (I:Nat→S→S'→Prop) (n:Nat) (Q:β→β'→Prop)
  (step:∀ i s s',i < n→I i s s'→(∃ t t',f s=some (.next t)∧g s'=some (.next t')∧I (i+1) t t')∨∃ b b',f s=some (.out b)∧g s'=some (.out b')∧Q b b')
  (last:∀ s s',I n s s'→∃ b b',f s=some (.out b)∧g s'=some (.out b')∧Q b b') {s:S} {s':S'} (h0:I 0 s s') {N:Nat} (hN:n < N):
  ∃ b b',az f N s=some b∧az g N s'=some b'∧Q b b':=by
 have main:∀ (m i N:Nat) (s:S) (s':S'),n - i=m→i≤n→m < N→I i s s'→∃ b b',az f N s=some b∧az g N s'=some b'∧Q b b':=by
  intro m
  induction m with
  | zero=>
   intro i N s s' hm hi hN hI
   obtain ⟨N,rfl⟩:∃ M,N=M+1:=⟨N - 1,by omega⟩
   have:i=n:=by omega
   subst this
   obtain ⟨b,b',h1,h2,h3⟩:=last s s' hI
   exact ⟨b,b',by rw [dt,h1],by rw [dt,h2],h3⟩
  | succ m ih=>
   intro i N s s' hm hi hN hI
   obtain ⟨N,rfl⟩:∃ M,N=M+1:=⟨N - 1,by omega⟩
   rcases step i s s' (by omega) hI with ⟨t,t',h1,h2,h3⟩ | ⟨b,b',h1,h2,h3⟩
   ·rw [dt,dt,h1,h2]
    exact ih (i+1) N t t' (by omega) (by omega) (by omega) h3
   ·exact ⟨b,b',by rw [dt,h1],by rw [dt,h2],h3⟩
 exact main n 0 N s s' (by omega) (by omega) hN h0
theorem bK {S β:Type} {f:S→Option (Rnd S β)} (I:Nat→S→Prop) (n:Nat) (Q:β→Prop)
  (step:∀ i s,i < n→I i s→∃ s',f s=some (.next s')∧I (i+1) s')
  (last:∀ s,I n s→∃ b,f s=some (.out b)∧Q b) {s:S} (h0:I 0 s) {N:Nat} (hN:n < N):∃ b,az f N s=some b∧Q b:=by
 obtain ⟨b,h1,h2⟩:=cR (f:=f) I n (fun _=>True) (fun _=>False) Q (fun i s hi hI _=>.inl ⟨trivial,step i s hi hI⟩) (fun s hI _=>last s hI) h0 hN
 rcases h2 with ⟨_,h⟩ | ⟨_,h⟩
 ·exact ⟨b,h1,h⟩
 ·exact h.elim
theorem bS {S β:Type} {f:S→Option (Rnd S β)} (st:Nat→S) (n:Nat) (p:Nat→Bool) (bad fin:β)
  (step:∀ i,i < n→(∀ k,k < i→p k=true)→f (st i)=some (if p i=true then .next (st (i+1)) else .out bad))
  (last:(∀ k,k < n→p k=true)→f (st n)=some (.out fin)) {N:Nat} (hN:n < N):
  az f N (st 0)=some (if (List.range n).all p=true then fin else bad):=by
 obtain ⟨b,h1,h2⟩:=cR (f:=f) (fun i s=>s=st i) n (fun i=>p i=true) (·=bad) (·=fin) (s:=st 0) (N:=N) (fun i s hi hI hP=>by
  subst hI
  rw [step i hi hP]
  by_cases h:p i=true
  ·exact .inl ⟨h,st (i+1),by rw [if_pos h],rfl⟩
  ·exact .inr ⟨h,bad,by rw [if_neg h],rfl⟩) (fun s hI hP=>by subst hI;exact ⟨fin,last hP,rfl⟩) rfl hN
 rw [h1]
 have hall:(List.range n).all p=true ↔ ∀ k,k < n→p k=true:=by rw [List.all_eq_true];exact ⟨fun h k hk=>h k (List.mem_range.2 hk),fun h k hk=>h k (List.mem_range.1 hk)⟩
 rcases h2 with ⟨h,rfl⟩ | ⟨h,rfl⟩
 ·rw [if_pos (hall.2 h)]
 ·rw [if_neg (fun hh=>h (hall.1 hh))]
def nth {α:Type} [Inhabited α] (l:List α) (i:Nat):α:=l.getD i default
theorem jD {α:Type} [Inhabited α] {l:List α} {i:Nat} (h:i < l.length):l[i]?=some (nth l i):=by
 unfold nth;rw [List.getD_eq_getElem?_getD,List.getElem?_eq_getElem h];rfl
theorem cC {α:Type} [Inhabited α] {l:List α} {i:Nat} (h:i < l.length):nth l i=l[i]:=by
 have:=jD h;rw [List.getElem?_eq_getElem h] at this;exact (Option.some.inj this).symm
theorem lv {α:Type} [Inhabited α] {l:List α} {i:Nat} (h:i < l.length):nth l i∈l:=by rw [cC h];exact List.getElem_mem h
theorem yP {α:Type} [Inhabited α] {l:List α} {x:α} (h:x∈l):∃ i,i < l.length∧nth l i=x:=by
 obtain ⟨i,hi,rfl⟩:=List.mem_iff_getElem.1 h
 exact ⟨i,hi,cC hi⟩
theorem jE {α β:Type} [Inhabited α] [Inhabited β] {f:α→β} {l:List α} {i:Nat} (h:i < l.length):nth (l.map f) i=f (nth l i):=by
 rw [cC h,cC (by simpa using h)];simp
theorem lh {α:Type} [Inhabited α] {l:List α} {i:Nat} {d:α} (h:i < l.length):l.getD i d=nth l i:=by
 rw [cC h];simp [List.getD_eq_getElem?_getD,List.getElem?_eq_getElem h]
theorem dv {α:Type} [Inhabited α] {l:List α} {i:Nat} (h:i < l.length):l.take (i+1)=l.take i++[nth l i]:=by
 rw [cC h,List.take_add_one,List.getElem?_eq_getElem h];rfl
theorem Sl.get_wi {b:Nat} {α:Type} [Inhabited α] (s:Sl b α) {i:Nat} (h:i < s.l.length):Sl.get? s (wi i)=some (nth s.l i):=by
 rw [jR s (by have:=s.h.2;omega),jD h]
theorem aK {b:Nat} {α:Type} (s:Sl b α) {i:Nat} (h:i < s.l.length):W.lt (wi i) (Sl.len s)=true:=by
 rw [Sl.len_wi,br (by have:=s.h.2;omega) s.h.2];simpa using h
theorem aO {b:Nat} {α:Type} (s:Sl b α):W.lt (wi s.l.length) (Sl.len s)=false:=by
 rw [Sl.len_wi,br s.h.2 s.h.2];simp
theorem aN {b:Nat} {α:Type} (s:Sl b α) {i:Nat} (h:i < s.l.length):W.add (wi i) (W.of .i64 1)=wi (i+1):=dc (by have:=s.h.2;omega)
theorem RC {n m:Nat} (h:n≤aw) (h':m≤aw) (e:wi n=wi m):n=m:=by
 have:=congrArg W.n e;rw [aQ h,aQ h'] at this;omega
theorem lL {n:Nat} (h:n+1≤aw):W.sub (wi (n+1)) (W.of .i64 1)=wi n:=by
 refine W.ext ?_
 rw [W.sub_n,aQ h,show (W.of .i64 1).n=1 from rfl,W.of_n]
 congr 1
 omega
theorem W.gt_lt {k:IntKind} (a b:W k):W.gt a b=W.lt b a:=rfl
theorem W.eq_dec {k:IntKind} (a b:W k):W.eq a b=decide (a=b):=by
 by_cases h:a=b
 ·subst h;simp [W.eq_self]
 ·have:W.eq a b ≠ true:=fun hh=>h (W.eq_iff.1 hh)
  simp [h,this]
theorem R2 {b:Nat} {α:Type} {s t:Sl b α} (h:(s.l.length+t.l.length)*b≤aw) (h':s.l.length+t.l.length≤aw):∃ r:Sl b α,Sl.app? s t=some r∧r.l=s.l++t.l:=by
 unfold Sl.app?
 split
 ·rename_i hs;exact ⟨t,rfl,by rw [hs];rfl⟩
 ·unfold Sl.mk?
  rw [dif_pos ⟨by rw [List.length_append];exact h,by rw [List.length_append];exact h'⟩]
  exact ⟨_,rfl,rfl⟩
theorem cy {b:Nat} {α:Type} {s:Sl b α} {x:α} {hb:IA b [x].length=true} (h:(s.l.length+1)*b≤aw) (h':s.l.length+1≤aw):∃ r:Sl b α,Sl.app? s (Sl.lit b [x] hb)=some r∧r.l=s.l++[x]:=
 R2 h h'
end Go.A2
namespace Go.A2
theorem P1 {K V:Type} [DecidableEq K] {eq:K→K→Bool} (he:∀ a b,eq a b=true ↔ a=b):∀ (m:List (K×V)) (x:K) (y:V) (q:K),bT eq (ej eq m x y) q=if q=x then some y else bT eq m q
 | [],x,y,q=>by
  have:eq q x=decide (q=x):=by
   by_cases h:q=x
   ·rw [(he q x).2 h];simp [h]
   ·have:eq q x ≠ true:=fun hh=>h ((he _ _).1 hh)
    simp [h,this]
  simp only [ej,bT,this]
  by_cases h:q=x<;>simp [h]
 | p :: l,x,y,q=>by
  have dec:∀ a b,eq a b=decide (a=b):=fun a b=>by
   by_cases h:a=b
   ·rw [(he a b).2 h];simp [h]
   ·have:eq a b ≠ true:=fun hh=>h ((he _ _).1 hh)
    simp [h,this]
  simp only [ej,dec]
  by_cases h1:x=p.1
  ·simp only [h1,decide_true,cond_true,bT,dec]
   by_cases h2:q=p.1<;>simp [h2]
  ·simp only [h1,decide_false,cond_false,bT,dec,P1 he l x y q]
   by_cases h2:q=p.1
   ·subst h2
    have:¬ p.1=x:=fun h=>h1 h.symm
    simp [this]
   ·by_cases h3:q=x
    ·subst h3;simp [h2]
    ·simp [h2,h3]
end Go.A2
namespace Go.A2
theorem sm {n:Nat} (h:n≤1000):n≤aw:=by unfold aw;omega
theorem du {n m:Nat} (h:n≤1000) (h':m≤1000):W.lt (wi n) (wi m)=decide (n < m):=br (sm h) (sm h')
theorem dn {n:Nat} (h:n < 1000):W.add (wi n) (W.of .i64 1)=wi (n+1):=dc (by unfold aw;omega)
theorem iw {a:W .i64} (h:0≤a.n):a=wi a.n.toNat:=by
 refine W.ext ?_
 have:=a.r_i64
 rw [W.of_n,de];omega
theorem cY {b:Nat} {α:Type} (s:Sl b α):(Sl.len s).n=s.l.length:=id (Sl.len_n s)
theorem zr {a n:Nat} (hn:0 < n) (h:a≤1000) (h':n≤1000):W.rem? (wi a) (wi n)=some (wi (a % n)):=by
 unfold W.rem?
 rw [if_neg (by rw [aQ (sm h')];omega)]
 congr 1
 refine W.ext ?_
 rw [W.rem_n,aQ (sm h),aQ (sm h'),aQ (sm (Nat.le_trans (Nat.mod_le _ _) h)),←Int.ofNat_tmod,de]
 have:=Nat.mod_lt a hn
 omega
theorem x5 {a b:Nat} (h:a≤1000000) (h':b≤1000000):W.add (wi a) (wi b)=wi (a+b):=by
 refine W.ext ?_
 rw [W.add_n,aQ (by unfold aw;omega),aQ (by unfold aw;omega),W.of_n]
 simp
theorem pS {a:W .i64} {i:Nat} (hi:i≤1000):W.lt (wi i) a=decide ((i:Int) < a.n):=by unfold W.lt;rw [aQ (sm hi)]
theorem yA {b:Nat} {α:Type} [Inhabited α] (s:Sl b α) {p:W .i64} (h0:0≤p.n) (h:p.n < s.l.length):Sl.get? s p=some (nth s.l p.n.toNat):=by
 unfold Sl.get?
 rw [if_pos h0,jD (by omega)]
theorem yH {a b:Nat} {α β:Type} (x:Sl a α) (y:Sl b β):W.ne (Sl.len x) (Sl.len y)=!decide (x.l.length=y.l.length):=by
 rw [W.ne_eq,Sl.len_wi,Sl.len_wi,di x.h.2 y.h.2]
end Go.A2
