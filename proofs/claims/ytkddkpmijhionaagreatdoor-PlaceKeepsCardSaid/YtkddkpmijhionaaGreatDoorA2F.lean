/- YtkddkpmijhionaaGreatDoorA2F: parts of the machine and its laws, in one text. No statement of the seat is proved here. -/
import Derived.Test.YtkddkpmijhionaaGreatDoorA2D
set_option linter.unusedSimpArgs false
set_option linter.unusedVariables false
namespace Go.A2
theorem wrap_u32 (n:Int):IntKind.u32.wrap n=n % 4294967296:=by simp [IntKind.wrap,IntKind.bits,IntKind.signed]
theorem wrap_u64 (n:Int):IntKind.u64.wrap n=n % 18446744073709551616:=by simp [IntKind.wrap,IntKind.bits,IntKind.signed]
theorem wrap_i32 (n:Int):IntKind.i32.wrap n=(n+2147483648) % 4294967296 - 2147483648:=by
 simp [IntKind.wrap,IntKind.bits,IntKind.signed];split<;>omega
theorem wrap_i64 (n:Int):IntKind.i64.wrap n=(n+9223372036854775808) % 18446744073709551616 - 9223372036854775808:=by
 simp [IntKind.wrap,IntKind.bits,IntKind.signed];split<;>omega
theorem W.r_u32 (a:W .u32):0≤a.n∧a.n < 4294967296:=by
 have:=a.h;simp only [IntKind.has,IntKind.min,IntKind.max,IntKind.signed,IntKind.bits,Bool.false_eq_true,if_false] at this;omega
theorem W.r_i32 (a:W .i32):-2147483648≤a.n∧a.n < 2147483648:=by
 have:=a.h;simp only [IntKind.has,IntKind.min,IntKind.max,IntKind.signed,IntKind.bits,if_true] at this;omega
theorem W.r_i64 (a:W .i64):-9223372036854775808≤a.n∧a.n < 9223372036854775808:=by
 have:=a.h;simp only [IntKind.has,IntKind.min,IntKind.max,IntKind.signed,IntKind.bits,if_true] at this;omega
section
variable {k k':IntKind}
theorem W.of_n (n:Int):(W.of k n).n=k.wrap n:=rfl
theorem W.add_n (a b:W k):(a.add b).n=k.wrap (a.n+b.n):=rfl
theorem W.sub_n (a b:W k):(a.sub b).n=k.wrap (a.n - b.n):=rfl
theorem W.quo_n (a b:W k):(a.quo b).n=k.wrap (a.n.tdiv b.n):=rfl
theorem W.rem_n (a b:W k):(a.rem b).n=k.wrap (a.n.tmod b.n):=rfl
theorem W.conv_n (a:W k):(W.conv k' a).n=k'.wrap a.n:=rfl
theorem W.shl_n (a:W k) (b:W k'):(a.shl b).n=k.wrap (a.n*2 ^ (Min.min b.n.toNat k.bits)):=rfl
theorem W.shr_n (a:W k) (b:W k'):(a.shr b).n=k.wrap (a.n.fdiv (2 ^ (Min.min b.n.toNat k.bits))):=rfl
theorem W.eq_iff {a b:W k}:W.eq a b=true ↔ a=b:=by
 unfold W.eq
 rw [beq_iff_eq]
 exact ⟨W.ext,fun h=>by rw [h]⟩
theorem W.eq_n {a b:W k}:W.eq a b=true ↔ a.n=b.n:=by unfold W.eq;rw [beq_iff_eq]
theorem W.lt_n {a b:W k}:W.lt a b=true ↔ a.n < b.n:=by unfold W.lt;rw [decide_eq_true_eq]
theorem W.le_n {a b:W k}:W.le a b=true ↔ a.n≤b.n:=by unfold W.le;rw [decide_eq_true_eq]
theorem W.gt_n {a b:W k}:W.gt a b=true ↔ a.n > b.n:=by unfold W.gt;rw [decide_eq_true_eq]
theorem W.ge_n {a b:W k}:W.ge a b=true ↔ a.n ≥ b.n:=by unfold W.ge;rw [decide_eq_true_eq]
theorem W.max_n {a b:W k}:(W.max a b).n=if b.n > a.n then b.n else a.n:=by unfold W.max;split<;>rfl
theorem W.min_n {a b:W k}:(W.min a b).n=if b.n < a.n then b.n else a.n:=by unfold W.min;split<;>rfl
theorem W.eq_self (a:W k):W.eq a a=true:=W.eq_iff.2 rfl
theorem beqB_self (a:Bool):beqB a a=true:=by cases a<;>rfl
end
section
variable {R:Type}
theorem ev_ret (r:R):(Tree.ret r).eval=some r:=rfl
theorem ev_ite (b:Bool) (t e:Tree R):(Tree.ite b t e).eval=if b=true then t.eval else e.eval:=by cases b<;>rfl
theorem ev_opt {α:Type} (o:Option α) (f:α→Tree R):(Tree.opt o f).eval=o.bind fun a=>(f a).eval:=by cases o<;>rfl
theorem ev_sum {α β:Type} (o:α⊕β) (f:α→Tree R) (g:β→Tree R):(Tree.sum o f g).eval=Sum.elim (fun a=>(f a).eval) (fun b=>(g b).eval) o:=by cases o<;>rfl
theorem bind_some' {α β:Type} (a:α) (f:α→Option β):(some a).bind f=f a:=rfl
end
theorem idx?_some {k:IntKind} {n:Nat} {i:W k} (h:0≤i.n∧i.n < n):idx? n i=some i.n.toNat:=by unfold idx?;rw [if_pos h]
theorem Arr.get_set {α:Type} [Inhabited α] {n:Nat} {a:Arr n α} {i j:Nat} {x:α} (h:i < n):(a.set i x).get j=if i=j then x else a.get j:=by
 unfold Arr.get Arr.set
 have:=a.h
 by_cases hij:i=j
 ·subst hij
  simp [List.getD_eq_getElem?_getD,this,h]
 ·simp [List.getD_eq_getElem?_getD,hij]
theorem Arr.get_rep {α:Type} [Inhabited α] {n j:Nat} {x:α} (h:j < n):(Arr.rep n x).get j=x:=by
 simp [Arr.get,Arr.rep,List.getD_eq_getElem?_getD,h]
def W.v {k:IntKind} (a:W k):Nat:=a.n.toNat
section u32
theorem W.v_lt (a:W .u32):a.v < 4294967296:=by have:=a.r_u32;unfold W.v;omega
theorem W.n_v (a:W .u32):a.n=a.v:=by have:=a.r_u32;unfold W.v;omega
theorem W.ext_v {a b:W .u32} (h:a.v=b.v):a=b:=W.ext (by rw [W.n_v,W.n_v,h])
theorem ofInt_u32 (a:W .u32):BitVec.ofInt 32 a.n=BitVec.ofNat 32 a.v:=by rw [W.n_v];simp
theorem W.and_v (a b:W .u32):(a.and b).v=a.v &&& b.v:=by
 have h:(a.and b).n=IntKind.u32.wrap (BitVec.ofInt 32 a.n &&& BitVec.ofInt 32 b.n).toNat:=rfl
 unfold W.v
 rw [h,ofInt_u32,ofInt_u32,BitVec.toNat_and,BitVec.toNat_ofNat,BitVec.toNat_ofNat,Nat.mod_eq_of_lt a.v_lt,Nat.mod_eq_of_lt b.v_lt,wrap_u32]
 have:a.v &&& b.v < 4294967296:=Nat.lt_of_le_of_lt Nat.and_le_left a.v_lt
 show (((a.v &&& b.v:Nat):Int) % 4294967296).toNat=a.v &&& b.v
 omega
theorem W.or_v (a b:W .u32):(a.or b).v=a.v ||| b.v:=by
 have h:(a.or b).n=IntKind.u32.wrap (BitVec.ofInt 32 a.n ||| BitVec.ofInt 32 b.n).toNat:=rfl
 unfold W.v
 rw [h,ofInt_u32,ofInt_u32,BitVec.toNat_or,BitVec.toNat_ofNat,BitVec.toNat_ofNat,Nat.mod_eq_of_lt a.v_lt,Nat.mod_eq_of_lt b.v_lt,wrap_u32]
 have:a.v ||| b.v < 4294967296:=Nat.or_lt_two_pow (n:=32) a.v_lt b.v_lt
 show (((a.v ||| b.v:Nat):Int) % 4294967296).toNat=a.v ||| b.v
 omega
theorem v_wrap {a:W .u32} {m:Nat} (h:a.n=IntKind.u32.wrap (m:Int)):a.v=m % 4294967296:=by
 unfold W.v;rw [h,wrap_u32];omega
theorem W.quo_v (a b:W .u32):(a.quo b).v=a.v / b.v:=by
 rw [v_wrap (m:=a.v / b.v) (by rw [W.quo_n,a.n_v,b.n_v];rfl)]
 exact Nat.mod_eq_of_lt (Nat.lt_of_le_of_lt (Nat.div_le_self _ _) a.v_lt)
theorem W.rem_v (a b:W .u32):(a.rem b).v=a.v % b.v:=by
 rw [v_wrap (m:=a.v % b.v) (by rw [W.rem_n,a.n_v,b.n_v];rfl)]
 exact Nat.mod_eq_of_lt (Nat.lt_of_le_of_lt (Nat.mod_le _ _) a.v_lt)
theorem W.shl_v {k:IntKind} (a:W .u32) (b:W k):(a.shl b).v=(a.v*2 ^ b.v) % 4294967296:=by
 have hp:((2:Int) ^ (Min.min b.n.toNat 32))=((2 ^ (Min.min b.n.toNat 32):Nat):Int):=by simp
 rw [v_wrap (m:=a.v*2 ^ (Min.min b.n.toNat 32)) (by rw [W.shl_n,a.n_v];show IntKind.u32.wrap _=_;rw [show IntKind.u32.bits=32 from rfl,hp,Int.natCast_mul])]
 show _=a.v*2 ^ b.n.toNat % 4294967296
 rcases Nat.le_total b.n.toNat 32 with hb | hb
 ·rw [Nat.min_eq_left hb]
 ·rw [Nat.min_eq_right hb]
  have h1:2 ^ b.n.toNat=2 ^ (b.n.toNat - 32)*4294967296:=by
   rw [show (4294967296:Nat)=2 ^ 32 by decide,←Nat.pow_add];congr 1;omega
  rw [h1,←Nat.mul_assoc,Nat.mul_mod_left]
  first | done | exact (Nat.mul_mod_left _ _).symm
theorem W.shr_v {k:IntKind} (a:W .u32) (b:W k):(a.shr b).v=a.v / 2 ^ b.v:=by
 have hp:((2:Int) ^ (Min.min b.n.toNat 32))=((2 ^ (Min.min b.n.toNat 32):Nat):Int):=by simp
 have hlt:=a.v_lt
 rw [v_wrap (m:=a.v / 2 ^ (Min.min b.n.toNat 32)) (by
  rw [W.shr_n,a.n_v,show IntKind.u32.bits=32 from rfl,hp,Int.fdiv_eq_ediv_of_nonneg _ (Int.natCast_nonneg _),Int.natCast_ediv])]
 rw [Nat.mod_eq_of_lt (Nat.lt_of_le_of_lt (Nat.div_le_self _ _) hlt)]
 show _=a.v / 2 ^ b.n.toNat
 rcases Nat.le_total b.n.toNat 32 with hb | hb
 ·rw [Nat.min_eq_left hb]
 ·rw [Nat.min_eq_right hb]
  have h1:4294967296≤2 ^ b.n.toNat:=by
   have:=Nat.pow_le_pow_right (n:=2) (by omega) hb
   omega
  rw [Nat.div_eq_of_lt (show a.v < 2 ^ 32 by omega),Nat.div_eq_of_lt (show a.v < 2 ^ b.n.toNat by omega)]
section uns
variable {k:IntKind} (hk:k.signed=false)
include hk
theorem uwrap (n:Int):k.wrap n=n % 2 ^ k.bits:=by unfold IntKind.wrap;rw [hk];simp
theorem W.ur (a:W k):0≤a.n∧a.n < 2 ^ k.bits:=by
 have:=a.h;simp only [IntKind.has,IntKind.min,IntKind.max,hk,Bool.false_eq_true,if_false] at this;omega
theorem W.un (a:W k):a.n=a.v:=by have:=a.ur hk;unfold W.v;omega
theorem W.uv_lt (a:W k):a.v < 2 ^ k.bits:=by
 have:=a.ur hk;unfold W.v
 have h2:((2 ^ k.bits:Nat):Int)=2 ^ k.bits:=by simp
 omega
theorem uv_wrap {a:W k} {m:Nat} (h:a.n=k.wrap (m:Int)):a.v=m % 2 ^ k.bits:=by
 unfold W.v;rw [h,uwrap hk]
 have h2:((2 ^ k.bits:Nat):Int)=2 ^ k.bits:=by simp
 rw [←h2,←Int.natCast_emod];rfl
theorem W.ushl {k':IntKind} (a:W k) (b:W k'):(a.shl b).v=(a.v*2 ^ b.v) % 2 ^ k.bits:=by
 have hp:((2:Int) ^ (Min.min b.n.toNat k.bits))=((2 ^ (Min.min b.n.toNat k.bits):Nat):Int):=by simp
 rw [uv_wrap hk (m:=a.v*2 ^ (Min.min b.n.toNat k.bits)) (by rw [W.shl_n,a.un hk,hp,Int.natCast_mul])]
 show _=a.v*2 ^ b.n.toNat % 2 ^ k.bits
 rcases Nat.le_total b.n.toNat k.bits with hb | hb
 ·rw [Nat.min_eq_left hb]
 ·rw [Nat.min_eq_right hb]
  have h1:2 ^ b.n.toNat=2 ^ (b.n.toNat - k.bits)*2 ^ k.bits:=by rw [←Nat.pow_add];congr 1;omega
  rw [h1,←Nat.mul_assoc,Nat.mul_mod_left,Nat.mul_mod_left]
theorem uofInt (a:W k):BitVec.ofInt k.bits a.n=BitVec.ofNat k.bits a.v:=by rw [a.un hk];simp
theorem W.uand (a b:W k):(a.and b).v=a.v &&& b.v:=by
 have h:(a.and b).n=k.wrap (BitVec.ofInt k.bits a.n &&& BitVec.ofInt k.bits b.n).toNat:=rfl
 rw [uofInt hk,uofInt hk,BitVec.toNat_and,BitVec.toNat_ofNat,BitVec.toNat_ofNat,Nat.mod_eq_of_lt (a.uv_lt hk),Nat.mod_eq_of_lt (b.uv_lt hk)] at h
 rw [uv_wrap hk h]
 exact Nat.mod_eq_of_lt (Nat.lt_of_le_of_lt Nat.and_le_left (a.uv_lt hk))
theorem W.uandNot (a b:W k):(a.andNot b).v=a.v &&& (2 ^ k.bits - 1 - b.v):=by
 have h:(a.andNot b).n=k.wrap (BitVec.ofInt k.bits a.n &&& ~~~ BitVec.ofInt k.bits b.n).toNat:=rfl
 rw [uofInt hk,uofInt hk,BitVec.toNat_and,BitVec.toNat_not,BitVec.toNat_ofNat,BitVec.toNat_ofNat,Nat.mod_eq_of_lt (a.uv_lt hk),Nat.mod_eq_of_lt (b.uv_lt hk)] at h
 rw [uv_wrap hk h]
 exact Nat.mod_eq_of_lt (Nat.lt_of_le_of_lt Nat.and_le_left (a.uv_lt hk))
theorem W.uof (n:Nat):(W.of k (n:Int)).v=n % 2 ^ k.bits:=uv_wrap hk rfl
theorem W.uconv {k':IntKind} (hk':k'.signed=false) (a:W k'):(W.conv k a).v=a.v % 2 ^ k.bits:=uv_wrap hk (by rw [W.conv_n,a.un hk'])
end uns
theorem W.conv_i64_v (a:W .u32):(W.conv .i64 a).n=a.v:=by
 have h:(W.conv .i64 a).n=IntKind.i64.wrap a.n:=rfl
 have:=a.r_u32
 unfold W.v;rw [h,wrap_i64];omega
end u32
end Go.A2
namespace Go.A2
def runL {α σ β:Type} (g:Nat→α→σ→Option (σ⊕β)) (out:σ→Option β):Nat→List α→σ→Option β
 | _,[],s=>out s
 | n,x :: l,s=>match g n x s with
  | some (.inl s')=>runL g out (n+1) l s'
  | some (.inr b)=>some b
  | none=>none
def rndL {σ β S:Type} (st:σ→S):Option (σ⊕β)→Option (Rnd S β)
 | some (.inl s)=>some (.next (st s))
 | some (.inr b)=>some (.out b)
 | none=>none
theorem iter_list {α σ β S:Type} {f:S→Option (Rnd S β)} (st:Nat→σ→S) (g:Nat→α→σ→Option (σ⊕β)) (out:σ→Option β):
  ∀ {l:List α} {n N:Nat} {s:σ},(∀ i x s,l[i]?=some x→f (st (n+i) s)=rndL (st (n+i+1)) (g (n+i) x s))→(∀ s,f (st (n+l.length) s)=(out s).map .out)→l.length < N→iter f N (st n s)=runL g out n l s
 | [],n,N,s,_,hl,hN=>by
  obtain ⟨N,rfl⟩:∃ M,N=M+1:=⟨N - 1,by simp at hN;omega⟩
  rw [iter_succ]
  have:=hl s
  simp only [List.length_nil,Nat.add_zero] at this
  rw [this]
  cases h:out s<;>simp [runL,h]
 | x :: l,n,N,s,hs,hl,hN=>by
  obtain ⟨N,rfl⟩:∃ M,N=M+1:=⟨N - 1,by simp at hN;omega⟩
  rw [iter_succ]
  have h0:=hs 0 x s (by simp)
  rw [Nat.add_zero] at h0
  rw [h0]
  simp only [runL]
  cases hg:g n x s with
  | none=>rfl
  | some r=>
   cases r with
   | inr b=>rfl
   | inl s'=>
    show iter f N (st (n+1) s')=runL g out (n+1) l s'
    refine iter_list st g out (fun i y s hi=>?_) (fun s=>?_) (by simp at hN;omega)
    ·have:=hs (i+1) y s (by simpa using hi)
     rw [show n+1+i=n+(i+1) by omega];exact this
    ·have:=hl s
     rw [show n+1+l.length=n+(x :: l).length by simp;omega];exact this
theorem iter_count {S β:Type} {f:S→Option (Rnd S β)} (st:Nat→S) (b:β) {n:Nat} (step:∀ i,i < n→f (st i)=some (.next (st (i+1)))) (last:f (st n)=some (.out b)):∀ {k N:Nat},k≤n→n - k < N→iter f N (st k)=some b
 | k,0,_,hN=>by omega
 | k,N+1,hk,hN=>by
  rw [iter_succ]
  by_cases h:k=n
  ·subst h;rw [last]
  ·rw [step k (by omega)]
   exact iter_count st b step last (by omega) (by omega)
abbrev wi (n:Nat):W .i64:=W.of .i64 (n:Int)
theorem wi_n {n:Nat} (h:n≤room):(wi n).n=n:=by
 unfold room at h
 rw [W.of_n,wrap_i64];omega
theorem Sl.len_n {b:Nat} {α:Type} (s:Sl b α):(Sl.len s).n=s.l.length:=rfl
theorem Sl.len_wi {b:Nat} {α:Type} (s:Sl b α):Sl.len s=wi s.l.length:=W.ext (by rw [wi_n s.h.2];rfl)
theorem wi_lt {n m:Nat} (h:n≤room) (h':m≤room):W.lt (wi n) (wi m)=decide (n < m):=by
 unfold W.lt;rw [wi_n h,wi_n h'];simp
theorem wi_add {n:Nat} (h:n < room):W.add (wi n) (W.of .i64 1)=wi (n+1):=by
 refine W.ext ?_
 rw [W.add_n,wi_n (Nat.le_of_lt h),show (W.of .i64 1).n=1 from rfl,W.of_n];simp
theorem wi_get {b:Nat} {α:Type} (s:Sl b α) {n:Nat} (h:n≤room):Sl.get? s (wi n)=s.l[n]?:=by
 unfold Sl.get?
 rw [wi_n h,if_pos (by omega)];simp
theorem wi_zero:W.of .i64 0=wi 0:=rfl
theorem wi_idx {n m:Nat} (h:n≤room):idx? m (wi n)=if n < m then some n else none:=by
 unfold idx?
 rw [wi_n h]
 by_cases hm:n < m
 ·rw [if_pos (by omega),if_pos hm];simp
 ·rw [if_neg (by omega),if_neg hm]
theorem W.le_gt {k:IntKind} (a b:W k):W.le a b=!W.gt a b:=by
 unfold W.le W.gt
 by_cases h:a.n > b.n
 ·rw [decide_eq_true h,decide_eq_false (by omega)];rfl
 ·rw [decide_eq_false h,decide_eq_true (by omega)];rfl
theorem W.ne_eq {k:IntKind} (a b:W k):W.ne a b=!W.eq a b:=rfl
theorem W.ne_self {k:IntKind} (a:W k):W.ne a a=false:=by simp [W.ne]
theorem wi_of {a:W .i64} {lo hi:Nat} (h:(lo:Int)≤a.n) (h':a.n≤hi):∃ k,a=wi k∧lo≤k∧k≤hi:=by
 refine ⟨a.n.toNat,W.ext ?_,by omega,by omega⟩
 have:=a.r_i64
 rw [W.of_n,wrap_i64];omega
theorem all_lt {p:Nat→Bool} {n:Nat} (h:(List.range n).all p=true) {k:Nat} (hk:k < n):p k=true:=List.all_eq_true.1 h k (List.mem_range.2 hk)
theorem runL_any {α β:Type} (p:α→Bool) (a:Nat→β) (b:β):∀ (l:List α) (n:Nat),∃ r,runL (fun n x (_:Unit)=>some (if p x then .inr (a n) else .inl ())) (fun _=>some b) n l ()=some r∧((l.any p=true∧∃ k,r=a k∧n≤k∧k < n+l.length)∨(l.any p=false∧r=b))
 | [],n=>⟨b,rfl,.inr ⟨rfl,rfl⟩⟩
 | x :: l,n=>by
  cases hx:p x with
  | true=>exact ⟨a n,by simp [runL,hx],.inl ⟨by simp [hx],n,rfl,by omega,by simp⟩⟩
  | false=>
   obtain ⟨r,h1,h2⟩:=runL_any p a b l (n+1)
   refine ⟨r,by simp [runL,hx,h1],?_⟩
   rcases h2 with ⟨h3,k,h4,h5,h6⟩ | ⟨h3,h4⟩
   ·exact .inl ⟨by simp [hx,h3],k,h4,by omega,by simp;omega⟩
   ·exact .inr ⟨by simp [hx,h3],h4⟩
theorem runL_find {α β:Type} (p:Nat→α→Bool) (a:Nat→β) (b:β):∀ (l:List α) (n:Nat),∃ r,runL (fun n x (_:Unit)=>some (if p n x then .inr (a n) else .inl ())) (fun _=>some b) n l ()=some r∧((∃ (i:Nat) (x:α),l[i]?=some x∧p (n+i) x=true∧r=a (n+i))∨((∀ (i:Nat) (x:α),l[i]?=some x→p (n+i) x=false)∧r=b))
 | [],n=>⟨b,rfl,.inr ⟨fun i x hi=>by simp at hi,rfl⟩⟩
 | x :: l,n=>by
  cases hx:p n x with
  | true=>exact ⟨a n,by simp [runL,hx],.inl ⟨0,x,rfl,hx,rfl⟩⟩
  | false=>
   obtain ⟨r,h1,h2⟩:=runL_find p a b l (n+1)
   refine ⟨r,by simp [runL,hx,h1],?_⟩
   rcases h2 with ⟨i,y,h3,h4,h5⟩ | ⟨h3,h4⟩
   ·exact .inl ⟨i+1,y,by simpa using h3,by rw [show n+(i+1)=n+1+i by omega];exact h4,by rw [show n+(i+1)=n+1+i by omega];exact h5⟩
   ·refine .inr ⟨fun i y hi=>?_,h4⟩
    cases i with
    | zero=>simp at hi;subst hi;exact hx
    | succ i=>rw [show n+(i+1)=n+1+i by omega];exact h3 i y (by simpa using hi)
end Go.A2
namespace Go.A2
theorem iter_all {α β S:Type} {f:S→Option (Rnd S β)} (st:Nat→S) (l:List α) (good:Nat→α→Bool) (bad:Nat→β) (fin:β) {N:Nat}
  (step:∀ (i:Nat) x,l[i]?=some x→f (st i)=some (if good i x=true then .next (st (i+1)) else .out (bad i))) (last:f (st l.length)=some (.out fin)) (hN:l.length < N):
  (iter f N (st 0)=some fin∧∀ (i:Nat) x,l[i]?=some x→good i x=true)∨∃ i,iter f N (st 0)=some (bad i)∧∃ x,l[i]?=some x∧good i x=false:=by
 have key:=iter_list (f:=f) (fun n (_:Unit)=>st n) (fun n x _=>some (if (!good n x)=true then .inr (bad n) else .inl ())) (fun _=>some fin) (l:=l) (n:=0) (N:=N) (s:=()) (fun i x _ hi=>by
  rw [Nat.zero_add,step i x hi]
  cases good i x<;>rfl) (fun _=>by rw [Nat.zero_add,last];rfl) hN
 obtain ⟨r,h1,h2⟩:=runL_find (fun n x=>!good n x) bad fin l 0
 rw [key,h1]
 rcases h2 with ⟨i,x,h3,h4,rfl⟩ | ⟨h3,rfl⟩
 ·rw [Nat.zero_add] at h4 ⊢
  exact .inr ⟨i,rfl,x,h3,by simpa using h4⟩
 ·exact .inl ⟨rfl,fun i x hi=>by have:=h3 i x hi;rw [Nat.zero_add] at this;simpa using this⟩
theorem wi_eq {n m:Nat} (h:n≤room) (h':m≤room):W.eq (wi n) (wi m)=decide (n=m):=by
 by_cases hnm:n=m
 ·subst hnm;rw [W.eq_self];simp
 ·have:W.eq (wi n) (wi m) ≠ true:=fun hh=>hnm (by have:=W.eq_n.1 hh;rw [wi_n h,wi_n h'] at this;omega)
  simp [hnm,this]
theorem iff_bool {a b:Bool} (h:a=true ↔ b=true):a=b:=by cases a<;>cases b<;>simp_all
end Go.A2
namespace Go.A2
theorem iter_check {S β:Type} {f:S→Option (Rnd S β)} (I:Nat→S→Prop) (n:Nat) (P:Nat→Prop) (Fb Tb:β→Prop)
  (step:∀ i s,i < n→I i s→(∀ k,k < i→P k)→(P i∧∃ s',f s=some (.next s')∧I (i+1) s')∨(¬ P i∧∃ b,f s=some (.out b)∧Fb b))
  (last:∀ s,I n s→(∀ k,k < n→P k)→∃ b,f s=some (.out b)∧Tb b) {s:S} (h0:I 0 s) {N:Nat} (hN:n < N):
  ∃ b,iter f N s=some b∧(((∀ k,k < n→P k)∧Tb b)∨((¬ ∀ k,k < n→P k)∧Fb b)):=by
 have main:∀ (m i N:Nat) (s:S),n - i=m→i≤n→m < N→I i s→(∀ k,k < i→P k)→∃ b,iter f N s=some b∧(((∀ k,k < n→P k)∧Tb b)∨((¬ ∀ k,k < n→P k)∧Fb b)):=by
  intro m
  induction m with
  | zero=>
   intro i N s hm hi hN hI hP
   obtain ⟨N,rfl⟩:∃ M,N=M+1:=⟨N - 1,by omega⟩
   have:i=n:=by omega
   subst this
   obtain ⟨b,h1,h2⟩:=last s hI hP
   exact ⟨b,by rw [iter_succ,h1],.inl ⟨hP,h2⟩⟩
  | succ m ih=>
   intro i N s hm hi hN hI hP
   obtain ⟨N,rfl⟩:∃ M,N=M+1:=⟨N - 1,by omega⟩
   rcases step i s (by omega) hI hP with ⟨hp,s',h1,h2⟩ | ⟨hp,b,h1,h2⟩
   ·rw [iter_succ,h1]
    refine ih (i+1) N s' (by omega) (by omega) (by omega) h2 fun k hk=>?_
    by_cases hki:k=i
    ·rw [hki];exact hp
    ·exact hP k (by omega)
   ·exact ⟨b,by rw [iter_succ,h1],.inr ⟨fun h=>hp (h i (by omega)),h2⟩⟩
 exact main n 0 N s (by omega) (by omega) hN h0 (fun k hk=>by omega)
theorem iter_both {S S' β β':Type} {f:S→Option (Rnd S β)} {g:S'→Option (Rnd S' β')} (I:Nat→S→S'→Prop) (n:Nat) (Q:β→β'→Prop)
  (step:∀ i s s',i < n→I i s s'→(∃ t t',f s=some (.next t)∧g s'=some (.next t')∧I (i+1) t t')∨∃ b b',f s=some (.out b)∧g s'=some (.out b')∧Q b b')
  (last:∀ s s',I n s s'→∃ b b',f s=some (.out b)∧g s'=some (.out b')∧Q b b') {s:S} {s':S'} (h0:I 0 s s') {N:Nat} (hN:n < N):
  ∃ b b',iter f N s=some b∧iter g N s'=some b'∧Q b b':=by
 have main:∀ (m i N:Nat) (s:S) (s':S'),n - i=m→i≤n→m < N→I i s s'→∃ b b',iter f N s=some b∧iter g N s'=some b'∧Q b b':=by
  intro m
  induction m with
  | zero=>
   intro i N s s' hm hi hN hI
   obtain ⟨N,rfl⟩:∃ M,N=M+1:=⟨N - 1,by omega⟩
   have:i=n:=by omega
   subst this
   obtain ⟨b,b',h1,h2,h3⟩:=last s s' hI
   exact ⟨b,b',by rw [iter_succ,h1],by rw [iter_succ,h2],h3⟩
  | succ m ih=>
   intro i N s s' hm hi hN hI
   obtain ⟨N,rfl⟩:∃ M,N=M+1:=⟨N - 1,by omega⟩
   rcases step i s s' (by omega) hI with ⟨t,t',h1,h2,h3⟩ | ⟨b,b',h1,h2,h3⟩
   ·rw [iter_succ,iter_succ,h1,h2]
    exact ih (i+1) N t t' (by omega) (by omega) (by omega) h3
   ·exact ⟨b,b',by rw [iter_succ,h1],by rw [iter_succ,h2],h3⟩
 exact main n 0 N s s' (by omega) (by omega) hN h0
theorem iter_acc {S β:Type} {f:S→Option (Rnd S β)} (I:Nat→S→Prop) (n:Nat) (Q:β→Prop)
  (step:∀ i s,i < n→I i s→∃ s',f s=some (.next s')∧I (i+1) s')
  (last:∀ s,I n s→∃ b,f s=some (.out b)∧Q b) {s:S} (h0:I 0 s) {N:Nat} (hN:n < N):∃ b,iter f N s=some b∧Q b:=by
 obtain ⟨b,h1,h2⟩:=iter_check (f:=f) I n (fun _=>True) (fun _=>False) Q (fun i s hi hI _=>.inl ⟨trivial,step i s hi hI⟩) (fun s hI _=>last s hI) h0 hN
 rcases h2 with ⟨_,h⟩ | ⟨_,h⟩
 ·exact ⟨b,h1,h⟩
 ·exact h.elim
theorem iter_chk {S β:Type} {f:S→Option (Rnd S β)} (st:Nat→S) (n:Nat) (p:Nat→Bool) (bad fin:β)
  (step:∀ i,i < n→(∀ k,k < i→p k=true)→f (st i)=some (if p i=true then .next (st (i+1)) else .out bad))
  (last:(∀ k,k < n→p k=true)→f (st n)=some (.out fin)) {N:Nat} (hN:n < N):
  iter f N (st 0)=some (if (List.range n).all p=true then fin else bad):=by
 obtain ⟨b,h1,h2⟩:=iter_check (f:=f) (fun i s=>s=st i) n (fun i=>p i=true) (·=bad) (·=fin) (s:=st 0) (N:=N) (fun i s hi hI hP=>by
  subst hI
  rw [step i hi hP]
  by_cases h:p i=true
  ·exact .inl ⟨h,st (i+1),by rw [if_pos h],rfl⟩
  ·exact .inr ⟨h,bad,by rw [if_neg h],rfl⟩) (fun s hI hP=>by subst hI;exact ⟨fin,last hP,rfl⟩) rfl hN
 rw [h1]
 have hall:(List.range n).all p=true ↔ ∀ k,k < n→p k=true:=by rw [List.all_eq_true];exact ⟨fun h k hk=>h k (List.mem_range.2 hk),fun h k hk=>h k (List.mem_range.1 hk)⟩
 rcases h2 with ⟨h,rfl⟩ | ⟨h,rfl⟩
 ·rw [if_pos (hall.2 h)]
 ·rw [if_neg (fun hh=>h (hall.1 hh))]
def nth {α:Type} [Inhabited α] (l:List α) (i:Nat):α:=l.getD i default
theorem nth_get {α:Type} [Inhabited α] {l:List α} {i:Nat} (h:i < l.length):l[i]?=some (nth l i):=by
 unfold nth;rw [List.getD_eq_getElem?_getD,List.getElem?_eq_getElem h];rfl
theorem nth_elem {α:Type} [Inhabited α] {l:List α} {i:Nat} (h:i < l.length):nth l i=l[i]:=by
 have:=nth_get h;rw [List.getElem?_eq_getElem h] at this;exact (Option.some.inj this).symm
theorem nth_mem {α:Type} [Inhabited α] {l:List α} {i:Nat} (h:i < l.length):nth l i∈l:=by rw [nth_elem h];exact List.getElem_mem h
theorem mem_nth {α:Type} [Inhabited α] {l:List α} {x:α} (h:x∈l):∃ i,i < l.length∧nth l i=x:=by
 obtain ⟨i,hi,rfl⟩:=List.mem_iff_getElem.1 h
 exact ⟨i,hi,nth_elem hi⟩
theorem nth_map {α β:Type} [Inhabited α] [Inhabited β] {f:α→β} {l:List α} {i:Nat} (h:i < l.length):nth (l.map f) i=f (nth l i):=by
 rw [nth_elem h,nth_elem (by simpa using h)];simp
theorem take_nth {α:Type} [Inhabited α] {l:List α} {i:Nat} (h:i < l.length):l.take (i+1)=l.take i++[nth l i]:=by
 rw [nth_elem h,List.take_add_one,List.getElem?_eq_getElem h];rfl
theorem Sl.get_wi {b:Nat} {α:Type} [Inhabited α] (s:Sl b α) {i:Nat} (h:i < s.l.length):Sl.get? s (wi i)=some (nth s.l i):=by
 rw [wi_get s (by have:=s.h.2;omega),nth_get h]
theorem lt_len {b:Nat} {α:Type} (s:Sl b α) {i:Nat} (h:i < s.l.length):W.lt (wi i) (Sl.len s)=true:=by
 rw [Sl.len_wi,wi_lt (by have:=s.h.2;omega) s.h.2];simpa using h
theorem lt_end {b:Nat} {α:Type} (s:Sl b α):W.lt (wi s.l.length) (Sl.len s)=false:=by
 rw [Sl.len_wi,wi_lt s.h.2 s.h.2];simp
theorem wi_next {b:Nat} {α:Type} (s:Sl b α) {i:Nat} (h:i < s.l.length):W.add (wi i) (W.of .i64 1)=wi (i+1):=wi_add (by have:=s.h.2;omega)
theorem wi_inj {n m:Nat} (h:n≤room) (h':m≤room) (e:wi n=wi m):n=m:=by
 have:=congrArg W.n e;rw [wi_n h,wi_n h'] at this;omega
theorem wi_sub {n:Nat} (h:n+1≤room):W.sub (wi (n+1)) (W.of .i64 1)=wi n:=by
 refine W.ext ?_
 rw [W.sub_n,wi_n h,show (W.of .i64 1).n=1 from rfl,W.of_n]
 congr 1
 omega
theorem W.gt_lt {k:IntKind} (a b:W k):W.gt a b=W.lt b a:=rfl
theorem W.eq_dec {k:IntKind} (a b:W k):W.eq a b=decide (a=b):=by
 by_cases h:a=b
 ·subst h;simp [W.eq_self]
 ·have:W.eq a b ≠ true:=fun hh=>h (W.eq_iff.1 hh)
  simp [h,this]
theorem app_list {b:Nat} {α:Type} {s t:Sl b α} (h:(s.l.length+t.l.length)*b≤room) (h':s.l.length+t.l.length≤room):∃ r:Sl b α,Sl.app? s t=some r∧r.l=s.l++t.l:=by
 unfold Sl.app?
 split
 ·rename_i hs;exact ⟨t,rfl,by rw [hs];rfl⟩
 ·unfold Sl.mk?
  rw [dif_pos ⟨by rw [List.length_append];exact h,by rw [List.length_append];exact h'⟩]
  exact ⟨_,rfl,rfl⟩
theorem app_lit {b:Nat} {α:Type} {s:Sl b α} {x:α} {hb:slOk b [x].length=true} (h:(s.l.length+1)*b≤room) (h':s.l.length+1≤room):∃ r:Sl b α,Sl.app? s (Sl.lit b [x] hb)=some r∧r.l=s.l++[x]:=
 app_list h h'
end Go.A2
namespace Go.A2
theorem mGet_put {K V:Type} [DecidableEq K] {eq:K→K→Bool} (he:∀ a b,eq a b=true ↔ a=b):∀ (m:List (K×V)) (x:K) (y:V) (q:K),mGet eq (mPut eq m x y) q=if q=x then some y else mGet eq m q
 | [],x,y,q=>by
  have:eq q x=decide (q=x):=by
   by_cases h:q=x
   ·rw [(he q x).2 h];simp [h]
   ·have:eq q x ≠ true:=fun hh=>h ((he _ _).1 hh)
    simp [h,this]
  simp only [mPut,mGet,this]
  by_cases h:q=x<;>simp [h]
 | p :: l,x,y,q=>by
  have dec:∀ a b,eq a b=decide (a=b):=fun a b=>by
   by_cases h:a=b
   ·rw [(he a b).2 h];simp [h]
   ·have:eq a b ≠ true:=fun hh=>h ((he _ _).1 hh)
    simp [h,this]
  simp only [mPut,dec]
  by_cases h1:x=p.1
  ·simp only [h1,decide_true,cond_true,mGet,dec]
   by_cases h2:q=p.1<;>simp [h2]
  ·simp only [h1,decide_false,cond_false,mGet,dec,mGet_put he l x y q]
   by_cases h2:q=p.1
   ·subst h2
    have:¬ p.1=x:=fun h=>h1 h.symm
    simp [this]
   ·by_cases h3:q=x
    ·subst h3;simp [h2]
    ·simp [h2,h3]
end Go.A2
namespace Go.A2
theorem sm {n:Nat} (h:n≤1000):n≤room:=by unfold room;omega
theorem lt_small {n m:Nat} (h:n≤1000) (h':m≤1000):W.lt (wi n) (wi m)=decide (n < m):=wi_lt (sm h) (sm h')
theorem add_small {n:Nat} (h:n < 1000):W.add (wi n) (W.of .i64 1)=wi (n+1):=wi_add (by unfold room;omega)
theorem of_small {a:W .i64} (h:0≤a.n):a=wi a.n.toNat:=by
 refine W.ext ?_
 have:=a.r_i64
 rw [W.of_n,wrap_i64];omega
theorem len_n' {b:Nat} {α:Type} (s:Sl b α):(Sl.len s).n=s.l.length:=id (Sl.len_n s)
theorem W.eq_comm {k:IntKind} (a b:W k):W.eq a b=W.eq b a:=by
 rw [W.eq_dec,W.eq_dec];exact decide_eq_decide.2 ⟨Eq.symm,Eq.symm⟩
theorem rem_small {a n:Nat} (hn:0 < n) (h:a≤1000) (h':n≤1000):W.rem? (wi a) (wi n)=some (wi (a % n)):=by
 unfold W.rem?
 rw [if_neg (by rw [wi_n (sm h')];omega)]
 congr 1
 refine W.ext ?_
 rw [W.rem_n,wi_n (sm h),wi_n (sm h'),wi_n (sm (Nat.le_trans (Nat.mod_le _ _) h)),←Int.ofNat_tmod,wrap_i64]
 have:=Nat.mod_lt a hn
 omega
theorem add_wi {a b:Nat} (h:a≤1000000) (h':b≤1000000):W.add (wi a) (wi b)=wi (a+b):=by
 refine W.ext ?_
 rw [W.add_n,wi_n (by unfold room;omega),wi_n (by unfold room;omega),W.of_n]
 simp
theorem lt_wi_of {a:W .i64} {i:Nat} (hi:i≤1000):W.lt (wi i) a=decide ((i:Int) < a.n):=by unfold W.lt;rw [wi_n (sm hi)]
theorem get_at {b:Nat} {α:Type} [Inhabited α] (s:Sl b α) {p:W .i64} (h0:0≤p.n) (h:p.n < s.l.length):Sl.get? s p=some (nth s.l p.n.toNat):=by
 unfold Sl.get?
 rw [if_pos h0,nth_get (by omega)]
theorem len_ne {a b:Nat} {α β:Type} (x:Sl a α) (y:Sl b β):W.ne (Sl.len x) (Sl.len y)=!decide (x.l.length=y.l.length):=by
 rw [W.ne_eq,Sl.len_wi,Sl.len_wi,wi_eq x.h.2 y.h.2]
theorem len_le {b:Nat} {α:Type} {s:Sl b α} {n:Nat} (hn:n≤room):W.le (Sl.len s) (wi n)=decide (s.l.length≤n):=by
 refine iff_bool ?_
 rw [W.le_n,len_n',wi_n hn,decide_eq_true_eq];omega
end Go.A2
