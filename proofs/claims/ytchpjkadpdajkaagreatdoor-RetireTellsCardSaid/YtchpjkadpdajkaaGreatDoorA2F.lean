/- YtchpjkadpdajkaaGreatDoorA2F: parts of the machine and its laws, in one text. No statement of the seat is proved here. -/
import Derived.Test.YtchpjkadpdajkaaGreatDoorA2D
set_option linter.unusedSimpArgs false
set_option linter.unusedVariables false
namespace Go.A2
theorem wrap_u32 (n:Int):IntKind.u32.wrap n=n % 4294967296:=by simp [IntKind.wrap,IntKind.bits,IntKind.signed]
theorem wrap_u64 (n:Int):IntKind.u64.wrap n=n % 18446744073709551616:=by simp [IntKind.wrap,IntKind.bits,IntKind.signed]
theorem wrap_i64 (n:Int):IntKind.i64.wrap n=(n+9223372036854775808) % 18446744073709551616 - 9223372036854775808:=by
 simp [IntKind.wrap,IntKind.bits,IntKind.signed];split<;>omega
theorem W.r_u32 (a:W .u32):0≤a.n∧a.n < 4294967296:=by
 have:=a.h;simp only [IntKind.has,IntKind.min,IntKind.max,IntKind.signed,IntKind.bits,Bool.false_eq_true,if_false] at this;omega
section
variable {k k':IntKind}
theorem W.of_n (n:Int):(W.of k n).n=k.wrap n:=rfl
theorem W.add_n (a b:W k):(a.add b).n=k.wrap (a.n+b.n):=rfl
theorem W.sub_n (a b:W k):(a.sub b).n=k.wrap (a.n - b.n):=rfl
theorem W.mul_n (a b:W k):(a.mul b).n=k.wrap (a.n*b.n):=rfl
theorem W.quo_n (a b:W k):(a.quo b).n=k.wrap (a.n.tdiv b.n):=rfl
theorem W.rem_n (a b:W k):(a.rem b).n=k.wrap (a.n.tmod b.n):=rfl
theorem W.conv_n (a:W k):(W.conv k' a).n=k'.wrap a.n:=rfl
theorem W.shl_n (a:W k) (b:W k'):(a.shl b).n=k.wrap (a.n*2 ^ (Min.min b.n.toNat k.bits)):=rfl
theorem W.eq_iff {a b:W k}:W.eq a b=true ↔ a=b:=by
 unfold W.eq
 rw [beq_iff_eq]
 exact ⟨W.ext,fun h=>by rw [h]⟩
theorem W.eq_n {a b:W k}:W.eq a b=true ↔ a.n=b.n:=by unfold W.eq;rw [beq_iff_eq]
theorem W.lt_n {a b:W k}:W.lt a b=true ↔ a.n < b.n:=by unfold W.lt;rw [decide_eq_true_eq]
theorem W.le_n {a b:W k}:W.le a b=true ↔ a.n≤b.n:=by unfold W.le;rw [decide_eq_true_eq]
theorem W.gt_n {a b:W k}:W.gt a b=true ↔ a.n > b.n:=by unfold W.gt;rw [decide_eq_true_eq]
theorem W.ge_n {a b:W k}:W.ge a b=true ↔ a.n ≥ b.n:=by unfold W.ge;rw [decide_eq_true_eq]
theorem W.eq_self (a:W k):W.eq a a=true:=W.eq_iff.2 rfl
end
section
variable {R:Type}
theorem ev_ret (r:R):(Tree.ret r).eval=some r:=rfl
theorem ev_ite (b:Bool) (t e:Tree R):(Tree.ite b t e).eval=if b=true then t.eval else e.eval:=by cases b<;>rfl
theorem ev_opt {α:Type} (o:Option α) (f:α→Tree R):(Tree.opt o f).eval=o.bind fun a=>(f a).eval:=by cases o<;>rfl
theorem ev_sum {α β:Type} (o:α⊕β) (f:α→Tree R) (g:β→Tree R):(Tree.sum o f g).eval=Sum.elim (fun a=>(f a).eval) (fun b=>(g b).eval) o:=by cases o<;>rfl
theorem bind_some' {α β:Type} (a:α) (f:α→Option β):(some a).bind f=f a:=rfl
end
theorem iter_inv {α β:Type} {f:α→Option (Rnd α β)} (I:α→Prop) (μ:α→Nat) (Q:β→Prop)
  (hstep:∀ a,I a→(∃ a',f a=some (.next a')∧I a'∧μ a' < μ a)∨∃ b,f a=some (.out b)∧Q b):∀ {n:Nat} {a:α},I a→μ a < n→∃ b,iter f n a=some b∧Q b
 | 0,a,_,hn=>by omega
 | n+1,a,hI,hn=>by
  rw [iter_succ]
  rcases hstep a hI with ⟨a',h1,h2,h3⟩ | ⟨b,h1,h2⟩
  ·rw [h1];exact iter_inv I μ Q hstep h2 (by omega)
  ·rw [h1];exact ⟨b,rfl,h2⟩
theorem iter_eq {α β:Type} {f:α→Option (Rnd α β)} (I:α→Prop) (μ:α→Nat) (r:β)
  (hstep:∀ a,I a→(∃ a',f a=some (.next a')∧I a'∧μ a' < μ a)∨f a=some (.out r)) {n:Nat} {a:α} (hI:I a) (hn:μ a < n):iter f n a=some r:=by
 obtain ⟨b,h1,h2⟩:=iter_inv I μ (·=r) (fun a h=>(hstep a h).imp id fun h=>⟨r,h,rfl⟩) hI hn
 rw [h1,h2]
theorem idx?_some {k:IntKind} {n:Nat} {i:W k} (h:0≤i.n∧i.n < n):idx? n i=some i.n.toNat:=by unfold idx?;rw [if_pos h]
def W.v {k:IntKind} (a:W k):Nat:=a.n.toNat
section u32
theorem W.v_lt (a:W .u32):a.v < 4294967296:=by have:=a.r_u32;unfold W.v;omega
theorem W.n_v (a:W .u32):a.n=a.v:=by have:=a.r_u32;unfold W.v;omega
theorem W.ext_v {a b:W .u32} (h:a.v=b.v):a=b:=W.ext (by rw [W.n_v,W.n_v,h])
theorem v_wrap {a:W .u32} {m:Nat} (h:a.n=IntKind.u32.wrap (m:Int)):a.v=m % 4294967296:=by
 unfold W.v;rw [h,wrap_u32];omega
theorem W.add_v (a b:W .u32):(a.add b).v=(a.v+b.v) % 4294967296:=
 v_wrap (by rw [W.add_n,a.n_v,b.n_v,Int.natCast_add])
theorem W.mul_v (a b:W .u32):(a.mul b).v=(a.v*b.v) % 4294967296:=
 v_wrap (by rw [W.mul_n,a.n_v,b.n_v,Int.natCast_mul])
theorem W.quo_v (a b:W .u32):(a.quo b).v=a.v / b.v:=by
 rw [v_wrap (m:=a.v / b.v) (by rw [W.quo_n,a.n_v,b.n_v];rfl)]
 exact Nat.mod_eq_of_lt (Nat.lt_of_le_of_lt (Nat.div_le_self _ _) a.v_lt)
theorem W.rem_v (a b:W .u32):(a.rem b).v=a.v % b.v:=by
 rw [v_wrap (m:=a.v % b.v) (by rw [W.rem_n,a.n_v,b.n_v];rfl)]
 exact Nat.mod_eq_of_lt (Nat.lt_of_le_of_lt (Nat.mod_le _ _) a.v_lt)
section uns
variable {k:IntKind} (hk:k.signed=false)
include hk
theorem uwrap (n:Int):k.wrap n=n % 2 ^ k.bits:=by unfold IntKind.wrap;rw [hk];simp
theorem W.ur (a:W k):0≤a.n∧a.n < 2 ^ k.bits:=by
 have:=a.h;simp only [IntKind.has,IntKind.min,IntKind.max,hk,Bool.false_eq_true,if_false] at this;omega
theorem W.un (a:W k):a.n=a.v:=by have:=a.ur hk;unfold W.v;omega
theorem W.uv_lt (a:W k):a.v < 2 ^ k.bits:=by
 have:=a.ur hk;unfold W.v
 have h2:((2 ^ k.bits:Nat):Int)=2 ^ k.bits:=by simp
 omega
theorem uv_wrap {a:W k} {m:Nat} (h:a.n=k.wrap (m:Int)):a.v=m % 2 ^ k.bits:=by
 unfold W.v;rw [h,uwrap hk]
 have h2:((2 ^ k.bits:Nat):Int)=2 ^ k.bits:=by simp
 rw [←h2,←Int.natCast_emod];rfl
theorem W.ushl {k':IntKind} (a:W k) (b:W k'):(a.shl b).v=(a.v*2 ^ b.v) % 2 ^ k.bits:=by
 have hp:((2:Int) ^ (Min.min b.n.toNat k.bits))=((2 ^ (Min.min b.n.toNat k.bits):Nat):Int):=by simp
 rw [uv_wrap hk (m:=a.v*2 ^ (Min.min b.n.toNat k.bits)) (by rw [W.shl_n,a.un hk,hp,Int.natCast_mul])]
 show _=a.v*2 ^ b.n.toNat % 2 ^ k.bits
 rcases Nat.le_total b.n.toNat k.bits with hb | hb
 ·rw [Nat.min_eq_left hb]
 ·rw [Nat.min_eq_right hb]
  have h1:2 ^ b.n.toNat=2 ^ (b.n.toNat - k.bits)*2 ^ k.bits:=by rw [←Nat.pow_add];congr 1;omega
  rw [h1,←Nat.mul_assoc,Nat.mul_mod_left,Nat.mul_mod_left]
theorem uofInt (a:W k):BitVec.ofInt k.bits a.n=BitVec.ofNat k.bits a.v:=by rw [a.un hk];simp
theorem W.uand (a b:W k):(a.and b).v=a.v &&& b.v:=by
 have h:(a.and b).n=k.wrap (BitVec.ofInt k.bits a.n &&& BitVec.ofInt k.bits b.n).toNat:=rfl
 rw [uofInt hk,uofInt hk,BitVec.toNat_and,BitVec.toNat_ofNat,BitVec.toNat_ofNat,Nat.mod_eq_of_lt (a.uv_lt hk),Nat.mod_eq_of_lt (b.uv_lt hk)] at h
 rw [uv_wrap hk h]
 exact Nat.mod_eq_of_lt (Nat.lt_of_le_of_lt Nat.and_le_left (a.uv_lt hk))
theorem W.uof (n:Nat):(W.of k (n:Int)).v=n % 2 ^ k.bits:=uv_wrap hk rfl
theorem W.uconv {k':IntKind} (hk':k'.signed=false) (a:W k'):(W.conv k a).v=a.v % 2 ^ k.bits:=uv_wrap hk (by rw [W.conv_n,a.un hk'])
end uns
end u32
end Go.A2
namespace Go.A2
def runL {α σ β:Type} (g:Nat→α→σ→Option (σ⊕β)) (out:σ→Option β):Nat→List α→σ→Option β
 | _,[],s=>out s
 | n,x :: l,s=>match g n x s with
  | some (.inl s')=>runL g out (n+1) l s'
  | some (.inr b)=>some b
  | none=>none
abbrev wi (n:Nat):W .i64:=W.of .i64 (n:Int)
theorem wi_n {n:Nat} (h:n≤room):(wi n).n=n:=by
 unfold room at h
 rw [W.of_n,wrap_i64];omega
theorem Sl.len_wi {b:Nat} {α:Type} (s:Sl b α):Sl.len s=wi s.l.length:=W.ext (by rw [wi_n s.h.2];rfl)
theorem wi_lt {n m:Nat} (h:n≤room) (h':m≤room):W.lt (wi n) (wi m)=decide (n < m):=by
 unfold W.lt;rw [wi_n h,wi_n h'];simp
theorem wi_add {n:Nat} (h:n < room):W.add (wi n) (W.of .i64 1)=wi (n+1):=by
 refine W.ext ?_
 rw [W.add_n,wi_n (Nat.le_of_lt h),show (W.of .i64 1).n=1 from rfl,W.of_n];simp
theorem wi_get {b:Nat} {α:Type} (s:Sl b α) {n:Nat} (h:n≤room):Sl.get? s (wi n)=s.l[n]?:=by
 unfold Sl.get?
 rw [wi_n h,if_pos (by omega)];simp
theorem W.ne_eq {k:IntKind} (a b:W k):W.ne a b=!W.eq a b:=rfl
end Go.A2
namespace Go.A2
theorem wi_eq {n m:Nat} (h:n≤room) (h':m≤room):W.eq (wi n) (wi m)=decide (n=m):=by
 by_cases hnm:n=m
 ·subst hnm;rw [W.eq_self];simp
 ·have:W.eq (wi n) (wi m) ≠ true:=fun hh=>hnm (by have:=W.eq_n.1 hh;rw [wi_n h,wi_n h'] at this;omega)
  simp [hnm,this]
theorem iff_bool {a b:Bool} (h:a=true ↔ b=true):a=b:=by cases a<;>cases b<;>simp_all
end Go.A2
namespace Go.A2
def nth {α:Type} [Inhabited α] (l:List α) (i:Nat):α:=l.getD i default
theorem nth_get {α:Type} [Inhabited α] {l:List α} {i:Nat} (h:i < l.length):l[i]?=some (nth l i):=by
 unfold nth;rw [List.getD_eq_getElem?_getD,List.getElem?_eq_getElem h];rfl
theorem Sl.get_wi {b:Nat} {α:Type} [Inhabited α] (s:Sl b α) {i:Nat} (h:i < s.l.length):Sl.get? s (wi i)=some (nth s.l i):=by
 rw [wi_get s (by have:=s.h.2;omega),nth_get h]
theorem lt_len {b:Nat} {α:Type} (s:Sl b α) {i:Nat} (h:i < s.l.length):W.lt (wi i) (Sl.len s)=true:=by
 rw [Sl.len_wi,wi_lt (by have:=s.h.2;omega) s.h.2];simpa using h
theorem lt_end {b:Nat} {α:Type} (s:Sl b α):W.lt (wi s.l.length) (Sl.len s)=false:=by
 rw [Sl.len_wi,wi_lt s.h.2 s.h.2];simp
theorem wi_next {b:Nat} {α:Type} (s:Sl b α) {i:Nat} (h:i < s.l.length):W.add (wi i) (W.of .i64 1)=wi (i+1):=wi_add (by have:=s.h.2;omega)
theorem wi_sub {n:Nat} (h:n+1≤room):W.sub (wi (n+1)) (W.of .i64 1)=wi n:=by
 refine W.ext ?_
 rw [W.sub_n,wi_n h,show (W.of .i64 1).n=1 from rfl,W.of_n]
 congr 1
 omega
end Go.A2
namespace Go.A2
end Go.A2
namespace Go.A2
end Go.A2
