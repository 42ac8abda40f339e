/- YtedhidchlfhegaaGreatDoorA2F: parts of the machine and its laws, in one text. No statement of the seat is proved here. -/
import Derived.Test.YtedhidchlfhegaaGreatDoorA2D
set_option linter.unusedSimpArgs false
set_option linter.unusedVariables false
namespace Go.A2
theorem wrap_u8 (n:Int):IntKind.u8.wrap n=n % 256:=by simp [IntKind.wrap,IntKind.bits,IntKind.signed]
theorem wrap_u32 (n:Int):IntKind.u32.wrap n=n % 4294967296:=by simp [IntKind.wrap,IntKind.bits,IntKind.signed]
theorem wrap_u64 (n:Int):IntKind.u64.wrap n=n % 18446744073709551616:=by simp [IntKind.wrap,IntKind.bits,IntKind.signed]
theorem wrap_i64 (n:Int):IntKind.i64.wrap n=(n+9223372036854775808) % 18446744073709551616 - 9223372036854775808:=by
 simp [IntKind.wrap,IntKind.bits,IntKind.signed];split<;>omega
theorem W.r_u32 (a:W .u32):0≤a.n∧a.n < 4294967296:=by
 have:=a.h;simp only [IntKind.has,IntKind.min,IntKind.max,IntKind.signed,IntKind.bits,Bool.false_eq_true,if_false] at this;omega
theorem W.r_u64 (a:W .u64):0≤a.n∧a.n < 18446744073709551616:=by
 have:=a.h;simp only [IntKind.has,IntKind.min,IntKind.max,IntKind.signed,IntKind.bits,Bool.false_eq_true,if_false] at this;omega
theorem W.r_i64 (a:W .i64):-9223372036854775808≤a.n∧a.n < 9223372036854775808:=by
 have:=a.h;simp only [IntKind.has,IntKind.min,IntKind.max,IntKind.signed,IntKind.bits,if_true] at this;omega
section
variable {k k':IntKind}
theorem W.of_n (n:Int):(W.of k n).n=k.wrap n:=rfl
theorem W.add_n (a b:W k):(a.add b).n=k.wrap (a.n+b.n):=rfl
theorem W.sub_n (a b:W k):(a.sub b).n=k.wrap (a.n - b.n):=rfl
theorem W.mul_n (a b:W k):(a.mul b).n=k.wrap (a.n*b.n):=rfl
theorem W.quo_n (a b:W k):(a.quo b).n=k.wrap (a.n.tdiv b.n):=rfl
theorem W.rem_n (a b:W k):(a.rem b).n=k.wrap (a.n.tmod b.n):=rfl
theorem W.neg_n (a:W k):(a.neg).n=k.wrap (0 - a.n):=rfl
theorem W.conv_n (a:W k):(W.conv k' a).n=k'.wrap a.n:=rfl
theorem W.shr_n (a:W k) (b:W k'):(a.shr b).n=k.wrap (a.n.fdiv (2 ^ (Min.min b.n.toNat k.bits))):=rfl
theorem W.eq_iff {a b:W k}:W.eq a b=true ↔ a=b:=by
 unfold W.eq
 rw [beq_iff_eq]
 exact ⟨W.ext,fun h=>by rw [h]⟩
theorem W.eq_n {a b:W k}:W.eq a b=true ↔ a.n=b.n:=by unfold W.eq;rw [beq_iff_eq]
theorem W.lt_n {a b:W k}:W.lt a b=true ↔ a.n < b.n:=by unfold W.lt;rw [decide_eq_true_eq]
theorem W.gt_n {a b:W k}:W.gt a b=true ↔ a.n > b.n:=by unfold W.gt;rw [decide_eq_true_eq]
theorem W.ge_n {a b:W k}:W.ge a b=true ↔ a.n ≥ b.n:=by unfold W.ge;rw [decide_eq_true_eq]
theorem W.max_n {a b:W k}:(W.max a b).n=if b.n > a.n then b.n else a.n:=by unfold W.max;split<;>rfl
theorem W.eq_self (a:W k):W.eq a a=true:=W.eq_iff.2 rfl
end
section
variable {R:Type}
theorem ev_ret (r:R):(Tree.ret r).eval=some r:=rfl
theorem ev_ite (b:Bool) (t e:Tree R):(Tree.ite b t e).eval=if b=true then t.eval else e.eval:=by cases b<;>rfl
theorem ev_opt {α:Type} (o:Option α) (f:α→Tree R):(Tree.opt o f).eval=o.bind fun a=>(f a).eval:=by cases o<;>rfl
theorem ev_sum {α β:Type} (o:α⊕β) (f:α→Tree R) (g:β→Tree R):(Tree.sum o f g).eval=Sum.elim (fun a=>(f a).eval) (fun b=>(g b).eval) o:=by cases o<;>rfl
theorem bind_some' {α β:Type} (a:α) (f:α→Option β):(some a).bind f=f a:=rfl
end
theorem Arr.get_set {α:Type} [Inhabited α] {n:Nat} {a:Arr n α} {i j:Nat} {x:α} (h:i < n):(a.set i x).get j=if i=j then x else a.get j:=by
 unfold Arr.get Arr.set
 have:=a.h
 by_cases hij:i=j
 ·subst hij
  simp [List.getD_eq_getElem?_getD,this,h]
 ·simp [List.getD_eq_getElem?_getD,hij]
def W.v {k:IntKind} (a:W k):Nat:=a.n.toNat
section u32
theorem W.v_lt (a:W .u32):a.v < 4294967296:=by have:=a.r_u32;unfold W.v;omega
theorem W.n_v (a:W .u32):a.n=a.v:=by have:=a.r_u32;unfold W.v;omega
theorem ofInt_u32 (a:W .u32):BitVec.ofInt 32 a.n=BitVec.ofNat 32 a.v:=by rw [W.n_v];simp
theorem W.and_v (a b:W .u32):(a.and b).v=a.v &&& b.v:=by
 have h:(a.and b).n=IntKind.u32.wrap (BitVec.ofInt 32 a.n &&& BitVec.ofInt 32 b.n).toNat:=rfl
 unfold W.v
 rw [h,ofInt_u32,ofInt_u32,BitVec.toNat_and,BitVec.toNat_ofNat,BitVec.toNat_ofNat,Nat.mod_eq_of_lt a.v_lt,Nat.mod_eq_of_lt b.v_lt,wrap_u32]
 have:a.v &&& b.v < 4294967296:=Nat.lt_of_le_of_lt Nat.and_le_left a.v_lt
 show (((a.v &&& b.v:Nat):Int) % 4294967296).toNat=a.v &&& b.v
 omega
theorem v_wrap {a:W .u32} {m:Nat} (h:a.n=IntKind.u32.wrap (m:Int)):a.v=m % 4294967296:=by
 unfold W.v;rw [h,wrap_u32];omega
theorem W.quo_v (a b:W .u32):(a.quo b).v=a.v / b.v:=by
 rw [v_wrap (m:=a.v / b.v) (by rw [W.quo_n,a.n_v,b.n_v];rfl)]
 exact Nat.mod_eq_of_lt (Nat.lt_of_le_of_lt (Nat.div_le_self _ _) a.v_lt)
theorem W.rem_v (a b:W .u32):(a.rem b).v=a.v % b.v:=by
 rw [v_wrap (m:=a.v % b.v) (by rw [W.rem_n,a.n_v,b.n_v];rfl)]
 exact Nat.mod_eq_of_lt (Nat.lt_of_le_of_lt (Nat.mod_le _ _) a.v_lt)
theorem W.shr_v {k:IntKind} (a:W .u32) (b:W k):(a.shr b).v=a.v / 2 ^ b.v:=by
 have hp:((2:Int) ^ (Min.min b.n.toNat 32))=((2 ^ (Min.min b.n.toNat 32):Nat):Int):=by simp
 have hlt:=a.v_lt
 rw [v_wrap (m:=a.v / 2 ^ (Min.min b.n.toNat 32)) (by
  rw [W.shr_n,a.n_v,show IntKind.u32.bits=32 from rfl,hp,Int.fdiv_eq_ediv_of_nonneg _ (Int.natCast_nonneg _),Int.natCast_ediv])]
 rw [Nat.mod_eq_of_lt (Nat.lt_of_le_of_lt (Nat.div_le_self _ _) hlt)]
 show _=a.v / 2 ^ b.n.toNat
 rcases Nat.le_total b.n.toNat 32 with hb | hb
 ·rw [Nat.min_eq_left hb]
 ·rw [Nat.min_eq_right hb]
  have h1:4294967296≤2 ^ b.n.toNat:=by
   have:=Nat.pow_le_pow_right (n:=2) (by omega) hb
   omega
  rw [Nat.div_eq_of_lt (show a.v < 2 ^ 32 by omega),Nat.div_eq_of_lt (show a.v < 2 ^ b.n.toNat by omega)]
section uns
variable {k:IntKind} (hk:k.signed=false)
include hk
theorem W.ur (a:W k):0≤a.n∧a.n < 2 ^ k.bits:=by
 have:=a.h;simp only [IntKind.has,IntKind.min,IntKind.max,hk,Bool.false_eq_true,if_false] at this;omega
theorem W.un (a:W k):a.n=a.v:=by have:=a.ur hk;unfold W.v;omega
end uns
theorem W.of_v (n:Nat) (h:n < 4294967296):(W.of .u32 (n:Int)).v=n:=by
 have h':(W.of .u32 (n:Int)).n=IntKind.u32.wrap n:=rfl
 unfold W.v;rw [h',wrap_u32];omega
end u32
end Go.A2
namespace Go.A2
def runL {α σ β:Type} (g:Nat→α→σ→Option (σ⊕β)) (out:σ→Option β):Nat→List α→σ→Option β
 | _,[],s=>out s
 | n,x :: l,s=>match g n x s with
  | some (.inl s')=>runL g out (n+1) l s'
  | some (.inr b)=>some b
  | none=>none
abbrev wi (n:Nat):W .i64:=W.of .i64 (n:Int)
theorem wi_n {n:Nat} (h:n≤room):(wi n).n=n:=by
 unfold room at h
 rw [W.of_n,wrap_i64];omega
theorem Sl.len_n {b:Nat} {α:Type} (s:Sl b α):(Sl.len s).n=s.l.length:=rfl
theorem wi_lt {n m:Nat} (h:n≤room) (h':m≤room):W.lt (wi n) (wi m)=decide (n < m):=by
 unfold W.lt;rw [wi_n h,wi_n h'];simp
theorem wi_add {n:Nat} (h:n < room):W.add (wi n) (W.of .i64 1)=wi (n+1):=by
 refine W.ext ?_
 rw [W.add_n,wi_n (Nat.le_of_lt h),show (W.of .i64 1).n=1 from rfl,W.of_n];simp
theorem wi_get {b:Nat} {α:Type} (s:Sl b α) {n:Nat} (h:n≤room):Sl.get? s (wi n)=s.l[n]?:=by
 unfold Sl.get?
 rw [wi_n h,if_pos (by omega)];simp
theorem wi_idx {n m:Nat} (h:n≤room):idx? m (wi n)=if n < m then some n else none:=by
 unfold idx?
 rw [wi_n h]
 by_cases hm:n < m
 ·rw [if_pos (by omega),if_pos hm];simp
 ·rw [if_neg (by omega),if_neg hm]
theorem W.ge_lt {k:IntKind} (a b:W k):W.ge a b=!W.lt a b:=by
 unfold W.ge W.lt
 by_cases h:a.n < b.n
 ·rw [decide_eq_true h,decide_eq_false (by omega)];rfl
 ·rw [decide_eq_false h,decide_eq_true (by omega)];rfl
theorem W.ne_eq {k:IntKind} (a b:W k):W.ne a b=!W.eq a b:=rfl
theorem all_lt {p:Nat→Bool} {n:Nat} (h:(List.range n).all p=true) {k:Nat} (hk:k < n):p k=true:=List.all_eq_true.1 h k (List.mem_range.2 hk)
end Go.A2
namespace Go.A2
theorem iff_bool {a b:Bool} (h:a=true ↔ b=true):a=b:=by cases a<;>cases b<;>simp_all
end Go.A2
namespace Go.A2
def nth {α:Type} [Inhabited α] (l:List α) (i:Nat):α:=l.getD i default
theorem nth_get {α:Type} [Inhabited α] {l:List α} {i:Nat} (h:i < l.length):l[i]?=some (nth l i):=by
 unfold nth;rw [List.getD_eq_getElem?_getD,List.getElem?_eq_getElem h];rfl
theorem nth_elem {α:Type} [Inhabited α] {l:List α} {i:Nat} (h:i < l.length):nth l i=l[i]:=by
 have:=nth_get h;rw [List.getElem?_eq_getElem h] at this;exact (Option.some.inj this).symm
theorem getD_nth {α:Type} [Inhabited α] {l:List α} {i:Nat} {d:α} (h:i < l.length):l.getD i d=nth l i:=by
 rw [nth_elem h];simp [List.getD_eq_getElem?_getD,List.getElem?_eq_getElem h]
theorem Sl.get_wi {b:Nat} {α:Type} [Inhabited α] (s:Sl b α) {i:Nat} (h:i < s.l.length):Sl.get? s (wi i)=some (nth s.l i):=by
 rw [wi_get s (by have:=s.h.2;omega),nth_get h]
theorem wi_sub {n:Nat} (h:n+1≤room):W.sub (wi (n+1)) (W.of .i64 1)=wi n:=by
 refine W.ext ?_
 rw [W.sub_n,wi_n h,show (W.of .i64 1).n=1 from rfl,W.of_n]
 congr 1
 omega
theorem W.eq_dec {k:IntKind} (a b:W k):W.eq a b=decide (a=b):=by
 by_cases h:a=b
 ·subst h;simp [W.eq_self]
 ·have:W.eq a b ≠ true:=fun hh=>h (W.eq_iff.1 hh)
  simp [h,this]
theorem app_list {b:Nat} {α:Type} {s t:Sl b α} (h:(s.l.length+t.l.length)*b≤room) (h':s.l.length+t.l.length≤room):∃ r:Sl b α,Sl.app? s t=some r∧r.l=s.l++t.l:=by
 unfold Sl.app?
 split
 ·rename_i hs;exact ⟨t,rfl,by rw [hs];rfl⟩
 ·unfold Sl.mk?
  rw [dif_pos ⟨by rw [List.length_append];exact h,by rw [List.length_append];exact h'⟩]
  exact ⟨_,rfl,rfl⟩
end Go.A2
namespace Go.A2
end Go.A2
namespace Go.A2
theorem sm {n:Nat} (h:n≤1000):n≤room:=by unfold room;omega
theorem lt_small {n m:Nat} (h:n≤1000) (h':m≤1000):W.lt (wi n) (wi m)=decide (n < m):=wi_lt (sm h) (sm h')
theorem add_small {n:Nat} (h:n < 1000):W.add (wi n) (W.of .i64 1)=wi (n+1):=wi_add (by unfold room;omega)
theorem of_small {a:W .i64} (h:0≤a.n):a=wi a.n.toNat:=by
 refine W.ext ?_
 have:=a.r_i64
 rw [W.of_n,wrap_i64];omega
theorem len_n' {b:Nat} {α:Type} (s:Sl b α):(Sl.len s).n=s.l.length:=id (Sl.len_n s)
theorem len_gt {b:Nat} {α:Type} {s:Sl b α} {n:Nat} (hn:n≤room):W.gt (Sl.len s) (wi n)=decide (n < s.l.length):=by
 refine iff_bool ?_
 rw [W.gt_n,len_n',wi_n hn,decide_eq_true_eq];omega
end Go.A2
