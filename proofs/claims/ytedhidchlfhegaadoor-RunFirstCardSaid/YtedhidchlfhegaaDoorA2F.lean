/- YtedhidchlfhegaaDoorA2F: parts of the machine and its laws, in one text. No statement of the seat is proved here. -/
import Derived.Test.YtedhidchlfhegaaDoorA2D
set_option linter.unusedSimpArgs false
set_option linter.unusedVariables false
namespace Go.A2
theorem wrap_i64 (n:Int):IntKind.i64.wrap n=(n+9223372036854775808) % 18446744073709551616 - 9223372036854775808:=by
 simp [IntKind.wrap,IntKind.bits,IntKind.signed];split<;>omega
section
variable {k k':IntKind}
theorem W.of_n (n:Int):(W.of k n).n=k.wrap n:=rfl
theorem W.add_n (a b:W k):(a.add b).n=k.wrap (a.n+b.n):=rfl
theorem W.eq_iff {a b:W k}:W.eq a b=true ↔ a=b:=by
 unfold W.eq
 rw [beq_iff_eq]
 exact ⟨W.ext,fun h=>by rw [h]⟩
theorem W.lt_n {a b:W k}:W.lt a b=true ↔ a.n < b.n:=by unfold W.lt;rw [decide_eq_true_eq]
theorem W.gt_n {a b:W k}:W.gt a b=true ↔ a.n > b.n:=by unfold W.gt;rw [decide_eq_true_eq]
theorem W.ge_n {a b:W k}:W.ge a b=true ↔ a.n ≥ b.n:=by unfold W.ge;rw [decide_eq_true_eq]
theorem W.max_n {a b:W k}:(W.max a b).n=if b.n > a.n then b.n else a.n:=by unfold W.max;split<;>rfl
theorem W.eq_self (a:W k):W.eq a a=true:=W.eq_iff.2 rfl
end
section
variable {R:Type}
theorem ev_ret (r:R):(Tree.ret r).eval=some r:=rfl
theorem ev_ite (b:Bool) (t e:Tree R):(Tree.ite b t e).eval=if b=true then t.eval else e.eval:=by cases b<;>rfl
theorem ev_opt {α:Type} (o:Option α) (f:α→Tree R):(Tree.opt o f).eval=o.bind fun a=>(f a).eval:=by cases o<;>rfl
theorem ev_sum {α β:Type} (o:α⊕β) (f:α→Tree R) (g:β→Tree R):(Tree.sum o f g).eval=Sum.elim (fun a=>(f a).eval) (fun b=>(g b).eval) o:=by cases o<;>rfl
theorem bind_some' {α β:Type} (a:α) (f:α→Option β):(some a).bind f=f a:=rfl
end
def W.v {k:IntKind} (a:W k):Nat:=a.n.toNat
section u32
section uns
variable {k:IntKind} (hk:k.signed=false)
include hk
theorem W.ur (a:W k):0≤a.n∧a.n < 2 ^ k.bits:=by
 have:=a.h;simp only [IntKind.has,IntKind.min,IntKind.max,hk,Bool.false_eq_true,if_false] at this;omega
theorem W.un (a:W k):a.n=a.v:=by have:=a.ur hk;unfold W.v;omega
end uns
end u32
end Go.A2
namespace Go.A2
def runL {α σ β:Type} (g:Nat→α→σ→Option (σ⊕β)) (out:σ→Option β):Nat→List α→σ→Option β
 | _,[],s=>out s
 | n,x :: l,s=>match g n x s with
  | some (.inl s')=>runL g out (n+1) l s'
  | some (.inr b)=>some b
  | none=>none
abbrev wi (n:Nat):W .i64:=W.of .i64 (n:Int)
theorem wi_n {n:Nat} (h:n≤room):(wi n).n=n:=by
 unfold room at h
 rw [W.of_n,wrap_i64];omega
theorem Sl.len_n {b:Nat} {α:Type} (s:Sl b α):(Sl.len s).n=s.l.length:=rfl
theorem Sl.len_wi {b:Nat} {α:Type} (s:Sl b α):Sl.len s=wi s.l.length:=W.ext (by rw [wi_n s.h.2];rfl)
theorem wi_lt {n m:Nat} (h:n≤room) (h':m≤room):W.lt (wi n) (wi m)=decide (n < m):=by
 unfold W.lt;rw [wi_n h,wi_n h'];simp
theorem wi_add {n:Nat} (h:n < room):W.add (wi n) (W.of .i64 1)=wi (n+1):=by
 refine W.ext ?_
 rw [W.add_n,wi_n (Nat.le_of_lt h),show (W.of .i64 1).n=1 from rfl,W.of_n];simp
theorem wi_get {b:Nat} {α:Type} (s:Sl b α) {n:Nat} (h:n≤room):Sl.get? s (wi n)=s.l[n]?:=by
 unfold Sl.get?
 rw [wi_n h,if_pos (by omega)];simp
theorem W.ge_lt {k:IntKind} (a b:W k):W.ge a b=!W.lt a b:=by
 unfold W.ge W.lt
 by_cases h:a.n < b.n
 ·rw [decide_eq_true h,decide_eq_false (by omega)];rfl
 ·rw [decide_eq_false h,decide_eq_true (by omega)];rfl
theorem W.ne_eq {k:IntKind} (a b:W k):W.ne a b=!W.eq a b:=rfl
end Go.A2
namespace Go.A2
theorem iff_bool {a b:Bool} (h:a=true ↔ b=true):a=b:=by cases a<;>cases b<;>simp_all
end Go.A2
namespace Go.A2
def nth {α:Type} [Inhabited α] (l:List α) (i:Nat):α:=l.getD i default
theorem nth_get {α:Type} [Inhabited α] {l:List α} {i:Nat} (h:i < l.length):l[i]?=some (nth l i):=by
 unfold nth;rw [List.getD_eq_getElem?_getD,List.getElem?_eq_getElem h];rfl
theorem Sl.get_wi {b:Nat} {α:Type} [Inhabited α] (s:Sl b α) {i:Nat} (h:i < s.l.length):Sl.get? s (wi i)=some (nth s.l i):=by
 rw [wi_get s (by have:=s.h.2;omega),nth_get h]
theorem lt_len {b:Nat} {α:Type} (s:Sl b α) {i:Nat} (h:i < s.l.length):W.lt (wi i) (Sl.len s)=true:=by
 rw [Sl.len_wi,wi_lt (by have:=s.h.2;omega) s.h.2];simpa using h
theorem lt_end {b:Nat} {α:Type} (s:Sl b α):W.lt (wi s.l.length) (Sl.len s)=false:=by
 rw [Sl.len_wi,wi_lt s.h.2 s.h.2];simp
theorem wi_next {b:Nat} {α:Type} (s:Sl b α) {i:Nat} (h:i < s.l.length):W.add (wi i) (W.of .i64 1)=wi (i+1):=wi_add (by have:=s.h.2;omega)
end Go.A2
namespace Go.A2
end Go.A2
namespace Go.A2
theorem sm {n:Nat} (h:n≤1000):n≤room:=by unfold room;omega
theorem lt_small {n m:Nat} (h:n≤1000) (h':m≤1000):W.lt (wi n) (wi m)=decide (n < m):=wi_lt (sm h) (sm h')
theorem add_small {n:Nat} (h:n < 1000):W.add (wi n) (W.of .i64 1)=wi (n+1):=wi_add (by unfold room;omega)
theorem len_n' {b:Nat} {α:Type} (s:Sl b α):(Sl.len s).n=s.l.length:=id (Sl.len_n s)
theorem len_gt {b:Nat} {α:Type} {s:Sl b α} {n:Nat} (hn:n≤room):W.gt (Sl.len s) (wi n)=decide (n < s.l.length):=by
 refine iff_bool ?_
 rw [W.gt_n,len_n',wi_n hn,decide_eq_true_eq];omega
end Go.A2
