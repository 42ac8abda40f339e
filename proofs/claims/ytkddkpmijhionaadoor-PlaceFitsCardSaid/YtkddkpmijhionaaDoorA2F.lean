/- YtkddkpmijhionaaDoorA2F: parts of the machine and its laws, in one text. No statement of the seat is proved here. -/
import Derived.Test.YtkddkpmijhionaaDoorA2D
set_option linter.unusedSimpArgs false
set_option linter.unusedVariables false
namespace Go.A2
theorem wrap_i64 (n:Int):IntKind.i64.wrap n=(n+9223372036854775808) % 18446744073709551616 - 9223372036854775808:=by
 simp [IntKind.wrap,IntKind.bits,IntKind.signed];split<;>omega
theorem W.r_i64 (a:W .i64):-9223372036854775808≤a.n∧a.n < 9223372036854775808:=by
 have:=a.h;simp only [IntKind.has,IntKind.min,IntKind.max,IntKind.signed,IntKind.bits,if_true] at this;omega
section
variable {k k':IntKind}
theorem W.of_n (n:Int):(W.of k n).n=k.wrap n:=rfl
theorem W.add_n (a b:W k):(a.add b).n=k.wrap (a.n+b.n):=rfl
theorem W.rem_n (a b:W k):(a.rem b).n=k.wrap (a.n.tmod b.n):=rfl
theorem W.eq_iff {a b:W k}:W.eq a b=true ↔ a=b:=by
 unfold W.eq
 rw [beq_iff_eq]
 exact ⟨W.ext,fun h=>by rw [h]⟩
theorem W.eq_n {a b:W k}:W.eq a b=true ↔ a.n=b.n:=by unfold W.eq;rw [beq_iff_eq]
theorem W.lt_n {a b:W k}:W.lt a b=true ↔ a.n < b.n:=by unfold W.lt;rw [decide_eq_true_eq]
theorem W.le_n {a b:W k}:W.le a b=true ↔ a.n≤b.n:=by unfold W.le;rw [decide_eq_true_eq]
theorem W.gt_n {a b:W k}:W.gt a b=true ↔ a.n > b.n:=by unfold W.gt;rw [decide_eq_true_eq]
theorem W.ge_n {a b:W k}:W.ge a b=true ↔ a.n ≥ b.n:=by unfold W.ge;rw [decide_eq_true_eq]
theorem W.eq_self (a:W k):W.eq a a=true:=W.eq_iff.2 rfl
end
section
variable {R:Type}
theorem ev_ret (r:R):(Tree.ret r).eval=some r:=rfl
theorem ev_ite (b:Bool) (t e:Tree R):(Tree.ite b t e).eval=if b=true then t.eval else e.eval:=by cases b<;>rfl
theorem ev_opt {α:Type} (o:Option α) (f:α→Tree R):(Tree.opt o f).eval=o.bind fun a=>(f a).eval:=by cases o<;>rfl
theorem bind_some' {α β:Type} (a:α) (f:α→Option β):(some a).bind f=f a:=rfl
end
def W.v {k:IntKind} (a:W k):Nat:=a.n.toNat
section u32
section uns
variable {k:IntKind} (hk:k.signed=false)
include hk
theorem W.ur (a:W k):0≤a.n∧a.n < 2 ^ k.bits:=by
 have:=a.h;simp only [IntKind.has,IntKind.min,IntKind.max,hk,Bool.false_eq_true,if_false] at this;omega
theorem W.un (a:W k):a.n=a.v:=by have:=a.ur hk;unfold W.v;omega
end uns
end u32
end Go.A2
namespace Go.A2
def runL {α σ β:Type} (g:Nat→α→σ→Option (σ⊕β)) (out:σ→Option β):Nat→List α→σ→Option β
 | _,[],s=>out s
 | n,x :: l,s=>match g n x s with
  | some (.inl s')=>runL g out (n+1) l s'
  | some (.inr b)=>some b
  | none=>none
abbrev wi (n:Nat):W .i64:=W.of .i64 (n:Int)
theorem wi_n {n:Nat} (h:n≤room):(wi n).n=n:=by
 unfold room at h
 rw [W.of_n,wrap_i64];omega
theorem Sl.len_n {b:Nat} {α:Type} (s:Sl b α):(Sl.len s).n=s.l.length:=rfl
theorem Sl.len_wi {b:Nat} {α:Type} (s:Sl b α):Sl.len s=wi s.l.length:=W.ext (by rw [wi_n s.h.2];rfl)
theorem wi_lt {n m:Nat} (h:n≤room) (h':m≤room):W.lt (wi n) (wi m)=decide (n < m):=by
 unfold W.lt;rw [wi_n h,wi_n h'];simp
theorem wi_add {n:Nat} (h:n < room):W.add (wi n) (W.of .i64 1)=wi (n+1):=by
 refine W.ext ?_
 rw [W.add_n,wi_n (Nat.le_of_lt h),show (W.of .i64 1).n=1 from rfl,W.of_n];simp
theorem wi_get {b:Nat} {α:Type} (s:Sl b α) {n:Nat} (h:n≤room):Sl.get? s (wi n)=s.l[n]?:=by
 unfold Sl.get?
 rw [wi_n h,if_pos (by omega)];simp
theorem W.le_gt {k:IntKind} (a b:W k):W.le a b=!W.gt a b:=by
 unfold W.le W.gt
 by_cases h:a.n > b.n
 ·rw [decide_eq_true h,decide_eq_false (by omega)];rfl
 ·rw [decide_eq_false h,decide_eq_true (by omega)];rfl
theorem W.ne_eq {k:IntKind} (a b:W k):W.ne a b=!W.eq a b:=rfl
end Go.A2
namespace Go.A2
theorem iff_bool {a b:Bool} (h:a=true ↔ b=true):a=b:=by cases a<;>cases b<;>simp_all
end Go.A2
namespace Go.A2
theorem iter_check {S β:Type} {f:S→Option (Rnd S β)} (I:Nat→S→Prop) (n:Nat) (P:Nat→Prop) (Fb Tb:β→Prop)
  (step:∀ i s,i < n→I i s→(∀ k,k < i→P k)→(P i∧∃ s',f s=some (.next s')∧I (i+1) s')∨(¬ P i∧∃ b,f s=some (.out b)∧Fb b))
  (last:∀ s,I n s→(∀ k,k < n→P k)→∃ b,f s=some (.out b)∧Tb b) {s:S} (h0:I 0 s) {N:Nat} (hN:n < N):
  ∃ b,iter f N s=some b∧(((∀ k,k < n→P k)∧Tb b)∨((¬ ∀ k,k < n→P k)∧Fb b)):=by
 have main:∀ (m i N:Nat) (s:S),n - i=m→i≤n→m < N→I i s→(∀ k,k < i→P k)→∃ b,iter f N s=some b∧(((∀ k,k < n→P k)∧Tb b)∨((¬ ∀ k,k < n→P k)∧Fb b)):=by
  intro m
  induction m with
  | zero=>
   intro i N s hm hi hN hI hP
   obtain ⟨N,rfl⟩:∃ M,N=M+1:=⟨N - 1,by omega⟩
   have:i=n:=by omega
   subst this
   obtain ⟨b,h1,h2⟩:=last s hI hP
   exact ⟨b,by rw [iter_succ,h1],.inl ⟨hP,h2⟩⟩
  | succ m ih=>
   intro i N s hm hi hN hI hP
   obtain ⟨N,rfl⟩:∃ M,N=M+1:=⟨N - 1,by omega⟩
   rcases step i s (by omega) hI hP with ⟨hp,s',h1,h2⟩ | ⟨hp,b,h1,h2⟩
   ·rw [iter_succ,h1]
    refine ih (i+1) N s' (by omega) (by omega) (by omega) h2 fun k hk=>?_
    by_cases hki:k=i
    ·rw [hki];exact hp
    ·exact hP k (by omega)
   ·exact ⟨b,by rw [iter_succ,h1],.inr ⟨fun h=>hp (h i (by omega)),h2⟩⟩
 exact main n 0 N s (by omega) (by omega) hN h0 (fun k hk=>by omega)
theorem iter_acc {S β:Type} {f:S→Option (Rnd S β)} (I:Nat→S→Prop) (n:Nat) (Q:β→Prop)
  (step:∀ i s,i < n→I i s→∃ s',f s=some (.next s')∧I (i+1) s')
  (last:∀ s,I n s→∃ b,f s=some (.out b)∧Q b) {s:S} (h0:I 0 s) {N:Nat} (hN:n < N):∃ b,iter f N s=some b∧Q b:=by
 obtain ⟨b,h1,h2⟩:=iter_check (f:=f) I n (fun _=>True) (fun _=>False) Q (fun i s hi hI _=>.inl ⟨trivial,step i s hi hI⟩) (fun s hI _=>last s hI) h0 hN
 rcases h2 with ⟨_,h⟩ | ⟨_,h⟩
 ·exact ⟨b,h1,h⟩
 ·exact h.elim
def nth {α:Type} [Inhabited α] (l:List α) (i:Nat):α:=l.getD i default
theorem nth_get {α:Type} [Inhabited α] {l:List α} {i:Nat} (h:i < l.length):l[i]?=some (nth l i):=by
 unfold nth;rw [List.getD_eq_getElem?_getD,List.getElem?_eq_getElem h];rfl
theorem nth_elem {α:Type} [Inhabited α] {l:List α} {i:Nat} (h:i < l.length):nth l i=l[i]:=by
 have:=nth_get h;rw [List.getElem?_eq_getElem h] at this;exact (Option.some.inj this).symm
theorem nth_map {α β:Type} [Inhabited α] [Inhabited β] {f:α→β} {l:List α} {i:Nat} (h:i < l.length):nth (l.map f) i=f (nth l i):=by
 rw [nth_elem h,nth_elem (by simpa using h)];simp
theorem take_nth {α:Type} [Inhabited α] {l:List α} {i:Nat} (h:i < l.length):l.take (i+1)=l.take i++[nth l i]:=by
 rw [nth_elem h,List.take_add_one,List.getElem?_eq_getElem h];rfl
theorem Sl.get_wi {b:Nat} {α:Type} [Inhabited α] (s:Sl b α) {i:Nat} (h:i < s.l.length):Sl.get? s (wi i)=some (nth s.l i):=by
 rw [wi_get s (by have:=s.h.2;omega),nth_get h]
theorem lt_len {b:Nat} {α:Type} (s:Sl b α) {i:Nat} (h:i < s.l.length):W.lt (wi i) (Sl.len s)=true:=by
 rw [Sl.len_wi,wi_lt (by have:=s.h.2;omega) s.h.2];simpa using h
theorem lt_end {b:Nat} {α:Type} (s:Sl b α):W.lt (wi s.l.length) (Sl.len s)=false:=by
 rw [Sl.len_wi,wi_lt s.h.2 s.h.2];simp
theorem wi_next {b:Nat} {α:Type} (s:Sl b α) {i:Nat} (h:i < s.l.length):W.add (wi i) (W.of .i64 1)=wi (i+1):=wi_add (by have:=s.h.2;omega)
theorem W.eq_dec {k:IntKind} (a b:W k):W.eq a b=decide (a=b):=by
 by_cases h:a=b
 ·subst h;simp [W.eq_self]
 ·have:W.eq a b ≠ true:=fun hh=>h (W.eq_iff.1 hh)
  simp [h,this]
theorem app_list {b:Nat} {α:Type} {s t:Sl b α} (h:(s.l.length+t.l.length)*b≤room) (h':s.l.length+t.l.length≤room):∃ r:Sl b α,Sl.app? s t=some r∧r.l=s.l++t.l:=by
 unfold Sl.app?
 split
 ·rename_i hs;exact ⟨t,rfl,by rw [hs];rfl⟩
 ·unfold Sl.mk?
  rw [dif_pos ⟨by rw [List.length_append];exact h,by rw [List.length_append];exact h'⟩]
  exact ⟨_,rfl,rfl⟩
theorem app_lit {b:Nat} {α:Type} {s:Sl b α} {x:α} {hb:slOk b [x].length=true} (h:(s.l.length+1)*b≤room) (h':s.l.length+1≤room):∃ r:Sl b α,Sl.app? s (Sl.lit b [x] hb)=some r∧r.l=s.l++[x]:=
 app_list h h'
end Go.A2
namespace Go.A2
end Go.A2
namespace Go.A2
theorem sm {n:Nat} (h:n≤1000):n≤room:=by unfold room;omega
theorem add_small {n:Nat} (h:n < 1000):W.add (wi n) (W.of .i64 1)=wi (n+1):=wi_add (by unfold room;omega)
theorem of_small {a:W .i64} (h:0≤a.n):a=wi a.n.toNat:=by
 refine W.ext ?_
 have:=a.r_i64
 rw [W.of_n,wrap_i64];omega
theorem len_n' {b:Nat} {α:Type} (s:Sl b α):(Sl.len s).n=s.l.length:=id (Sl.len_n s)
theorem rem_small {a n:Nat} (hn:0 < n) (h:a≤1000) (h':n≤1000):W.rem? (wi a) (wi n)=some (wi (a % n)):=by
 unfold W.rem?
 rw [if_neg (by rw [wi_n (sm h')];omega)]
 congr 1
 refine W.ext ?_
 rw [W.rem_n,wi_n (sm h),wi_n (sm h'),wi_n (sm (Nat.le_trans (Nat.mod_le _ _) h)),←Int.ofNat_tmod,wrap_i64]
 have:=Nat.mod_lt a hn
 omega
theorem add_wi {a b:Nat} (h:a≤1000000) (h':b≤1000000):W.add (wi a) (wi b)=wi (a+b):=by
 refine W.ext ?_
 rw [W.add_n,wi_n (by unfold room;omega),wi_n (by unfold room;omega),W.of_n]
 simp
theorem lt_wi_of {a:W .i64} {i:Nat} (hi:i≤1000):W.lt (wi i) a=decide ((i:Int) < a.n):=by unfold W.lt;rw [wi_n (sm hi)]
theorem len_le {b:Nat} {α:Type} {s:Sl b α} {n:Nat} (hn:n≤room):W.le (Sl.len s) (wi n)=decide (s.l.length≤n):=by
 refine iff_bool ?_
 rw [W.le_n,len_n',wi_n hn,decide_eq_true_eq];omega
theorem len_gt {b:Nat} {α:Type} {s:Sl b α} {n:Nat} (hn:n≤room):W.gt (Sl.len s) (wi n)=decide (n < s.l.length):=by
 refine iff_bool ?_
 rw [W.gt_n,len_n',wi_n hn,decide_eq_true_eq];omega
end Go.A2
