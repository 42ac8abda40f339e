/- YtedhidchlfhegaaDoorFirst: where two lists of events part. No statement of the seat is proved here. -/
import Derived.Test.YtedhidchlfhegaaDoorTrees
import Derived.Test.YtedhidchlfhegaaDoorA2F
set_option linter.unusedSimpArgs false
set_option linter.unusedVariables false
set_option maxRecDepth 100000
namespace Go.Proofs.YtedhidchlfhegaaDoor
open Go Go.A2
theorem iter_two {S S' β β':Type} {f:S→Option (Rnd S β)} {g:S'→Option (Rnd S' β')} (I:Nat→S→S'→Prop) (n:Nat) (Q:β→β'→Prop)
  (step:∀ i s s',i < n→I i s s'→(∃ t t',f s=some (.next t)∧g s'=some (.next t')∧I (i+1) t t')∨∃ b b',f s=some (.out b)∧g s'=some (.out b')∧Q b b')
  (last:∀ s s',I n s s'→∃ b b',f s=some (.out b)∧g s'=some (.out b')∧Q b b') {s:S} {s':S'} (h0:I 0 s s') {N:Nat} (hN:n < N):
  ∃ b b',iter f N s=some b∧iter g N s'=some b'∧Q b b':=by
 have main:∀ (m i N:Nat) (s:S) (s':S'),n - i=m→i≤n→m < N→I i s s'→∃ b b',iter f N s=some b∧iter g N s'=some b'∧Q b b':=by
  intro m
  induction m with
  | zero=>
   intro i N s s' hm hi hN hI
   obtain ⟨N,rfl⟩:∃ M,N=M+1:=⟨N - 1,by omega⟩
   have:i=n:=by omega
   subst this
   obtain ⟨b,b',h1,h2,h3⟩:=last s s' hI
   exact ⟨b,b',by rw [iter_succ,h1],by rw [iter_succ,h2],h3⟩
  | succ m ih=>
   intro i N s s' hm hi hN hI
   obtain ⟨N,rfl⟩:∃ M,N=M+1:=⟨N - 1,by omega⟩
   rcases step i s s' (by omega) hI with ⟨t,t',h1,h2,h3⟩ | ⟨b,b',h1,h2,h3⟩
   ·rw [iter_succ,iter_succ,h1,h2]
    exact ih (i+1) N t t' (by omega) (by omega) (by omega) h3
   ·exact ⟨b,b',by rw [iter_succ,h1],by rw [iter_succ,h2],h3⟩
 exact main n 0 N s s' (by omega) (by omega) hN h0
theorem ev_eq (a b:TEvent):Tab.eq tab (.named .TEvent) a b=decide (a=b):=iff_bool (by rw [decide_eq_true_eq];exact eq_iff (X:=tab) tabOk (by rfl))
theorem run_same (a b:TEvent):F_run_Same a b=some (decide (a=b)):=by
 unfold F_run_Same T_run_Same
 rw [ev_ret,ev_eq]
theorem lt_n {b:Nat} {α:Type} (s:Sl b α) {i:Nat} (hi:i≤1000):W.lt (wi i) (Sl.len s)=decide (i < s.l.length):=iff_bool (by rw [W.lt_n,wi_n (sm hi),Sl.len_n,decide_eq_true_eq];omega)
theorem ge_n {b:Nat} {α:Type} (s:Sl b α) {i:Nat} (hi:i≤1000):W.ge (wi i) (Sl.len s)=!decide (i < s.l.length):=by rw [W.ge_lt,lt_n s hi]
theorem first_eq (a b:Sl 72 TEvent) (ha:a.l.length≤100) (hb:b.l.length≤100):∃ r,F_run_First a b=some r∧F_ref16_First a b=some r∧(a=b→r=W.of .i64 (-1)):=by
 have hm:W.max (Sl.len a) (Sl.len b)=wi (max a.l.length b.l.length):=W.ext (by
  rw [W.max_n,Sl.len_n,Sl.len_n,wi_n (sm (by omega))];split<;>omega)
 have key:∃ o o',L_run_First_5 (a,b,wi (max a.l.length b.l.length),wi 0,())=some o∧L_ref16_First_5 (a,b,wi 0,())=some o'∧o=o'∧(a=b→o=.inr ((),())):=by
  unfold L_run_First_5 L_ref16_First_5
  refine iter_two (fun i s s'=>s=(a,b,wi (max a.l.length b.l.length),wi i,())∧s'=(a,b,wi i,())) (max a.l.length b.l.length) _ ?_ ?_ ⟨rfl,rfl⟩ (by show _ < 1048576;omega)
  ·rintro i s s' hi ⟨rfl,rfl⟩
   have hlt:W.lt (wi i) (wi (max a.l.length b.l.length))=true:=(lt_small (by omega) (by omega)).trans (by simpa using hi)
   simp only [B_run_First_5,B_ref16_First_5,ev_ite,ev_opt,ev_ret,hlt,lt_n a (show i≤1000 by omega),lt_n b (show i≤1000 by omega),ge_n a (show i≤1000 by omega),ge_n b (show i≤1000 by omega),if_true]
   by_cases c1:i < a.l.length
   ·by_cases c2:i < b.l.length
    ·simp only [c1,c2,decide_true,Bool.not_true,Bool.false_eq_true,if_false,if_true,Sl.get_wi a c1,Sl.get_wi b c2,bind_some',run_same,ev_eq,add_small (show i < 1000 by omega)]
     by_cases e:nth a.l i=nth b.l i
     ·simp only [e,decide_true,Bool.not_true,Bool.false_eq_true,if_false]
      exact .inl ⟨_,_,rfl,rfl,rfl,rfl⟩
     ·simp only [e,decide_false,Bool.not_false,if_true]
      exact .inr ⟨_,_,rfl,rfl,rfl,fun h=>(e (by rw [h])).elim⟩
    ·simp only [c1,c2,decide_true,decide_false,Bool.not_true,Bool.not_false,Bool.false_eq_true,if_false,if_true]
     exact .inr ⟨_,_,rfl,rfl,rfl,fun h=>(c2 (by rw [←h];exact c1)).elim⟩
   ·have c2:i < b.l.length:=by omega
    simp only [c1,c2,decide_true,decide_false,Bool.not_false,Bool.false_eq_true,if_false,if_true]
    exact .inr ⟨_,_,rfl,rfl,rfl,fun h=>(c1 (by rw [h];exact c2)).elim⟩
  ·rintro s s' ⟨rfl,rfl⟩
   have hlt:W.lt (wi (max a.l.length b.l.length)) (wi (max a.l.length b.l.length))=false:=(lt_small (by omega) (by omega)).trans (by simp)
   simp only [B_run_First_5,B_ref16_First_5,ev_ite,ev_ret,hlt,lt_n a (show max a.l.length b.l.length≤1000 by omega),lt_n b (show max a.l.length b.l.length≤1000 by omega),show ¬ max a.l.length b.l.length < a.l.length by omega,show ¬ max a.l.length b.l.length < b.l.length by omega,decide_false,Bool.false_eq_true,if_false]
   exact ⟨_,_,rfl,rfl,rfl,fun _=>rfl⟩
 obtain ⟨o,o',k1,k2,rfl,k3⟩:=key
 unfold F_run_First T_run_First F_ref16_First T_ref16_First
 simp only [ev_opt,ev_ret,ev_sum,hm,show L_run_First_5 (a,b,wi (max a.l.length b.l.length),W.of .i64 0,())=_ from k1,show L_ref16_First_5 (a,b,W.of .i64 0,())=_ from k2,bind_some']
 cases o with
 | inl p=>exact ⟨_,rfl,rfl,fun h=>by cases k3 h⟩
 | inr p=>exact ⟨_,rfl,rfl,fun h=>rfl⟩
end Go.Proofs.YtedhidchlfhegaaDoor
