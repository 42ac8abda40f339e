/- YtijckobfnmkjdaaGreatDoorPa9: moves and branches: the program's are the document's. No statement of the seat is proved here. -/
import Derived.Test.YtijckobfnmkjdaaGreatDoorPa8
set_option linter.unusedSimpArgs false
set_option linter.unusedVariables false
namespace Go.Proofs.YtijckobfnmkjdaaGreatDoor
open Go Go.A2
theorem ref04_ok (op:W .i64) (a b:W .u32) {r:W .u32×Bool} (h:F_ref04_Do op a b=some r):r.2=decide (11≤op.n∧op.n≤13):=by
 obtain ⟨s1,hs1,hn1⟩:=signed4 a
 obtain ⟨s2,hs2,hn2⟩:=signed4 b
 simp only [F_ref04_Do,T_ref04_Do,ev_ite,ev_ret,ev_opt,hs1,hs2,Option.bind_some,W.eq_n,lit64 11 (by omega),lit64 12 (by omega),lit64 13 (by omega)] at h
 generalize op.n=o at h ⊢
 split at h
 ·cases h;exact (decide_eq_true (by omega)).symm
 ·split at h
  ·cases h;exact (decide_eq_true (by omega)).symm
  ·split at h
   ·cases h;exact (decide_eq_true (by omega)).symm
   ·cases h;exact (decide_eq_false (by omega)).symm
theorem div_ok (op:W .i64) (a b:W .u32) {r:W .u32×Bool} (h:F_div_Do op a b=some r):r.2=decide (14≤op.n∧op.n≤17):=by
 obtain ⟨x1,hx1,r1,hr1,q1,m1⟩:=div_run a b
 obtain ⟨ua,hua,va⟩:=away_v a
 obtain ⟨ub,hub,vb⟩:=away_v b
 obtain ⟨x2,hx2,r2,hr2,q2,m2⟩:=div_run ua ub
 simp only [F_div_Do,T_div_Do,ev_ite,ev_ret,ev_opt,hx1,hr1,hua,hub,hx2,hr2,Option.bind_some,W.eq_n (k:=.i64),lit64 14 (by omega),lit64 15 (by omega),lit64 16 (by omega),lit64 17 (by omega)] at h
 generalize op.n=o at h ⊢
 by_cases c15:o=15
 ·subst c15;simp only [if_true] at h;cases h;rfl
 by_cases c17:o=17
 ·subst c17;simp only [show ¬ (17:Int)=15 by omega,if_true,if_false] at h;cases h;rfl
 by_cases c14:o=14
 ·subst c14
  simp only [show ¬ (14:Int)=15 by omega,show ¬ (14:Int)=17 by omega,if_true,if_false] at h
  repeat' split at h
  all_goals (cases h;rfl)
 by_cases c16:o=16
 ·subst c16
  simp only [show ¬ (16:Int)=15 by omega,show ¬ (16:Int)=17 by omega,show ¬ (16:Int)=14 by omega,if_true,if_false] at h
  repeat' split at h
  all_goals (cases h;rfl)
 simp only [c14,c15,c16,c17,if_false] at h
 cases h;exact (decide_eq_false (by omega)).symm
theorem cmov_eq (o a b:W .u32):∃ v,F_alu_Cmov o a b=some v∧F_ref03_Cmov o a b=some v:=by
 simp only [F_alu_Cmov,T_alu_Cmov,F_ref03_Cmov,T_ref03_Cmov,ev_ite,ev_ret]
 split<;>exact ⟨_,rfl,rfl⟩
theorem taken_eq (op:W .i64) (a b:W .u32):∃ v,F_alu_Taken op a b=some v∧F_ref03_Taken op a b=some v:=by
 obtain ⟨sa,hsa,hsan⟩:=signed_n a
 obtain ⟨sb,hsb,hsbn⟩:=signed_n b
 simp only [F_alu_Taken,T_alu_Taken,F_ref03_Taken,T_ref03_Taken,ev_ite,ev_ret,ev_opt,hsa,hsb,Option.bind_some,lt_signed hsan hsbn,ge_signed hsan hsbn]
 have ite:∀ {c:Prop} [Decidable c] {x y z w:Option Bool},(∃ v,x=some v∧z=some v)→(∃ v,y=some v∧w=some v)→∃ v,(if c then x else y)=some v∧(if c then z else w)=some v:=fun {c} _ {x y z w} h1 h2=>by
  split
  ·exact h1
  ·exact h2
 repeat' apply ite
 all_goals exact ⟨_,rfl,rfl⟩
end Go.Proofs.YtijckobfnmkjdaaGreatDoor
