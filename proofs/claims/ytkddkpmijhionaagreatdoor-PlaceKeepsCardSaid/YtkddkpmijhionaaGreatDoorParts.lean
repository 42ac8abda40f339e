/- YtkddkpmijhionaaGreatDoorParts: a word's parts: the program's are the document's. No statement of the seat is proved here. -/
import Derived.Test.YtkddkpmijhionaaGreatDoorDec
set_option linter.unusedSimpArgs false
set_option linter.unusedVariables false
set_option maxRecDepth 100000
namespace Go.Proofs.YtkddkpmijhionaaGreatDoor
open Go Go.A2
noncomputable def unitK (k:Nat):W .i64:=(F_crack_Unit (wi k)).getD (W.of .i64 0)
noncomputable def serK (k:Nat):Bool:=(F_crack_Serial (wi k)).getD false
noncomputable def unitRow (k:Nat):Bool:=decide (F_crack_Unit (wi k)=some (unitK k))&&decide (F_ref24_Unit (wi k)=some (unitK k))&&decide (F_crack_Serial (wi k)=some (serK k))&&decide (F_ref24_Serial (wi k)=some (serK k))&&(!decide (k=24) || decide (formN k=1))
theorem unit_all:(List.range 64).all unitRow=true:=by kernel_rfl
def regG (r:W .i64) (b:Bool):W .i64:=if r=W.of .i64 0 then W.of .i64 (-1) else if b=true then r else W.of .i64 (-1)
theorem reg_p (r:W .i64):F_crack_reg r=some (regG r true):=by
 unfold F_crack_reg T_crack_reg regG
 rw [ev_ite,W.eq_dec]
 by_cases h:r=W.of .i64 0
 ·rw [if_pos (by simpa using h),if_pos h];rfl
 ·rw [if_neg (by simpa using h),if_neg h];rfl
theorem reg_d24 (r:W .i64) (b:Bool):F_ref24_reg r b=some (regG r b):=by
 unfold F_ref24_reg T_ref24_reg regG
 rw [ev_ite,W.eq_dec]
 by_cases h:r=W.of .i64 0
 ·rw [if_pos (by simpa using h),if_pos h];rfl
 ·rw [if_neg (by simpa using h),if_neg h];cases b<;>rfl
theorem regG_false (r:W .i64):regG r false=W.of .i64 (-1):=by
 unfold regG;split<;>rfl
theorem part_eq (s:TSlot) (i:TInst) {k:Nat} (hi:i.Op=wi k) (h0:k ≠ 0) (hk:k < 64) (n:W .i64) (last:Bool):∃ u,F_ref24_one s i=some u∧F_crack_part s i n last=some { u with Part:=n,Last:=last }∧u.Part=W.of .i64 0∧u.Last=true:=by
 have ok:=op_ok hk
 have hlt:=ok.lt
 have hpos:=ok.pos
 have row:=all_lt unit_all hk
 unfold unitRow at row
 simp only [Bool.and_eq_true,decide_eq_true_eq,Bool.or_eq_true,Bool.not_eq_true',decide_eq_false_iff_not] at row
 obtain ⟨⟨⟨⟨u1,u2⟩,s1⟩,s2⟩,f24⟩:=row
 have e:∀ j:Nat,j≤1000→W.eq (wi (formN k)) (W.of .i64 (j:Int))=decide (formN k=j):=fun j hj=>eq_small (by omega) hj
 have e24:W.eq (wi k) (W.of .i64 24)=decide (k=24):=eq_small (b:=24) (by omega) (by omega)
 have q1:W.eq (wi (formN k)) (W.of .i64 1)=decide (formN k=1):=e 1 (by omega)
 have q2:W.eq (wi (formN k)) (W.of .i64 2)=decide (formN k=2):=e 2 (by omega)
 have q3:W.eq (wi (formN k)) (W.of .i64 3)=decide (formN k=3):=e 3 (by omega)
 have q4:W.eq (wi (formN k)) (W.of .i64 4)=decide (formN k=4):=e 4 (by omega)
 have q5:W.eq (wi (formN k)) (W.of .i64 5)=decide (formN k=5):=e 5 (by omega)
 have q6:W.eq (wi (formN k)) (W.of .i64 6)=decide (formN k=6):=e 6 (by omega)
 have q7:W.eq (wi (formN k)) (W.of .i64 7)=decide (formN k=7):=e 7 (by omega)
 have q11:W.eq (wi (formN k)) (W.of .i64 11)=decide (formN k=11):=e 11 (by omega)
 unfold F_ref24_one T_ref24_one F_crack_part T_crack_part F_crack_sources T_crack_sources F_crack_target T_crack_target F_crack_none T_crack_none F_ref24_none T_ref24_none
 simp only [ev_opt,ev_ite,ev_ret,bind_some',hi,u1,u2,s1,s2,ok.form,ok.rform,q1,q2,q3,q4,q5,q6,q7,q11,e24,reg_p,reg_d24]
 have hc:formN k=1∨formN k=2∨formN k=3∨formN k=4∨formN k=5∨formN k=6∨formN k=7∨formN k=8∨formN k=9∨formN k=10∨formN k=11:=by omega
 generalize serK k=ser
 have h24:¬ formN k=1→¬ k=24:=fun h h'=>by rcases f24 with f | f;exact f h';exact h f
 cases ser with
 | true=>
  rcases hc with h | h | h | h | h | h | h | h | h | h | h <;>
  ·simp only [h,Nat.reduceEqDiff,decide_true,decide_false,Bool.not_true,if_true,Bool.false_eq_true,if_false,bind_some',regG_false]
   exact ⟨_,rfl,rfl,rfl,rfl⟩
 | false=>
  by_cases h1:formN k=1
  ·by_cases c:k=24
   ·simp only [h1,c,Nat.reduceEqDiff,decide_true,decide_false,Bool.not_false,if_true,Bool.false_eq_true,if_false,bind_some',regG_false]
    exact ⟨_,rfl,rfl,rfl,rfl⟩
   ·simp only [h1,c,Nat.reduceEqDiff,decide_true,decide_false,Bool.not_false,if_true,Bool.false_eq_true,if_false,bind_some',regG_false]
    exact ⟨_,rfl,rfl,rfl,rfl⟩
  ·have c:=h24 h1
   rcases hc with h | h | h | h | h | h | h | h | h | h | h
   ·exact (h1 h).elim
   all_goals
    simp only [h,c,Nat.reduceEqDiff,decide_true,decide_false,Bool.not_false,if_true,Bool.false_eq_true,if_false,bind_some',regG_false]
    exact ⟨_,rfl,rfl,rfl,rfl⟩
end Go.Proofs.YtkddkpmijhionaaGreatDoor
