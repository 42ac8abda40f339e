/- YtnpgljilkkipkaaGreatClean: control registers with no bits but theirs. No statement of the seat is proved here. -/
import Derived.Test.YtnpgljilkkipkaaGreatTrees
import Derived.Test.YtnpgljilkkipkaaGreatA2F
set_option linter.unusedSimpArgs false
set_option linter.unusedVariables false
set_option maxRecDepth 100000
namespace Go.Proofs.YtnpgljilkkipkaaGreat
open Go Go.A2
noncomputable def pL (n:Nat):W .u32:=(mb (wi n)).getD (W.of .u32 0)
theorem P3 {n:Nat} (h:n < 12):mb (wi n)=some (pL n)∧ml (wi n)=some (pL n):=by
 have:=hM (p:=fun n=>decide (mb (wi n)=some (pL n))&&decide (ml (wi n)=some (pL n))) (n:=12) (by kernel_rfl) h
 simpa using this
noncomputable def badC (n:Nat) (x:W .u32):Bool:=W.ne (W.andNot x (pL n)) (W.of .u32 0)
def kS (a:TArch):Prop:=∀ (i:Nat) (x:W .u32),a.C.l[i]?=some x→badC i x=false
theorem GQ {n m:Nat} (h:n≤m) (hm:m≤1000:=by omega):n≤aw:=by unfold aw;omega
theorem SF (a:TArch):(ko (a,a.C,W.of .i64 0,())=some (.inl (a,false,()))∧¬ kS a)∨(ko (a,a.C,W.of .i64 0,())=some (.inr (a,(),()))∧kS a):=by
 have hlen:=a.C.h
 have key:ko (a,a.C,W.of .i64 0,())=runL (fun n x (_:Unit)=>some (if badC n x then .inr (.inl (a,false,())) else .inl ())) (fun _=>some (.inr (a,(),()))) 0 a.C.l ():=by
  unfold ko
  refine yu (n:=0) (fun n (_:Unit)=>(a,a.C,wi n,())) _ _ (fun i x _ hi=>?_) (fun _=>?_) (by rw [hlen];decide)
  ·have hil:=(List.getElem?_eq_some_iff.1 hi).1
   have ju:i < 12:=by rw [hlen] at hil;exact hil
   simp only [Nat.zero_add]
   simp only [qE,ak,an,ae]
   rw [show W.lt (wi i) (W.of .i64 12)=true from (br (GQ (Nat.le_of_lt ju)) (GQ (Nat.le_refl 12))).trans (by simpa using ju),if_pos rfl,dJ (GQ (Nat.le_of_lt ju)),if_pos ju]
   simp only [aj,(P3 ju).1,dc (show i < aw by unfold aw;omega)]
   have hx:a.C.get i=x:=by simp [Arr.get,List.getD_eq_getElem?_getD,hi]
   rw [hx]
   show (if badC i x=true then _ else _)=_
   cases badC i x<;>rfl
  ·simp only [Nat.zero_add,hlen]
   simp only [qE,ak,ae]
   rw [show W.lt (wi 12) (W.of .i64 12)=false from rfl]
   rfl
 obtain ⟨r,h1,h2⟩:=H9 badC (fun _=>Sum.inl (a,false,())) (Sum.inr (a,(),()):(TArch×Bool×Unit)⊕(TArch×Unit×Unit)) a.C.l 0
 rw [key]
 rcases h2 with ⟨i,x,h3,h4,rfl⟩ | ⟨h3,rfl⟩
 ·refine .inl ⟨h1,fun hc=>?_⟩
  rw [Nat.zero_add] at h4
  rw [hc i x h3] at h4;cases h4
 ·exact .inr ⟨h1,fun i x hi=>by have:=h3 i x hi;rwa [Nat.zero_add] at this⟩
theorem SW (a:TArch):∃ b,lV a=some b∧(b=true ↔ kS a∧W.eq (a.R.get 0) (W.of .u32 0)=true):=by
 unfold lV DW
 simp only [an,aL,ae]
 rcases SF a with ⟨h1,h2⟩ | ⟨h1,h2⟩
 ·rw [h1];exact ⟨false,rfl,by simp [h2]⟩
 ·rw [h1];exact ⟨_,rfl,by simp [h2]⟩
end Go.Proofs.YtnpgljilkkipkaaGreat
