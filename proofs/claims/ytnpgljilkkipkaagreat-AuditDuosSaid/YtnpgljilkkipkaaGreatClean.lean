/- YtnpgljilkkipkaaGreatClean: control registers with no bits but theirs. No statement of the seat is proved here. -/
import Derived.Test.YtnpgljilkkipkaaGreatTrees
import Derived.Test.YtnpgljilkkipkaaGreatA2F
set_option linter.unusedSimpArgs false
set_option linter.unusedVariables false
set_option maxRecDepth 100000
namespace Go.Proofs.YtnpgljilkkipkaaGreat
open Go Go.A2
noncomputable def pT (n:Nat):W .u32:=(mg (wi n)).getD (W.of .u32 0)
theorem P8 {n:Nat} (h:n < 12):mg (wi n)=some (pT n)∧mu (wi n)=some (pT n):=by
 have:=ib (p:=fun n=>decide (mg (wi n)=some (pT n))&&decide (mu (wi n)=some (pT n))) (n:=12) (by kernel_rfl) h
 simpa using this
noncomputable def badC (n:Nat) (x:W .u32):Bool:=W.ne (W.andNot x (pT n)) (W.of .u32 0)
def kT (a:TArch):Prop:=∀ (i:Nat) (x:W .u32),a.C.l[i]?=some x→badC i x=false
theorem G3 {n m:Nat} (h:n≤m) (hm:m≤1000:=by omega):n≤aw:=by unfold aw;omega
theorem SM (a:TArch):(kp (a,a.C,W.of .i64 0,())=some (.inl (a,false,()))∧¬ kT a)∨(kp (a,a.C,W.of .i64 0,())=some (.inr (a,(),()))∧kT a):=by
 have hlen:=a.C.h
 have key:kp (a,a.C,W.of .i64 0,())=runL (fun n x (_:Unit)=>some (if badC n x then .inr (.inl (a,false,())) else .inl ())) (fun _=>some (.inr (a,(),()))) 0 a.C.l ():=by
  unfold kp
  refine yF (n:=0) (fun n (_:Unit)=>(a,a.C,wi n,())) _ _ (fun i x _ hi=>?_) (fun _=>?_) (by rw [hlen];decide)
  ·have hil:=(List.getElem?_eq_some_iff.1 hi).1
   have jv:i < 12:=by rw [hlen] at hil;exact hil
   simp only [Nat.zero_add]
   simp only [qN,ak,an,ae]
   rw [show W.lt (wi i) (W.of .i64 12)=true from (br (G3 (Nat.le_of_lt jv)) (G3 (Nat.le_refl 12))).trans (by simpa using jv),if_pos rfl,dJ (G3 (Nat.le_of_lt jv)),if_pos jv]
   simp only [aj,(P8 jv).1,dc (show i < aw by unfold aw;omega)]
   have hx:a.C.get i=x:=by simp [Arr.get,List.getD_eq_getElem?_getD,hi]
   rw [hx]
   show (if badC i x=true then _ else _)=_
   cases badC i x<;>rfl
  ·simp only [Nat.zero_add,hlen]
   simp only [qN,ak,ae]
   rw [show W.lt (wi 12) (W.of .i64 12)=false from rfl]
   rfl
 obtain ⟨r,h1,h2⟩:=Ip badC (fun _=>Sum.inl (a,false,())) (Sum.inr (a,(),()):(TArch×Bool×Unit)⊕(TArch×Unit×Unit)) a.C.l 0
 rw [key]
 rcases h2 with ⟨i,x,h3,h4,rfl⟩ | ⟨h3,rfl⟩
 ·refine .inl ⟨h1,fun hc=>?_⟩
  rw [Nat.zero_add] at h4
  rw [hc i x h3] at h4;cases h4
 ·exact .inr ⟨h1,fun i x hi=>by have:=h3 i x hi;rwa [Nat.zero_add] at this⟩
theorem S6 (a:TArch):∃ b,l9 a=some b∧(b=true ↔ kT a∧W.eq (a.R.get 0) (W.of .u32 0)=true):=by
 unfold l9 D9
 simp only [an,aM,ae]
 rcases SM a with ⟨h1,h2⟩ | ⟨h1,h2⟩
 ·rw [h1];exact ⟨false,rfl,by simp [h2]⟩
 ·rw [h1];exact ⟨_,rfl,by simp [h2]⟩
end Go.Proofs.YtnpgljilkkipkaaGreat
