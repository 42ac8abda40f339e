/- YtnpgljilkkipkaaGreatHas: is there one in a slice? No statement of the seat is proved here. -/
import Derived.Test.YtnpgljilkkipkaaGreatTrees
import Derived.Test.YtnpgljilkkipkaaGreatA2F
set_option linter.unusedSimpArgs false
set_option linter.unusedVariables false
set_option maxRecDepth 100000
namespace Go.Proofs.YtnpgljilkkipkaaGreat
open Go Go.A2
theorem ZY (s:Sl 248 (TRob)) (fc0:TRen) (p:TRob→Bool) (hp:∀ y1∈s.l,mf y1 fc0=some (p y1)) (hs:s.l.length < aa):tM s fc0=some (s.l.any p):=by
 have hroom:=s.h.2
 have key:(nH (s,((),(fc0,())),(Sl.len s),(W.of .i64 0),())=some (.inr ((),()))∧∀ (i:Nat) x,s.l[i]?=some x→(!p x)=true)∨∃ i,nH (s,((),(fc0,())),(Sl.len s),(W.of .i64 0),())=some (.inl (wi i,()))∧∃ x,s.l[i]?=some x∧(!p x)=false:=by
  unfold nH
  refine yD (fun i=>(s,((),(fc0,())),(Sl.len s),wi i,())) s.l (fun _ x=>!p x) (fun i=>(Sum.inl (wi i,()):(W .i64×Unit)⊕(Unit×Unit))) (Sum.inr ((),())) (fun i x hi=>?_) ?_ hs
  ·have hil:=(List.getElem?_eq_some_iff.1 hi).1
   simp only [sv,ak,an,ae,Sl.len_wi]
   rw [br (by omega) hroom,if_pos (by simpa using hil),jR s (by omega),hi]
   simp only [aj,hp x (List.mem_of_getElem? hi),dc (show i < aw by omega)]
   cases p x<;>rfl
  ·simp only [sv,ak,ae,Sl.len_wi]
   rw [br hroom hroom,if_neg (by simp)]
 unfold tM FM A6 FX
 rcases key with ⟨h1,h2⟩ | ⟨i,h1,x,h2,h3⟩
 ·have:s.l.any p=false:=by
   rw [List.any_eq_false]
   intro x hx hpx
   obtain ⟨i,hi,rfl⟩:=List.mem_iff_getElem.1 hx
   have:=h2 i _ (List.getElem?_eq_getElem hi)
   rw [hpx] at this;cases this
  simp only [an,h1,aj,aM,ae,Sum.elim_inr,this]
  rfl
 ·have hil:=(List.getElem?_eq_some_iff.1 h2).1
  have:s.l.any p=true:=List.any_eq_true.2 ⟨x,List.mem_of_getElem? h2,by simpa using h3⟩
  simp only [an,h1,aj,aM,ae,Sum.elim_inl,this]
  congr 1
  rw [W.ge_n,aQ (by omega)]
  show (0:Int)≤i
  omega
theorem ZW (s:Sl 216 (TRen)) (fc0:TRen) (p:TRen→Bool) (hp:∀ y1∈s.l,AH y1 fc0=some (p y1)) (hs:s.l.length < aa):tK s fc0=some (s.l.any p):=by
 have hroom:=s.h.2
 have key:(nD (s,((),(fc0,())),(Sl.len s),(W.of .i64 0),())=some (.inr ((),()))∧∀ (i:Nat) x,s.l[i]?=some x→(!p x)=true)∨∃ i,nD (s,((),(fc0,())),(Sl.len s),(W.of .i64 0),())=some (.inl (wi i,()))∧∃ x,s.l[i]?=some x∧(!p x)=false:=by
  unfold nD
  refine yD (fun i=>(s,((),(fc0,())),(Sl.len s),wi i,())) s.l (fun _ x=>!p x) (fun i=>(Sum.inl (wi i,()):(W .i64×Unit)⊕(Unit×Unit))) (Sum.inr ((),())) (fun i x hi=>?_) ?_ hs
  ·have hil:=(List.getElem?_eq_some_iff.1 hi).1
   simp only [sr,ak,an,ae,Sl.len_wi]
   rw [br (by omega) hroom,if_pos (by simpa using hil),jR s (by omega),hi]
   simp only [aj,hp x (List.mem_of_getElem? hi),dc (show i < aw by omega)]
   cases p x<;>rfl
  ·simp only [sr,ak,ae,Sl.len_wi]
   rw [br hroom hroom,if_neg (by simp)]
 unfold tK FK A4 FV
 rcases key with ⟨h1,h2⟩ | ⟨i,h1,x,h2,h3⟩
 ·have:s.l.any p=false:=by
   rw [List.any_eq_false]
   intro x hx hpx
   obtain ⟨i,hi,rfl⟩:=List.mem_iff_getElem.1 hx
   have:=h2 i _ (List.getElem?_eq_getElem hi)
   rw [hpx] at this;cases this
  simp only [an,h1,aj,aM,ae,Sum.elim_inr,this]
  rfl
 ·have hil:=(List.getElem?_eq_some_iff.1 h2).1
  have:s.l.any p=true:=List.any_eq_true.2 ⟨x,List.mem_of_getElem? h2,by simpa using h3⟩
  simp only [an,h1,aj,aM,ae,Sum.elim_inl,this]
  congr 1
  rw [W.ge_n,aQ (by omega)]
  show (0:Int)≤i
  omega
theorem ZV (s fc0:Sl 216 (TRen)) (p:TRen→Bool) (hp:∀ y1∈s.l,lZ y1 fc0=some (p y1)) (hs:s.l.length < aa):tJ s fc0=some (s.l.any p):=by
 have hroom:=s.h.2
 have key:(nF (s,((),(fc0,())),(Sl.len s),(W.of .i64 0),())=some (.inr ((),()))∧∀ (i:Nat) x,s.l[i]?=some x→(!p x)=true)∨∃ i,nF (s,((),(fc0,())),(Sl.len s),(W.of .i64 0),())=some (.inl (wi i,()))∧∃ x,s.l[i]?=some x∧(!p x)=false:=by
  unfold nF
  refine yD (fun i=>(s,((),(fc0,())),(Sl.len s),wi i,())) s.l (fun _ x=>!p x) (fun i=>(Sum.inl (wi i,()):(W .i64×Unit)⊕(Unit×Unit))) (Sum.inr ((),())) (fun i x hi=>?_) ?_ hs
  ·have hil:=(List.getElem?_eq_some_iff.1 hi).1
   simp only [ss,ak,an,ae,Sl.len_wi]
   rw [br (by omega) hroom,if_pos (by simpa using hil),jR s (by omega),hi]
   simp only [aj,hp x (List.mem_of_getElem? hi),dc (show i < aw by omega)]
   cases p x<;>rfl
  ·simp only [ss,ak,ae,Sl.len_wi]
   rw [br hroom hroom,if_neg (by simp)]
 unfold tJ FJ A3 FU
 rcases key with ⟨h1,h2⟩ | ⟨i,h1,x,h2,h3⟩
 ·have:s.l.any p=false:=by
   rw [List.any_eq_false]
   intro x hx hpx
   obtain ⟨i,hi,rfl⟩:=List.mem_iff_getElem.1 hx
   have:=h2 i _ (List.getElem?_eq_getElem hi)
   rw [hpx] at this;cases this
  simp only [an,h1,aj,aM,ae,Sum.elim_inr,this]
  rfl
 ·have hil:=(List.getElem?_eq_some_iff.1 h2).1
  have:s.l.any p=true:=List.any_eq_true.2 ⟨x,List.mem_of_getElem? h2,by simpa using h3⟩
  simp only [an,h1,aj,aM,ae,Sum.elim_inl,this]
  congr 1
  rw [W.ge_n,aQ (by omega)]
  show (0:Int)≤i
  omega
theorem ZX (s:Sl 248 (TRob)) (fc0:TCore) (p:TRob→Bool) (hp:∀ y1∈s.l,me y1 fc0=some (p y1)) (hs:s.l.length < aa):tL s fc0=some (s.l.any p):=by
 have hroom:=s.h.2
 have key:(nG (s,((),(fc0,())),(Sl.len s),(W.of .i64 0),())=some (.inr ((),()))∧∀ (i:Nat) x,s.l[i]?=some x→(!p x)=true)∨∃ i,nG (s,((),(fc0,())),(Sl.len s),(W.of .i64 0),())=some (.inl (wi i,()))∧∃ x,s.l[i]?=some x∧(!p x)=false:=by
  unfold nG
  refine yD (fun i=>(s,((),(fc0,())),(Sl.len s),wi i,())) s.l (fun _ x=>!p x) (fun i=>(Sum.inl (wi i,()):(W .i64×Unit)⊕(Unit×Unit))) (Sum.inr ((),())) (fun i x hi=>?_) ?_ hs
  ·have hil:=(List.getElem?_eq_some_iff.1 hi).1
   simp only [su,ak,an,ae,Sl.len_wi]
   rw [br (by omega) hroom,if_pos (by simpa using hil),jR s (by omega),hi]
   simp only [aj,hp x (List.mem_of_getElem? hi),dc (show i < aw by omega)]
   cases p x<;>rfl
  ·simp only [su,ak,ae,Sl.len_wi]
   rw [br hroom hroom,if_neg (by simp)]
 unfold tL FL A5 FW
 rcases key with ⟨h1,h2⟩ | ⟨i,h1,x,h2,h3⟩
 ·have:s.l.any p=false:=by
   rw [List.any_eq_false]
   intro x hx hpx
   obtain ⟨i,hi,rfl⟩:=List.mem_iff_getElem.1 hx
   have:=h2 i _ (List.getElem?_eq_getElem hi)
   rw [hpx] at this;cases this
  simp only [an,h1,aj,aM,ae,Sum.elim_inr,this]
  rfl
 ·have hil:=(List.getElem?_eq_some_iff.1 h2).1
  have:s.l.any p=true:=List.any_eq_true.2 ⟨x,List.mem_of_getElem? h2,by simpa using h3⟩
  simp only [an,h1,aj,aM,ae,Sum.elim_inl,this]
  congr 1
  rw [W.ge_n,aQ (by omega)]
  show (0:Int)≤i
  omega
end Go.Proofs.YtnpgljilkkipkaaGreat
