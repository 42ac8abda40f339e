/- YtnpgljilkkipkaaGreatHas: is there one in a slice? No statement of the seat is proved here. -/
import Derived.Test.YtnpgljilkkipkaaGreatTrees
import Derived.Test.YtnpgljilkkipkaaGreatA2F
set_option linter.unusedSimpArgs false
set_option linter.unusedVariables false
set_option maxRecDepth 100000
namespace Go.Proofs.YtnpgljilkkipkaaGreat
open Go Go.A2
theorem ZS (s:Sl 248 (TRob)) (fc0:TRen) (p:TRob→Bool) (hp:∀ y1∈s.l,ma y1 fc0=some (p y1)) (hs:s.l.length < aa):tz s fc0=some (s.l.any p):=by
 have hroom:=s.h.2
 have key:(ny (s,((),(fc0,())),(Sl.len s),(W.of .i64 0),())=some (.inr ((),()))∧∀ (i:Nat) x,s.l[i]?=some x→(!p x)=true)∨∃ i,ny (s,((),(fc0,())),(Sl.len s),(W.of .i64 0),())=some (.inl (wi i,()))∧∃ x,s.l[i]?=some x∧(!p x)=false:=by
  unfold ny
  refine yr (fun i=>(s,((),(fc0,())),(Sl.len s),wi i,())) s.l (fun _ x=>!p x) (fun i=>(Sum.inl (wi i,()):(W .i64×Unit)⊕(Unit×Unit))) (Sum.inr ((),())) (fun i x hi=>?_) ?_ hs
  ·have hil:=(List.getElem?_eq_some_iff.1 hi).1
   simp only [sd,ak,an,ae,Sl.len_wi]
   rw [br (by omega) hroom,if_pos (by simpa using hil),jQ s (by omega),hi]
   simp only [aj,hp x (List.mem_of_getElem? hi),dc (show i < aw by omega)]
   cases p x<;>rfl
  ·simp only [sd,ak,ae,Sl.len_wi]
   rw [br hroom hroom,if_neg (by simp)]
 unfold tz FA AR FK
 rcases key with ⟨h1,h2⟩ | ⟨i,h1,x,h2,h3⟩
 ·have:s.l.any p=false:=by
   rw [List.any_eq_false]
   intro x hx hpx
   obtain ⟨i,hi,rfl⟩:=List.mem_iff_getElem.1 hx
   have:=h2 i _ (List.getElem?_eq_getElem hi)
   rw [hpx] at this;cases this
  simp only [an,h1,aj,aL,ae,Sum.elim_inr,this]
  rfl
 ·have hil:=(List.getElem?_eq_some_iff.1 h2).1
  have:s.l.any p=true:=List.any_eq_true.2 ⟨x,List.mem_of_getElem? h2,by simpa using h3⟩
  simp only [an,h1,aj,aL,ae,Sum.elim_inl,this]
  congr 1
  rw [W.ge_n,aP (by omega)]
  show (0:Int)≤i
  omega
theorem ZQ (s:Sl 216 (TRen)) (fc0:TRen) (p:TRen→Bool) (hp:∀ y1∈s.l,Aw y1 fc0=some (p y1)) (hs:s.l.length < aa):tw s fc0=some (s.l.any p):=by
 have hroom:=s.h.2
 have key:(nv (s,((),(fc0,())),(Sl.len s),(W.of .i64 0),())=some (.inr ((),()))∧∀ (i:Nat) x,s.l[i]?=some x→(!p x)=true)∨∃ i,nv (s,((),(fc0,())),(Sl.len s),(W.of .i64 0),())=some (.inl (wi i,()))∧∃ x,s.l[i]?=some x∧(!p x)=false:=by
  unfold nv
  refine yr (fun i=>(s,((),(fc0,())),(Sl.len s),wi i,())) s.l (fun _ x=>!p x) (fun i=>(Sum.inl (wi i,()):(W .i64×Unit)⊕(Unit×Unit))) (Sum.inr ((),())) (fun i x hi=>?_) ?_ hs
  ·have hil:=(List.getElem?_eq_some_iff.1 hi).1
   simp only [sa,ak,an,ae,Sl.len_wi]
   rw [br (by omega) hroom,if_pos (by simpa using hil),jQ s (by omega),hi]
   simp only [aj,hp x (List.mem_of_getElem? hi),dc (show i < aw by omega)]
   cases p x<;>rfl
  ·simp only [sa,ak,ae,Sl.len_wi]
   rw [br hroom hroom,if_neg (by simp)]
 unfold tw Fx AP FI
 rcases key with ⟨h1,h2⟩ | ⟨i,h1,x,h2,h3⟩
 ·have:s.l.any p=false:=by
   rw [List.any_eq_false]
   intro x hx hpx
   obtain ⟨i,hi,rfl⟩:=List.mem_iff_getElem.1 hx
   have:=h2 i _ (List.getElem?_eq_getElem hi)
   rw [hpx] at this;cases this
  simp only [an,h1,aj,aL,ae,Sum.elim_inr,this]
  rfl
 ·have hil:=(List.getElem?_eq_some_iff.1 h2).1
  have:s.l.any p=true:=List.any_eq_true.2 ⟨x,List.mem_of_getElem? h2,by simpa using h3⟩
  simp only [an,h1,aj,aL,ae,Sum.elim_inl,this]
  congr 1
  rw [W.ge_n,aP (by omega)]
  show (0:Int)≤i
  omega
theorem ZP (s fc0:Sl 216 (TRen)) (p:TRen→Bool) (hp:∀ y1∈s.l,lU y1 fc0=some (p y1)) (hs:s.l.length < aa):tv s fc0=some (s.l.any p):=by
 have hroom:=s.h.2
 have key:(nw (s,((),(fc0,())),(Sl.len s),(W.of .i64 0),())=some (.inr ((),()))∧∀ (i:Nat) x,s.l[i]?=some x→(!p x)=true)∨∃ i,nw (s,((),(fc0,())),(Sl.len s),(W.of .i64 0),())=some (.inl (wi i,()))∧∃ x,s.l[i]?=some x∧(!p x)=false:=by
  unfold nw
  refine yr (fun i=>(s,((),(fc0,())),(Sl.len s),wi i,())) s.l (fun _ x=>!p x) (fun i=>(Sum.inl (wi i,()):(W .i64×Unit)⊕(Unit×Unit))) (Sum.inr ((),())) (fun i x hi=>?_) ?_ hs
  ·have hil:=(List.getElem?_eq_some_iff.1 hi).1
   simp only [sb,ak,an,ae,Sl.len_wi]
   rw [br (by omega) hroom,if_pos (by simpa using hil),jQ s (by omega),hi]
   simp only [aj,hp x (List.mem_of_getElem? hi),dc (show i < aw by omega)]
   cases p x<;>rfl
  ·simp only [sb,ak,ae,Sl.len_wi]
   rw [br hroom hroom,if_neg (by simp)]
 unfold tv Fw AO FH
 rcases key with ⟨h1,h2⟩ | ⟨i,h1,x,h2,h3⟩
 ·have:s.l.any p=false:=by
   rw [List.any_eq_false]
   intro x hx hpx
   obtain ⟨i,hi,rfl⟩:=List.mem_iff_getElem.1 hx
   have:=h2 i _ (List.getElem?_eq_getElem hi)
   rw [hpx] at this;cases this
  simp only [an,h1,aj,aL,ae,Sum.elim_inr,this]
  rfl
 ·have hil:=(List.getElem?_eq_some_iff.1 h2).1
  have:s.l.any p=true:=List.any_eq_true.2 ⟨x,List.mem_of_getElem? h2,by simpa using h3⟩
  simp only [an,h1,aj,aL,ae,Sum.elim_inl,this]
  congr 1
  rw [W.ge_n,aP (by omega)]
  show (0:Int)≤i
  omega
theorem ZR (s:Sl 248 (TRob)) (fc0:TCore) (p:TRob→Bool) (hp:∀ y1∈s.l,l9 y1 fc0=some (p y1)) (hs:s.l.length < aa):tx s fc0=some (s.l.any p):=by
 have hroom:=s.h.2
 have key:(nx (s,((),(fc0,())),(Sl.len s),(W.of .i64 0),())=some (.inr ((),()))∧∀ (i:Nat) x,s.l[i]?=some x→(!p x)=true)∨∃ i,nx (s,((),(fc0,())),(Sl.len s),(W.of .i64 0),())=some (.inl (wi i,()))∧∃ x,s.l[i]?=some x∧(!p x)=false:=by
  unfold nx
  refine yr (fun i=>(s,((),(fc0,())),(Sl.len s),wi i,())) s.l (fun _ x=>!p x) (fun i=>(Sum.inl (wi i,()):(W .i64×Unit)⊕(Unit×Unit))) (Sum.inr ((),())) (fun i x hi=>?_) ?_ hs
  ·have hil:=(List.getElem?_eq_some_iff.1 hi).1
   simp only [sc,ak,an,ae,Sl.len_wi]
   rw [br (by omega) hroom,if_pos (by simpa using hil),jQ s (by omega),hi]
   simp only [aj,hp x (List.mem_of_getElem? hi),dc (show i < aw by omega)]
   cases p x<;>rfl
  ·simp only [sc,ak,ae,Sl.len_wi]
   rw [br hroom hroom,if_neg (by simp)]
 unfold tx Fy AQ FJ
 rcases key with ⟨h1,h2⟩ | ⟨i,h1,x,h2,h3⟩
 ·have:s.l.any p=false:=by
   rw [List.any_eq_false]
   intro x hx hpx
   obtain ⟨i,hi,rfl⟩:=List.mem_iff_getElem.1 hx
   have:=h2 i _ (List.getElem?_eq_getElem hi)
   rw [hpx] at this;cases this
  simp only [an,h1,aj,aL,ae,Sum.elim_inr,this]
  rfl
 ·have hil:=(List.getElem?_eq_some_iff.1 h2).1
  have:s.l.any p=true:=List.any_eq_true.2 ⟨x,List.mem_of_getElem? h2,by simpa using h3⟩
  simp only [an,h1,aj,aL,ae,Sum.elim_inl,this]
  congr 1
  rw [W.ge_n,aP (by omega)]
  show (0:Int)≤i
  omega
end Go.Proofs.YtnpgljilkkipkaaGreat
