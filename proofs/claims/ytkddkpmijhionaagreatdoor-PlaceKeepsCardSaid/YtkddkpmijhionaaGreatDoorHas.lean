/- YtkddkpmijhionaaGreatDoorHas: is there one in a slice? No statement of the seat is proved here. -/
import Derived.Test.YtkddkpmijhionaaGreatDoorTrees2
import Derived.Test.YtkddkpmijhionaaGreatDoorA2F
set_option linter.unusedSimpArgs false
set_option linter.unusedVariables false
set_option maxRecDepth 100000
namespace Go.Proofs.YtkddkpmijhionaaGreatDoor
open Go Go.A2
theorem has_Rob_of_core_waits_1 (s:Sl 248 (TRob)) (fc0:TRen) (p:TRob→Bool) (hp:∀ y1∈s.l,F_core_waits_1 y1 fc0=some (p y1)) (hs:s.l.length < fuel):F_slices_ContainsFunc_Rob_of_core_waits_1 s fc0=some (s.l.any p):=by
 have hroom:=s.h.2
 have key:(L_slices_IndexFunc_Rob_of_core_waits_1_5 (s,((),(fc0,())),(Sl.len s),(W.of .i64 0),())=some (.inr ((),()))∧∀ (i:Nat) x,s.l[i]?=some x→(!p x)=true)∨∃ i,L_slices_IndexFunc_Rob_of_core_waits_1_5 (s,((),(fc0,())),(Sl.len s),(W.of .i64 0),())=some (.inl (wi i,()))∧∃ x,s.l[i]?=some x∧(!p x)=false:=by
  unfold L_slices_IndexFunc_Rob_of_core_waits_1_5
  refine iter_all (fun i=>(s,((),(fc0,())),(Sl.len s),wi i,())) s.l (fun _ x=>!p x) (fun i=>(Sum.inl (wi i,()):(W .i64×Unit)⊕(Unit×Unit))) (Sum.inr ((),())) (fun i x hi=>?_) ?_ hs
  ·have hil:=(List.getElem?_eq_some_iff.1 hi).1
   simp only [B_slices_IndexFunc_Rob_of_core_waits_1_5,ev_ite,ev_opt,ev_ret,Sl.len_wi]
   rw [wi_lt (by omega) hroom,if_pos (by simpa using hil),wi_get s (by omega),hi]
   simp only [bind_some',hp x (List.mem_of_getElem? hi),wi_add (show i < room by omega)]
   cases p x<;>rfl
  ·simp only [B_slices_IndexFunc_Rob_of_core_waits_1_5,ev_ite,ev_ret,Sl.len_wi]
   rw [wi_lt hroom hroom,if_neg (by simp)]
 unfold F_slices_ContainsFunc_Rob_of_core_waits_1 T_slices_ContainsFunc_Rob_of_core_waits_1 F_slices_IndexFunc_Rob_of_core_waits_1 T_slices_IndexFunc_Rob_of_core_waits_1
 rcases key with ⟨h1,h2⟩ | ⟨i,h1,x,h2,h3⟩
 ·have:s.l.any p=false:=by
   rw [List.any_eq_false]
   intro x hx hpx
   obtain ⟨i,hi,rfl⟩:=List.mem_iff_getElem.1 hx
   have:=h2 i _ (List.getElem?_eq_getElem hi)
   rw [hpx] at this;cases this
  simp only [ev_opt,h1,bind_some',ev_sum,ev_ret,Sum.elim_inr,this]
  rfl
 ·have hil:=(List.getElem?_eq_some_iff.1 h2).1
  have:s.l.any p=true:=List.any_eq_true.2 ⟨x,List.mem_of_getElem? h2,by simpa using h3⟩
  simp only [ev_opt,h1,bind_some',ev_sum,ev_ret,Sum.elim_inl,this]
  congr 1
  rw [W.ge_n,wi_n (by omega)]
  show (0:Int)≤i
  omega
theorem has_Ren_of_core_apart_1_1 (s:Sl 216 (TRen)) (fc0:TRen) (p:TRen→Bool) (hp:∀ y1∈s.l,F_core_apart_1_1 y1 fc0=some (p y1)) (hs:s.l.length < fuel):F_slices_ContainsFunc_Ren_of_core_apart_1_1 s fc0=some (s.l.any p):=by
 have hroom:=s.h.2
 have key:(L_slices_IndexFunc_Ren_of_core_apart_1_1_5 (s,((),(fc0,())),(Sl.len s),(W.of .i64 0),())=some (.inr ((),()))∧∀ (i:Nat) x,s.l[i]?=some x→(!p x)=true)∨∃ i,L_slices_IndexFunc_Ren_of_core_apart_1_1_5 (s,((),(fc0,())),(Sl.len s),(W.of .i64 0),())=some (.inl (wi i,()))∧∃ x,s.l[i]?=some x∧(!p x)=false:=by
  unfold L_slices_IndexFunc_Ren_of_core_apart_1_1_5
  refine iter_all (fun i=>(s,((),(fc0,())),(Sl.len s),wi i,())) s.l (fun _ x=>!p x) (fun i=>(Sum.inl (wi i,()):(W .i64×Unit)⊕(Unit×Unit))) (Sum.inr ((),())) (fun i x hi=>?_) ?_ hs
  ·have hil:=(List.getElem?_eq_some_iff.1 hi).1
   simp only [B_slices_IndexFunc_Ren_of_core_apart_1_1_5,ev_ite,ev_opt,ev_ret,Sl.len_wi]
   rw [wi_lt (by omega) hroom,if_pos (by simpa using hil),wi_get s (by omega),hi]
   simp only [bind_some',hp x (List.mem_of_getElem? hi),wi_add (show i < room by omega)]
   cases p x<;>rfl
  ·simp only [B_slices_IndexFunc_Ren_of_core_apart_1_1_5,ev_ite,ev_ret,Sl.len_wi]
   rw [wi_lt hroom hroom,if_neg (by simp)]
 unfold F_slices_ContainsFunc_Ren_of_core_apart_1_1 T_slices_ContainsFunc_Ren_of_core_apart_1_1 F_slices_IndexFunc_Ren_of_core_apart_1_1 T_slices_IndexFunc_Ren_of_core_apart_1_1
 rcases key with ⟨h1,h2⟩ | ⟨i,h1,x,h2,h3⟩
 ·have:s.l.any p=false:=by
   rw [List.any_eq_false]
   intro x hx hpx
   obtain ⟨i,hi,rfl⟩:=List.mem_iff_getElem.1 hx
   have:=h2 i _ (List.getElem?_eq_getElem hi)
   rw [hpx] at this;cases this
  simp only [ev_opt,h1,bind_some',ev_sum,ev_ret,Sum.elim_inr,this]
  rfl
 ·have hil:=(List.getElem?_eq_some_iff.1 h2).1
  have:s.l.any p=true:=List.any_eq_true.2 ⟨x,List.mem_of_getElem? h2,by simpa using h3⟩
  simp only [ev_opt,h1,bind_some',ev_sum,ev_ret,Sum.elim_inl,this]
  congr 1
  rw [W.ge_n,wi_n (by omega)]
  show (0:Int)≤i
  omega
theorem has_Ren_of_core_apart_1 (s fc0:Sl 216 (TRen)) (p:TRen→Bool) (hp:∀ y1∈s.l,F_core_apart_1 y1 fc0=some (p y1)) (hs:s.l.length < fuel):F_slices_ContainsFunc_Ren_of_core_apart_1 s fc0=some (s.l.any p):=by
 have hroom:=s.h.2
 have key:(L_slices_IndexFunc_Ren_of_core_apart_1_5 (s,((),(fc0,())),(Sl.len s),(W.of .i64 0),())=some (.inr ((),()))∧∀ (i:Nat) x,s.l[i]?=some x→(!p x)=true)∨∃ i,L_slices_IndexFunc_Ren_of_core_apart_1_5 (s,((),(fc0,())),(Sl.len s),(W.of .i64 0),())=some (.inl (wi i,()))∧∃ x,s.l[i]?=some x∧(!p x)=false:=by
  unfold L_slices_IndexFunc_Ren_of_core_apart_1_5
  refine iter_all (fun i=>(s,((),(fc0,())),(Sl.len s),wi i,())) s.l (fun _ x=>!p x) (fun i=>(Sum.inl (wi i,()):(W .i64×Unit)⊕(Unit×Unit))) (Sum.inr ((),())) (fun i x hi=>?_) ?_ hs
  ·have hil:=(List.getElem?_eq_some_iff.1 hi).1
   simp only [B_slices_IndexFunc_Ren_of_core_apart_1_5,ev_ite,ev_opt,ev_ret,Sl.len_wi]
   rw [wi_lt (by omega) hroom,if_pos (by simpa using hil),wi_get s (by omega),hi]
   simp only [bind_some',hp x (List.mem_of_getElem? hi),wi_add (show i < room by omega)]
   cases p x<;>rfl
  ·simp only [B_slices_IndexFunc_Ren_of_core_apart_1_5,ev_ite,ev_ret,Sl.len_wi]
   rw [wi_lt hroom hroom,if_neg (by simp)]
 unfold F_slices_ContainsFunc_Ren_of_core_apart_1 T_slices_ContainsFunc_Ren_of_core_apart_1 F_slices_IndexFunc_Ren_of_core_apart_1 T_slices_IndexFunc_Ren_of_core_apart_1
 rcases key with ⟨h1,h2⟩ | ⟨i,h1,x,h2,h3⟩
 ·have:s.l.any p=false:=by
   rw [List.any_eq_false]
   intro x hx hpx
   obtain ⟨i,hi,rfl⟩:=List.mem_iff_getElem.1 hx
   have:=h2 i _ (List.getElem?_eq_getElem hi)
   rw [hpx] at this;cases this
  simp only [ev_opt,h1,bind_some',ev_sum,ev_ret,Sum.elim_inr,this]
  rfl
 ·have hil:=(List.getElem?_eq_some_iff.1 h2).1
  have:s.l.any p=true:=List.any_eq_true.2 ⟨x,List.mem_of_getElem? h2,by simpa using h3⟩
  simp only [ev_opt,h1,bind_some',ev_sum,ev_ret,Sum.elim_inl,this]
  congr 1
  rw [W.ge_n,wi_n (by omega)]
  show (0:Int)≤i
  omega
theorem has_Rob_of_core_valued_1 (s:Sl 248 (TRob)) (fc0:TCore) (p:TRob→Bool) (hp:∀ y1∈s.l,F_core_valued_1 y1 fc0=some (p y1)) (hs:s.l.length < fuel):F_slices_ContainsFunc_Rob_of_core_valued_1 s fc0=some (s.l.any p):=by
 have hroom:=s.h.2
 have key:(L_slices_IndexFunc_Rob_of_core_valued_1_5 (s,((),(fc0,())),(Sl.len s),(W.of .i64 0),())=some (.inr ((),()))∧∀ (i:Nat) x,s.l[i]?=some x→(!p x)=true)∨∃ i,L_slices_IndexFunc_Rob_of_core_valued_1_5 (s,((),(fc0,())),(Sl.len s),(W.of .i64 0),())=some (.inl (wi i,()))∧∃ x,s.l[i]?=some x∧(!p x)=false:=by
  unfold L_slices_IndexFunc_Rob_of_core_valued_1_5
  refine iter_all (fun i=>(s,((),(fc0,())),(Sl.len s),wi i,())) s.l (fun _ x=>!p x) (fun i=>(Sum.inl (wi i,()):(W .i64×Unit)⊕(Unit×Unit))) (Sum.inr ((),())) (fun i x hi=>?_) ?_ hs
  ·have hil:=(List.getElem?_eq_some_iff.1 hi).1
   simp only [B_slices_IndexFunc_Rob_of_core_valued_1_5,ev_ite,ev_opt,ev_ret,Sl.len_wi]
   rw [wi_lt (by omega) hroom,if_pos (by simpa using hil),wi_get s (by omega),hi]
   simp only [bind_some',hp x (List.mem_of_getElem? hi),wi_add (show i < room by omega)]
   cases p x<;>rfl
  ·simp only [B_slices_IndexFunc_Rob_of_core_valued_1_5,ev_ite,ev_ret,Sl.len_wi]
   rw [wi_lt hroom hroom,if_neg (by simp)]
 unfold F_slices_ContainsFunc_Rob_of_core_valued_1 T_slices_ContainsFunc_Rob_of_core_valued_1 F_slices_IndexFunc_Rob_of_core_valued_1 T_slices_IndexFunc_Rob_of_core_valued_1
 rcases key with ⟨h1,h2⟩ | ⟨i,h1,x,h2,h3⟩
 ·have:s.l.any p=false:=by
   rw [List.any_eq_false]
   intro x hx hpx
   obtain ⟨i,hi,rfl⟩:=List.mem_iff_getElem.1 hx
   have:=h2 i _ (List.getElem?_eq_getElem hi)
   rw [hpx] at this;cases this
  simp only [ev_opt,h1,bind_some',ev_sum,ev_ret,Sum.elim_inr,this]
  rfl
 ·have hil:=(List.getElem?_eq_some_iff.1 h2).1
  have:s.l.any p=true:=List.any_eq_true.2 ⟨x,List.mem_of_getElem? h2,by simpa using h3⟩
  simp only [ev_opt,h1,bind_some',ev_sum,ev_ret,Sum.elim_inl,this]
  congr 1
  rw [W.ge_n,wi_n (by omega)]
  show (0:Int)≤i
  omega
end Go.Proofs.YtkddkpmijhionaaGreatDoor
