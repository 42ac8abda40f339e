/- YtkddkpmijhionaaGreatDoorSame: slices compared with themselves. No statement of the seat is proved here. -/
import Derived.Test.YtkddkpmijhionaaGreatDoorTrees2
import Derived.Test.YtkddkpmijhionaaGreatDoorA2F
set_option linter.unusedSimpArgs false
set_option linter.unusedVariables false
set_option maxRecDepth 100000
namespace Go.Proofs.YtkddkpmijhionaaGreatDoor
open Go Go.A2
theorem lt_self {n:Nat} (h:n≤room):W.lt (wi n) (wi n)=false:=by rw [wi_lt h h];simp
theorem self_same_Sbs (a:Sl 16 (TSb)) (h:a.l.length < fuel):F_same_Sbs a a=some true:=by
 have hr:=a.h.2
 have key:L_same_Sbs_11 (a,a,W.of .i64 0,())=some (.inr ((),())):=by
  unfold L_same_Sbs_11
  refine iter_count (fun i=>(a,a,wi i,())) _ (n:=a.l.length) (fun i hi=>?_) ?_ (k:=0) (Nat.zero_le _) (by omega)
  ·simp only [B_same_Sbs_11,ev_ite,ev_opt,ev_ret,Sl.len_wi]
   obtain ⟨y,hy⟩:∃ y,a.l[i]?=some y:=⟨_,List.getElem?_eq_getElem hi⟩
   rw [wi_lt (by omega) hr,wi_get a (by omega),hy,wi_add (by omega)]
   simp only [hi,decide_true,if_true,bind_some',show Tab.eq tab (.named .TSb) y y=true from (eq_iff (X:=tab) tabOk (by rfl)).2 rfl,Bool.not_true]
   rfl
  ·simp only [B_same_Sbs_11,ev_ite,ev_ret,Sl.len_wi,lt_self hr]
   rfl
 unfold F_same_Sbs T_same_Sbs
 rw [ev_ite,W.ne_self]
 simp only [ev_opt,key,bind_some',ev_sum,ev_ret]
 rfl
theorem self_same_Flights (a:Sl 256 (TFlight)) (h:a.l.length < fuel):F_same_Flights a a=some true:=by
 have hr:=a.h.2
 have key:L_same_Flights_11 (a,a,W.of .i64 0,())=some (.inr ((),())):=by
  unfold L_same_Flights_11
  refine iter_count (fun i=>(a,a,wi i,())) _ (n:=a.l.length) (fun i hi=>?_) ?_ (k:=0) (Nat.zero_le _) (by omega)
  ·simp only [B_same_Flights_11,ev_ite,ev_opt,ev_ret,Sl.len_wi]
   obtain ⟨y,hy⟩:∃ y,a.l[i]?=some y:=⟨_,List.getElem?_eq_getElem hi⟩
   rw [wi_lt (by omega) hr,wi_get a (by omega),hy,wi_add (by omega)]
   simp only [hi,decide_true,if_true,bind_some',show Tab.eq tab (.named .TFlight) y y=true from (eq_iff (X:=tab) tabOk (by rfl)).2 rfl,Bool.not_true]
   rfl
  ·simp only [B_same_Flights_11,ev_ite,ev_ret,Sl.len_wi,lt_self hr]
   rfl
 unfold F_same_Flights T_same_Flights
 rw [ev_ite,W.ne_self]
 simp only [ev_opt,key,bind_some',ev_sum,ev_ret]
 rfl
theorem self_same_Bytes (a:Sl 1 (W .u8)) (h:a.l.length < fuel):F_same_Bytes a a=some true:=by
 have hr:=a.h.2
 have key:L_same_Bytes_11 (a,a,W.of .i64 0,())=some (.inr ((),())):=by
  unfold L_same_Bytes_11
  refine iter_count (fun i=>(a,a,wi i,())) _ (n:=a.l.length) (fun i hi=>?_) ?_ (k:=0) (Nat.zero_le _) (by omega)
  ·simp only [B_same_Bytes_11,ev_ite,ev_opt,ev_ret,Sl.len_wi]
   obtain ⟨y,hy⟩:∃ y,a.l[i]?=some y:=⟨_,List.getElem?_eq_getElem hi⟩
   rw [wi_lt (by omega) hr,wi_get a (by omega),hy,wi_add (by omega)]
   simp only [hi,decide_true,if_true,bind_some',W.ne_self]
   rfl
  ·simp only [B_same_Bytes_11,ev_ite,ev_ret,Sl.len_wi,lt_self hr]
   rfl
 unfold F_same_Bytes T_same_Bytes
 rw [ev_ite,W.ne_self]
 simp only [ev_opt,key,bind_some',ev_sum,ev_ret]
 rfl
theorem self_same_Btbs (a:Sl 16 (TBtb)) (h:a.l.length < fuel):F_same_Btbs a a=some true:=by
 have hr:=a.h.2
 have key:L_same_Btbs_11 (a,a,W.of .i64 0,())=some (.inr ((),())):=by
  unfold L_same_Btbs_11
  refine iter_count (fun i=>(a,a,wi i,())) _ (n:=a.l.length) (fun i hi=>?_) ?_ (k:=0) (Nat.zero_le _) (by omega)
  ·simp only [B_same_Btbs_11,ev_ite,ev_opt,ev_ret,Sl.len_wi]
   obtain ⟨y,hy⟩:∃ y,a.l[i]?=some y:=⟨_,List.getElem?_eq_getElem hi⟩
   rw [wi_lt (by omega) hr,wi_get a (by omega),hy,wi_add (by omega)]
   simp only [hi,decide_true,if_true,bind_some',show Tab.eq tab (.named .TBtb) y y=true from (eq_iff (X:=tab) tabOk (by rfl)).2 rfl,Bool.not_true]
   rfl
  ·simp only [B_same_Btbs_11,ev_ite,ev_ret,Sl.len_wi,lt_self hr]
   rfl
 unfold F_same_Btbs T_same_Btbs
 rw [ev_ite,W.ne_self]
 simp only [ev_opt,key,bind_some',ev_sum,ev_ret]
 rfl
theorem self_same_Words (a:Sl 4 (W .u32)) (h:a.l.length < fuel):F_same_Words a a=some true:=by
 have hr:=a.h.2
 have key:L_same_Words_11 (a,a,W.of .i64 0,())=some (.inr ((),())):=by
  unfold L_same_Words_11
  refine iter_count (fun i=>(a,a,wi i,())) _ (n:=a.l.length) (fun i hi=>?_) ?_ (k:=0) (Nat.zero_le _) (by omega)
  ·simp only [B_same_Words_11,ev_ite,ev_opt,ev_ret,Sl.len_wi]
   obtain ⟨y,hy⟩:∃ y,a.l[i]?=some y:=⟨_,List.getElem?_eq_getElem hi⟩
   rw [wi_lt (by omega) hr,wi_get a (by omega),hy,wi_add (by omega)]
   simp only [hi,decide_true,if_true,bind_some',W.ne_self]
   rfl
  ·simp only [B_same_Words_11,ev_ite,ev_ret,Sl.len_wi,lt_self hr]
   rfl
 unfold F_same_Words T_same_Words
 rw [ev_ite,W.ne_self]
 simp only [ev_opt,key,bind_some',ev_sum,ev_ret]
 rfl
end Go.Proofs.YtkddkpmijhionaaGreatDoor
