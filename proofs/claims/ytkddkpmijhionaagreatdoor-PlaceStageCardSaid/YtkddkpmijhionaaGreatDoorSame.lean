/- YtkddkpmijhionaaGreatDoorSame: slices compared with themselves. No statement of the seat is proved here. -/
import Derived.Test.YtkddkpmijhionaaGreatDoorTrees
import Derived.Test.YtkddkpmijhionaaGreatDoorA2F
set_option linter.unusedSimpArgs false
set_option linter.unusedVariables false
set_option maxRecDepth 100000
namespace Go.Proofs.YtkddkpmijhionaaGreatDoor
open Go Go.A2
theorem lt_self {n:Nat} (h:n≤room):W.lt (wi n) (wi n)=false:=by rw [wi_lt h h];simp
theorem self_same_Bytes (a:Sl 1 (W .u8)) (h:a.l.length < fuel):F_same_Bytes a a=some true:=by
 have hr:=a.h.2
 have key:L_same_Bytes_11 (a,a,W.of .i64 0,())=some (.inr ((),())):=by
  unfold L_same_Bytes_11
  refine iter_count (fun i=>(a,a,wi i,())) _ (n:=a.l.length) (fun i hi=>?_) ?_ (k:=0) (Nat.zero_le _) (by omega)
  ·simp only [B_same_Bytes_11,ev_ite,ev_opt,ev_ret,Sl.len_wi]
   obtain ⟨y,hy⟩:∃ y,a.l[i]?=some y:=⟨_,List.getElem?_eq_getElem hi⟩
   rw [wi_lt (by omega) hr,wi_get a (by omega),hy,wi_add (by omega)]
   simp only [hi,decide_true,if_true,bind_some',W.ne_self]
   rfl
  ·simp only [B_same_Bytes_11,ev_ite,ev_ret,Sl.len_wi,lt_self hr]
   rfl
 unfold F_same_Bytes T_same_Bytes
 rw [ev_ite,W.ne_self]
 simp only [ev_opt,key,bind_some',ev_sum,ev_ret]
 rfl
theorem self_same_Words (a:Sl 4 (W .u32)) (h:a.l.length < fuel):F_same_Words a a=some true:=by
 have hr:=a.h.2
 have key:L_same_Words_11 (a,a,W.of .i64 0,())=some (.inr ((),())):=by
  unfold L_same_Words_11
  refine iter_count (fun i=>(a,a,wi i,())) _ (n:=a.l.length) (fun i hi=>?_) ?_ (k:=0) (Nat.zero_le _) (by omega)
  ·simp only [B_same_Words_11,ev_ite,ev_opt,ev_ret,Sl.len_wi]
   obtain ⟨y,hy⟩:∃ y,a.l[i]?=some y:=⟨_,List.getElem?_eq_getElem hi⟩
   rw [wi_lt (by omega) hr,wi_get a (by omega),hy,wi_add (by omega)]
   simp only [hi,decide_true,if_true,bind_some',W.ne_self]
   rfl
  ·simp only [B_same_Words_11,ev_ite,ev_ret,Sl.len_wi,lt_self hr]
   rfl
 unfold F_same_Words T_same_Words
 rw [ev_ite,W.ne_self]
 simp only [ev_opt,key,bind_some',ev_sum,ev_ret]
 rfl
theorem self_same_Btbs (a:Sl 16 (TBtb)) (h:a.l.length < fuel):F_same_Btbs a a=some true:=by
 have hr:=a.h.2
 have key:L_same_Btbs_11 (a,a,W.of .i64 0,())=some (.inr ((),())):=by
  unfold L_same_Btbs_11
  refine iter_count (fun i=>(a,a,wi i,())) _ (n:=a.l.length) (fun i hi=>?_) ?_ (k:=0) (Nat.zero_le _) (by omega)
  ·simp only [B_same_Btbs_11,ev_ite,ev_opt,ev_ret,Sl.len_wi]
   obtain ⟨y,hy⟩:∃ y,a.l[i]?=some y:=⟨_,List.getElem?_eq_getElem hi⟩
   rw [wi_lt (by omega) hr,wi_get a (by omega),hy,wi_add (by omega)]
   simp only [hi,decide_true,if_true,bind_some',show Tab.eq tab (.named .TBtb) y y=true from (eq_iff (X:=tab) tabOk (by rfl)).2 rfl,Bool.not_true]
   rfl
  ·simp only [B_same_Btbs_11,ev_ite,ev_ret,Sl.len_wi,lt_self hr]
   rfl
 unfold F_same_Btbs T_same_Btbs
 rw [ev_ite,W.ne_self]
 simp only [ev_opt,key,bind_some',ev_sum,ev_ret]
 rfl
theorem self_same_Tlbs (a:Sl 24 (TTlb)) (h:a.l.length < fuel):F_same_Tlbs a a=some true:=by
 have hr:=a.h.2
 have key:L_same_Tlbs_11 (a,a,W.of .i64 0,())=some (.inr ((),())):=by
  unfold L_same_Tlbs_11
  refine iter_count (fun i=>(a,a,wi i,())) _ (n:=a.l.length) (fun i hi=>?_) ?_ (k:=0) (Nat.zero_le _) (by omega)
  ·simp only [B_same_Tlbs_11,ev_ite,ev_opt,ev_ret,Sl.len_wi]
   obtain ⟨y,hy⟩:∃ y,a.l[i]?=some y:=⟨_,List.getElem?_eq_getElem hi⟩
   rw [wi_lt (by omega) hr,wi_get a (by omega),hy,wi_add (by omega)]
   simp only [hi,decide_true,if_true,bind_some',show Tab.eq tab (.named .TTlb) y y=true from (eq_iff (X:=tab) tabOk (by rfl)).2 rfl,Bool.not_true]
   rfl
  ·simp only [B_same_Tlbs_11,ev_ite,ev_ret,Sl.len_wi,lt_self hr]
   rfl
 unfold F_same_Tlbs T_same_Tlbs
 rw [ev_ite,W.ne_self]
 simp only [ev_opt,key,bind_some',ev_sum,ev_ret]
 rfl
theorem self_same_Slots (a:Sl 56 (TSlot)) (h:a.l.length < fuel):F_same_Slots a a=some true:=by
 have hr:=a.h.2
 have key:L_same_Slots_11 (a,a,W.of .i64 0,())=some (.inr ((),())):=by
  unfold L_same_Slots_11
  refine iter_count (fun i=>(a,a,wi i,())) _ (n:=a.l.length) (fun i hi=>?_) ?_ (k:=0) (Nat.zero_le _) (by omega)
  ·simp only [B_same_Slots_11,ev_ite,ev_opt,ev_ret,Sl.len_wi]
   obtain ⟨y,hy⟩:∃ y,a.l[i]?=some y:=⟨_,List.getElem?_eq_getElem hi⟩
   rw [wi_lt (by omega) hr,wi_get a (by omega),hy,wi_add (by omega)]
   simp only [hi,decide_true,if_true,bind_some',show Tab.eq tab (.named .TSlot) y y=true from (eq_iff (X:=tab) tabOk (by rfl)).2 rfl,Bool.not_true]
   rfl
  ·simp only [B_same_Slots_11,ev_ite,ev_ret,Sl.len_wi,lt_self hr]
   rfl
 unfold F_same_Slots T_same_Slots
 rw [ev_ite,W.ne_self]
 simp only [ev_opt,key,bind_some',ev_sum,ev_ret]
 rfl
theorem self_same_Ints (a:Sl 8 (W .i64)) (h:a.l.length < fuel):F_same_Ints a a=some true:=by
 have hr:=a.h.2
 have key:L_same_Ints_11 (a,a,W.of .i64 0,())=some (.inr ((),())):=by
  unfold L_same_Ints_11
  refine iter_count (fun i=>(a,a,wi i,())) _ (n:=a.l.length) (fun i hi=>?_) ?_ (k:=0) (Nat.zero_le _) (by omega)
  ·simp only [B_same_Ints_11,ev_ite,ev_opt,ev_ret,Sl.len_wi]
   obtain ⟨y,hy⟩:∃ y,a.l[i]?=some y:=⟨_,List.getElem?_eq_getElem hi⟩
   rw [wi_lt (by omega) hr,wi_get a (by omega),hy,wi_add (by omega)]
   simp only [hi,decide_true,if_true,bind_some',W.ne_self]
   rfl
  ·simp only [B_same_Ints_11,ev_ite,ev_ret,Sl.len_wi,lt_self hr]
   rfl
 unfold F_same_Ints T_same_Ints
 rw [ev_ite,W.ne_self]
 simp only [ev_opt,key,bind_some',ev_sum,ev_ret]
 rfl
theorem self_same_Bools (a:Sl 1 (Bool)) (h:a.l.length < fuel):F_same_Bools a a=some true:=by
 have hr:=a.h.2
 have key:L_same_Bools_11 (a,a,W.of .i64 0,())=some (.inr ((),())):=by
  unfold L_same_Bools_11
  refine iter_count (fun i=>(a,a,wi i,())) _ (n:=a.l.length) (fun i hi=>?_) ?_ (k:=0) (Nat.zero_le _) (by omega)
  ·simp only [B_same_Bools_11,ev_ite,ev_opt,ev_ret,Sl.len_wi]
   obtain ⟨y,hy⟩:∃ y,a.l[i]?=some y:=⟨_,List.getElem?_eq_getElem hi⟩
   rw [wi_lt (by omega) hr,wi_get a (by omega),hy,wi_add (by omega)]
   simp only [hi,decide_true,if_true,bind_some',beqB_self,Bool.not_true]
   rfl
  ·simp only [B_same_Bools_11,ev_ite,ev_ret,Sl.len_wi,lt_self hr]
   rfl
 unfold F_same_Bools T_same_Bools
 rw [ev_ite,W.ne_self]
 simp only [ev_opt,key,bind_some',ev_sum,ev_ret]
 rfl
theorem self_same_Robs (a:Sl 248 (TRob)) (h:a.l.length < fuel):F_same_Robs a a=some true:=by
 have hr:=a.h.2
 have key:L_same_Robs_11 (a,a,W.of .i64 0,())=some (.inr ((),())):=by
  unfold L_same_Robs_11
  refine iter_count (fun i=>(a,a,wi i,())) _ (n:=a.l.length) (fun i hi=>?_) ?_ (k:=0) (Nat.zero_le _) (by omega)
  ·simp only [B_same_Robs_11,ev_ite,ev_opt,ev_ret,Sl.len_wi]
   obtain ⟨y,hy⟩:∃ y,a.l[i]?=some y:=⟨_,List.getElem?_eq_getElem hi⟩
   rw [wi_lt (by omega) hr,wi_get a (by omega),hy,wi_add (by omega)]
   simp only [hi,decide_true,if_true,bind_some',show Tab.eq tab (.named .TRob) y y=true from (eq_iff (X:=tab) tabOk (by rfl)).2 rfl,Bool.not_true]
   rfl
  ·simp only [B_same_Robs_11,ev_ite,ev_ret,Sl.len_wi,lt_self hr]
   rfl
 unfold F_same_Robs T_same_Robs
 rw [ev_ite,W.ne_self]
 simp only [ev_opt,key,bind_some',ev_sum,ev_ret]
 rfl
theorem self_same_Iqs (a:Sl 224 (TIq)) (h:a.l.length < fuel):F_same_Iqs a a=some true:=by
 have hr:=a.h.2
 have key:L_same_Iqs_11 (a,a,W.of .i64 0,())=some (.inr ((),())):=by
  unfold L_same_Iqs_11
  refine iter_count (fun i=>(a,a,wi i,())) _ (n:=a.l.length) (fun i hi=>?_) ?_ (k:=0) (Nat.zero_le _) (by omega)
  ·simp only [B_same_Iqs_11,ev_ite,ev_opt,ev_ret,Sl.len_wi]
   obtain ⟨y,hy⟩:∃ y,a.l[i]?=some y:=⟨_,List.getElem?_eq_getElem hi⟩
   rw [wi_lt (by omega) hr,wi_get a (by omega),hy,wi_add (by omega)]
   simp only [hi,decide_true,if_true,bind_some',show Tab.eq tab (.named .TIq) y y=true from (eq_iff (X:=tab) tabOk (by rfl)).2 rfl,Bool.not_true]
   rfl
  ·simp only [B_same_Iqs_11,ev_ite,ev_ret,Sl.len_wi,lt_self hr]
   rfl
 unfold F_same_Iqs T_same_Iqs
 rw [ev_ite,W.ne_self]
 simp only [ev_opt,key,bind_some',ev_sum,ev_ret]
 rfl
theorem self_same_Lqs (a:Sl 48 (TLq)) (h:a.l.length < fuel):F_same_Lqs a a=some true:=by
 have hr:=a.h.2
 have key:L_same_Lqs_11 (a,a,W.of .i64 0,())=some (.inr ((),())):=by
  unfold L_same_Lqs_11
  refine iter_count (fun i=>(a,a,wi i,())) _ (n:=a.l.length) (fun i hi=>?_) ?_ (k:=0) (Nat.zero_le _) (by omega)
  ·simp only [B_same_Lqs_11,ev_ite,ev_opt,ev_ret,Sl.len_wi]
   obtain ⟨y,hy⟩:∃ y,a.l[i]?=some y:=⟨_,List.getElem?_eq_getElem hi⟩
   rw [wi_lt (by omega) hr,wi_get a (by omega),hy,wi_add (by omega)]
   simp only [hi,decide_true,if_true,bind_some',show Tab.eq tab (.named .TLq) y y=true from (eq_iff (X:=tab) tabOk (by rfl)).2 rfl,Bool.not_true]
   rfl
  ·simp only [B_same_Lqs_11,ev_ite,ev_ret,Sl.len_wi,lt_self hr]
   rfl
 unfold F_same_Lqs T_same_Lqs
 rw [ev_ite,W.ne_self]
 simp only [ev_opt,key,bind_some',ev_sum,ev_ret]
 rfl
theorem self_same_Sqs (a:Sl 32 (TSq)) (h:a.l.length < fuel):F_same_Sqs a a=some true:=by
 have hr:=a.h.2
 have key:L_same_Sqs_11 (a,a,W.of .i64 0,())=some (.inr ((),())):=by
  unfold L_same_Sqs_11
  refine iter_count (fun i=>(a,a,wi i,())) _ (n:=a.l.length) (fun i hi=>?_) ?_ (k:=0) (Nat.zero_le _) (by omega)
  ·simp only [B_same_Sqs_11,ev_ite,ev_opt,ev_ret,Sl.len_wi]
   obtain ⟨y,hy⟩:∃ y,a.l[i]?=some y:=⟨_,List.getElem?_eq_getElem hi⟩
   rw [wi_lt (by omega) hr,wi_get a (by omega),hy,wi_add (by omega)]
   simp only [hi,decide_true,if_true,bind_some',show Tab.eq tab (.named .TSq) y y=true from (eq_iff (X:=tab) tabOk (by rfl)).2 rfl,Bool.not_true]
   rfl
  ·simp only [B_same_Sqs_11,ev_ite,ev_ret,Sl.len_wi,lt_self hr]
   rfl
 unfold F_same_Sqs T_same_Sqs
 rw [ev_ite,W.ne_self]
 simp only [ev_opt,key,bind_some',ev_sum,ev_ret]
 rfl
theorem self_same_Sbs (a:Sl 16 (TSb)) (h:a.l.length < fuel):F_same_Sbs a a=some true:=by
 have hr:=a.h.2
 have key:L_same_Sbs_11 (a,a,W.of .i64 0,())=some (.inr ((),())):=by
  unfold L_same_Sbs_11
  refine iter_count (fun i=>(a,a,wi i,())) _ (n:=a.l.length) (fun i hi=>?_) ?_ (k:=0) (Nat.zero_le _) (by omega)
  ·simp only [B_same_Sbs_11,ev_ite,ev_opt,ev_ret,Sl.len_wi]
   obtain ⟨y,hy⟩:∃ y,a.l[i]?=some y:=⟨_,List.getElem?_eq_getElem hi⟩
   rw [wi_lt (by omega) hr,wi_get a (by omega),hy,wi_add (by omega)]
   simp only [hi,decide_true,if_true,bind_some',show Tab.eq tab (.named .TSb) y y=true from (eq_iff (X:=tab) tabOk (by rfl)).2 rfl,Bool.not_true]
   rfl
  ·simp only [B_same_Sbs_11,ev_ite,ev_ret,Sl.len_wi,lt_self hr]
   rfl
 unfold F_same_Sbs T_same_Sbs
 rw [ev_ite,W.ne_self]
 simp only [ev_opt,key,bind_some',ev_sum,ev_ret]
 rfl
theorem self_same_Flights (a:Sl 256 (TFlight)) (h:a.l.length < fuel):F_same_Flights a a=some true:=by
 have hr:=a.h.2
 have key:L_same_Flights_11 (a,a,W.of .i64 0,())=some (.inr ((),())):=by
  unfold L_same_Flights_11
  refine iter_count (fun i=>(a,a,wi i,())) _ (n:=a.l.length) (fun i hi=>?_) ?_ (k:=0) (Nat.zero_le _) (by omega)
  ·simp only [B_same_Flights_11,ev_ite,ev_opt,ev_ret,Sl.len_wi]
   obtain ⟨y,hy⟩:∃ y,a.l[i]?=some y:=⟨_,List.getElem?_eq_getElem hi⟩
   rw [wi_lt (by omega) hr,wi_get a (by omega),hy,wi_add (by omega)]
   simp only [hi,decide_true,if_true,bind_some',show Tab.eq tab (.named .TFlight) y y=true from (eq_iff (X:=tab) tabOk (by rfl)).2 rfl,Bool.not_true]
   rfl
  ·simp only [B_same_Flights_11,ev_ite,ev_ret,Sl.len_wi,lt_self hr]
   rfl
 unfold F_same_Flights T_same_Flights
 rw [ev_ite,W.ne_self]
 simp only [ev_opt,key,bind_some',ev_sum,ev_ret]
 rfl
theorem self_same_Notes (a:Sl 32 (TNote)) (h:a.l.length < fuel):F_same_Notes a a=some true:=by
 have hr:=a.h.2
 have key:L_same_Notes_11 (a,a,W.of .i64 0,())=some (.inr ((),())):=by
  unfold L_same_Notes_11
  refine iter_count (fun i=>(a,a,wi i,())) _ (n:=a.l.length) (fun i hi=>?_) ?_ (k:=0) (Nat.zero_le _) (by omega)
  ·simp only [B_same_Notes_11,ev_ite,ev_opt,ev_ret,Sl.len_wi]
   obtain ⟨y,hy⟩:∃ y,a.l[i]?=some y:=⟨_,List.getElem?_eq_getElem hi⟩
   rw [wi_lt (by omega) hr,wi_get a (by omega),hy,wi_add (by omega)]
   simp only [hi,decide_true,if_true,bind_some',show Tab.eq tab (.named .TNote) y y=true from (eq_iff (X:=tab) tabOk (by rfl)).2 rfl,Bool.not_true]
   rfl
  ·simp only [B_same_Notes_11,ev_ite,ev_ret,Sl.len_wi,lt_self hr]
   rfl
 unfold F_same_Notes T_same_Notes
 rw [ev_ite,W.ne_self]
 simp only [ev_opt,key,bind_some',ev_sum,ev_ret]
 rfl
end Go.Proofs.YtkddkpmijhionaaGreatDoor
