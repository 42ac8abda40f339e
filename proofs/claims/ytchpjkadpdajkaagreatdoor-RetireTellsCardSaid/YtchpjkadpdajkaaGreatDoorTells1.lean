/- YtchpjkadpdajkaaGreatDoorTells1: what an instruction that retires tells. No statement of the seat is proved here. -/
import Derived.Test.YtchpjkadpdajkaaGreatDoorTells0
import Derived.Test.YtchpjkadpdajkaaGreatDoorA2F
set_option linter.unusedSimpArgs false
set_option linter.unusedVariables false
set_option maxRecDepth 100000
namespace Go.Proofs.YtchpjkadpdajkaaGreatDoor
open Go Go.A2
theorem len_fu {b:Nat} {α:Type} (s:Sl b α):s.l.length < fuel:=by have:=s.h.2;unfold room at this;show _ < 281474976710656;omega
theorem iter_first {S β:Type} {f:S→Option (Rnd S β)} (st:Nat→S) (n:Nat) (p:Nat→Bool) (hit:Nat→β) (miss:β)
  (step:∀ i,i < n→f (st i)=some (if p i=true then .out (hit i) else .next (st (i+1)))) (last:f (st n)=some (.out miss)) {N:Nat} (hN:n < N):
  iter f N (st 0)=some (match (List.range n).find? p with | some i=>hit i | none=>miss):=by
 have main:∀ (m i N:Nat),i+m=n→m < N→iter f N (st i)=some (match (List.range' i m).find? p with | some i=>hit i | none=>miss):=by
  intro m
  induction m with
  | zero=>
   intro i N hi hN
   obtain ⟨N,rfl⟩:∃ M,N=M+1:=⟨N - 1,by omega⟩
   have:i=n:=by omega
   subst this
   rw [iter_succ,last];rfl
  | succ m ih=>
   intro i N hi hN
   obtain ⟨N,rfl⟩:∃ M,N=M+1:=⟨N - 1,by omega⟩
   rw [iter_succ,step i (by omega),List.range'_succ,List.find?_cons]
   cases hp:p i with
   | true=>rfl
   | false=>exact ih (i+1) N (by omega) (by omega)
 rw [List.range_eq_range']
 exact main n 0 N (by omega) hN
theorem bind_some' {α β:Type} (x:α) (f:α→Option β):(some x).bind f=f x:=rfl
def firstI (l:List TRob) (p:TRob→Bool):Option Nat:=(List.range l.length).find? fun i=>p (nth l i)
def ixW:Option Nat→W .i64
 | some k=>wi k
 | none=>W.of .i64 (-1)
theorem firstI_lt {l:List TRob} {p:TRob→Bool} {k:Nat} (h:firstI l p=some k):k < l.length:=by
 unfold firstI at h
 exact List.mem_range.1 (List.mem_of_find?_eq_some h)
theorem ge_ix {n:Nat} (o:Option Nat) (h:∀ k,o=some k→k < n) (hn:n≤room):W.ge (ixW o) (W.of .i64 0)=o.isSome:=by
 cases o with
 | none=>rfl
 | some k=>
  have:=h k rfl
  refine iff_bool ?_
  unfold ixW
  rw [W.ge_n,wi_n (by omega),show (W.of .i64 0:W .i64).n=0 from rfl];simp
def cause (e:TRob):Bool:=W.ne e.Cause (W.of .i64 0)
def store (e:TRob):Bool:=W.eq e.Ren.Uop.Unit (W.of .i64 6)
theorem ix1 (l:Sl 248 TRob):F_slices_IndexFunc_Rob_of_retire_Event_1 l=some (ixW (firstI l.l cause)):=by
 have hL:L_slices_IndexFunc_Rob_of_retire_Event_1_5 (l,((),()),Sl.len l,wi 0,())=some (match firstI l.l cause with | some k=>Sum.inl (wi k,()) | none=>Sum.inr ((),())):=by
  unfold L_slices_IndexFunc_Rob_of_retire_Event_1_5 firstI
  refine iter_first (fun i=>(l,((),()),Sl.len l,wi i,())) _ _ (fun k=>Sum.inl (wi k,())) (Sum.inr ((),())) (fun i hi=>?_) ?_ (len_fu _)
  ·have hc:F_retire_Event_1 (nth l.l i)=some (cause (nth l.l i)):=rfl
   simp only [B_slices_IndexFunc_Rob_of_retire_Event_1_5,ev_ite,ev_opt,ev_ret,lt_len _ hi,Sl.get_wi _ hi,if_true,bind_some',hc,wi_next _ hi]
   split<;>rfl
  ·simp only [B_slices_IndexFunc_Rob_of_retire_Event_1_5,ev_ite,ev_ret,lt_end,Bool.false_eq_true,if_false]
 have hL':L_slices_IndexFunc_Rob_of_retire_Event_1_5 (l,((),()),Sl.len l,W.of .i64 0,())=_:=hL
 unfold F_slices_IndexFunc_Rob_of_retire_Event_1 T_slices_IndexFunc_Rob_of_retire_Event_1
 simp only [ev_opt,ev_sum,ev_ret,hL',bind_some']
 cases firstI l.l cause<;>rfl
theorem ix2 (l:Sl 248 TRob):F_slices_IndexFunc_Rob_of_retire_Event_2 l=some (ixW (firstI l.l store)):=by
 have hL:L_slices_IndexFunc_Rob_of_retire_Event_2_5 (l,((),()),Sl.len l,wi 0,())=some (match firstI l.l store with | some k=>Sum.inl (wi k,()) | none=>Sum.inr ((),())):=by
  unfold L_slices_IndexFunc_Rob_of_retire_Event_2_5 firstI
  refine iter_first (fun i=>(l,((),()),Sl.len l,wi i,())) _ _ (fun k=>Sum.inl (wi k,())) (Sum.inr ((),())) (fun i hi=>?_) ?_ (len_fu _)
  ·have hc:F_retire_Event_2 (nth l.l i)=some (store (nth l.l i)):=rfl
   simp only [B_slices_IndexFunc_Rob_of_retire_Event_2_5,ev_ite,ev_opt,ev_ret,lt_len _ hi,Sl.get_wi _ hi,if_true,bind_some',hc,wi_next _ hi]
   split<;>rfl
  ·simp only [B_slices_IndexFunc_Rob_of_retire_Event_2_5,ev_ite,ev_ret,lt_end,Bool.false_eq_true,if_false]
 have hL':L_slices_IndexFunc_Rob_of_retire_Event_2_5 (l,((),()),Sl.len l,W.of .i64 0,())=_:=hL
 unfold F_slices_IndexFunc_Rob_of_retire_Event_2 T_slices_IndexFunc_Rob_of_retire_Event_2
 simp only [ev_opt,ev_sum,ev_ret,hL',bind_some']
 cases firstI l.l store<;>rfl
theorem ixd (l:Sl 248 TRob):F_ref48_caused l=some (ixW (firstI l.l cause)):=by
 have hL:L_ref48_caused_5 (l,wi 0,())=some (match firstI l.l cause with | some k=>Sum.inl (wi k,()) | none=>Sum.inr ((),())):=by
  unfold L_ref48_caused_5 firstI
  refine iter_first (fun i=>(l,wi i,())) _ _ (fun k=>Sum.inl (wi k,())) (Sum.inr ((),())) (fun i hi=>?_) ?_ (len_fu _)
  ·simp only [B_ref48_caused_5,ev_ite,ev_opt,ev_ret,lt_len _ hi,Sl.get_wi _ hi,if_true,bind_some',wi_next _ hi]
   show (if cause (nth l.l i)=true then _ else _)=_
   split<;>rfl
  ·simp only [B_ref48_caused_5,ev_ite,ev_ret,lt_end,Bool.false_eq_true,if_false]
 have hL':L_ref48_caused_5 (l,W.of .i64 0,())=_:=hL
 unfold F_ref48_caused T_ref48_caused
 simp only [ev_opt,ev_sum,ev_ret,hL',bind_some']
 cases firstI l.l cause<;>rfl
theorem is_eq (r:W .i64):F_retire_is r=some (!(W.lt r (W.of .i64 1) || W.gt r (W.of .i64 15))):=by
 have e0:(W.of .i64 0:W .i64).n=0:=rfl
 have e1:(W.of .i64 1:W .i64).n=1:=rfl
 have e15:(W.of .i64 15:W .i64).n=15:=rfl
 have e16:(W.of .i64 16:W .i64).n=16:=rfl
 unfold F_retire_is T_retire_is
 simp only [ev_ite,ev_ret]
 by_cases h:W.gt r (W.of .i64 0)=true
 ·rw [if_pos h]
  congr 1
  refine iff_bool ?_
  rw [W.gt_n,e0] at h
  rw [Bool.not_eq_true',Bool.or_eq_false_iff,Bool.eq_false_iff,Bool.eq_false_iff,Ne,Ne,W.lt_n,W.lt_n,W.gt_n,e1,e15,e16]
  omega
 ·rw [if_neg h]
  congr 1
  rw [W.gt_n,e0] at h
  symm
  rw [Bool.not_eq_false',Bool.or_eq_true,W.lt_n,e1]
  left;omega
theorem written_eq (e:TRob):∃ r,F_retire_written e=some r∧F_ref48_dst e=some r:=by
 unfold F_retire_written T_retire_written F_ref48_dst T_ref48_dst
 simp only [ev_ite,ev_opt,ev_ret,is_eq,bind_some']
 cases W.lt e.Ren.Uop.Dst (W.of .i64 1)<;>cases W.gt e.Ren.Uop.Dst (W.of .i64 15)<;>exact ⟨_,rfl,rfl⟩
theorem reg_eq (a:TArch) (r:W .i64):∃ x,F_retire_reg a r=some x∧F_ref48_reg a r=some x:=by
 have e1:(W.of .i64 1:W .i64).n=1:=rfl
 have e15:(W.of .i64 15:W .i64).n=15:=rfl
 unfold F_retire_reg T_retire_reg F_ref48_reg T_ref48_reg
 simp only [ev_ite,ev_opt,ev_ret,is_eq,bind_some']
 cases h1:W.lt r (W.of .i64 1) with
 | true=>exact ⟨_,rfl,rfl⟩
 | false=>
  cases h2:W.gt r (W.of .i64 15) with
  | true=>exact ⟨_,rfl,rfl⟩
  | false=>
   rw [Bool.eq_false_iff,Ne,W.lt_n,e1] at h1
   rw [Bool.eq_false_iff,Ne,W.gt_n,e15] at h2
   rw [idx?_some (by omega)]
   exact ⟨_,rfl,rfl⟩
theorem store_part (a:TArch) (y:TRob):∃ r0 r1 r2 s d,F_retire_reg a (Arr.get y.Ren.Uop.Src 0)=some r0∧F_ref48_reg a (Arr.get y.Ren.Uop.Src 0)=some r0∧F_retire_reg a (Arr.get y.Ren.Uop.Src 1)=some r1∧F_ref48_reg a (Arr.get y.Ren.Uop.Src 1)=some r1 ∧
  F_retire_reg a (Arr.get y.Ren.Uop.Src 2)=some r2∧F_ref48_reg a (Arr.get y.Ren.Uop.Src 2)=some r2∧F_crack_Size y.Ren.Uop.Inst.Op=some s∧F_ref24_Size y.Ren.Uop.Inst.Op=some s ∧
  F_exec_Data y.Ren.Uop (Arr.lit 3 [r0,r1,r2] rfl:Arr 3 (W .u32))=some d∧F_ref32_Data y.Ren.Uop (Arr.lit 3 [r0,r1,r2] rfl:Arr 3 (W .u32))=some d:=by
 obtain ⟨r0,a1,a2⟩:=reg_eq a (Arr.get y.Ren.Uop.Src 0)
 obtain ⟨r1,b1,b2⟩:=reg_eq a (Arr.get y.Ren.Uop.Src 1)
 obtain ⟨r2,c1,c2⟩:=reg_eq a (Arr.get y.Ren.Uop.Src 2)
 obtain ⟨s,s1,_⟩:=size_some y.Ren.Uop.Inst.Op
 obtain ⟨d,d1,d2⟩:=data_eq y.Ren.Uop (Arr.lit 3 [r0,r1,r2] rfl:Arr 3 (W .u32))
 exact ⟨r0,r1,r2,s,d,a1,a2,b1,b2,c1,c2,s1,by rw [size_eq];exact s1,d1,d2⟩
noncomputable def upE (a:TArch) (y:TRob) (e:TEvent):TEvent:=
 let r (k:Nat):=(F_ref48_reg a (Arr.get y.Ren.Uop.Src k)).getD (W.of .u32 0)
 { e with Size:=(F_ref24_Size y.Ren.Uop.Inst.Op).getD (W.of .i64 0),Addr:=y.Val,Data:=(F_ref32_Data y.Ren.Uop (Arr.lit 3 [r 0,r 1,r 2] rfl:Arr 3 (W .u32))).getD (W.of .u32 0) }
theorem loop47 (l:Sl 248 TRob) (a:TArch) (t e:TEvent):L_ref48_Event_47 (l,a,t,e,W.of .i64 0,())=some (match firstI l.l store with | some k=>Sum.inl (upE a (nth l.l k) e,upE a (nth l.l k) e,()) | none=>Sum.inr (t,e,())):=by
 have hL:L_ref48_Event_47 (l,a,t,e,wi 0,())=some (match firstI l.l store with | some k=>Sum.inl (upE a (nth l.l k) e,upE a (nth l.l k) e,()) | none=>Sum.inr (t,e,())):=by
  unfold L_ref48_Event_47 firstI
  refine iter_first (fun i=>(l,a,t,e,wi i,())) _ _ (fun k=>Sum.inl (upE a (nth l.l k) e,upE a (nth l.l k) e,())) (Sum.inr (t,e,())) (fun i hi=>?_) ?_ (len_fu _)
  ·obtain ⟨r0,r1,r2,s,d,_,a2,_,b2,_,c2,_,s2,_,d2⟩:=store_part a (nth l.l i)
   have hu:upE a (nth l.l i) e={ e with Size:=s,Addr:=(nth l.l i).Val,Data:=d }:=by
    unfold upE
    simp only [a2,b2,c2,s2,Option.getD_some,d2]
   simp only [B_ref48_Event_47,ev_ite,ev_opt,ev_ret,lt_len _ hi,Sl.get_wi _ hi,if_true,bind_some',a2,b2,c2,s2,d2,wi_next _ hi,hu]
   show (if store (nth l.l i)=true then _ else _)=_
   split<;>rfl
  ·simp only [B_ref48_Event_47,ev_ite,ev_ret,lt_end,Bool.false_eq_true,if_false]
 exact hL
theorem event_same (l:Sl 248 TRob) (a:TArch):∃ v,F_retire_Event l a=some v∧F_ref48_Event l a=some v:=by
 have hr:=l.h.2
 have e0:W.eq (Sl.len l) (W.of .i64 0)=decide (l.l.length=0):=by rw [Sl.len_wi];exact wi_eq (m:=0) hr (Nat.zero_le _)
 have e1:W.gt (Sl.len l) (W.of .i64 1)=decide (1 < l.l.length):=by rw [Sl.len_wi];exact wi_lt (n:=1) (by unfold room;omega) hr
 unfold F_retire_Event T_retire_Event F_ref48_Event T_ref48_Event
 simp only [ev_ite,ev_opt,ev_ret,ev_sum,e0,e1,ix1,ix2,ixd,bind_some',ge_ix (firstI l.l cause) (fun k=>firstI_lt) hr,ge_ix (firstI l.l store) (fun k=>firstI_lt) hr,loop47,decide_eq_true_eq]
 by_cases h0:l.l.length=0
 ·rw [if_pos h0,if_pos h0];exact ⟨_,rfl,rfl⟩
 rw [if_neg h0,if_neg h0]
 have g0:Sl.get? l (W.of .i64 0)=some (nth l.l 0):=Sl.get_wi l (i:=0) (by omega)
 have gl:Sl.get? l (W.sub (Sl.len l) (W.of .i64 1))=some (nth l.l (l.l.length - 1)):=by
  obtain ⟨n,hn⟩:∃ n,l.l.length=n+1:=⟨l.l.length - 1,by omega⟩
  rw [Sl.len_wi,hn,wi_sub (by omega),Nat.add_sub_cancel]
  exact Sl.get_wi l (by omega)
 simp only [g0,gl,bind_some']
 cases hc:firstI l.l cause with
 | some k=>
  have hk:=firstI_lt hc
  simp only [Option.isSome_some,if_true,ixW,Sl.get_wi l hk,bind_some']
  exact ⟨_,rfl,rfl⟩
 | none=>
  simp only [Option.isSome_none,Bool.false_eq_true,if_false]
  obtain ⟨w0,a1,a2⟩:=written_eq (nth l.l 0)
  simp only [a1,a2,bind_some']
  by_cases h1:1 < l.l.length
  ·have g1:Sl.get? l (W.of .i64 1)=some (nth l.l 1):=Sl.get_wi l (i:=1) (by omega)
   obtain ⟨w1,b1,b2⟩:=written_eq (nth l.l 1)
   simp only [if_pos h1,g1,b1,b2,bind_some']
   cases hs:firstI l.l store with
   | none=>exact ⟨_,rfl,rfl⟩
   | some k=>
    have hk:=firstI_lt hs
    obtain ⟨r0,r1,r2,s,d,p1,p2,q1,q2,t1,t2,s1,s2,d1,d2⟩:=store_part a (nth l.l k)
    simp only [Option.isSome_some,if_true,ixW,Sl.get_wi l hk,bind_some',p1,q1,t1,s1,d1,Sum.elim_inl]
    refine ⟨_,rfl,?_⟩
    unfold upE
    simp only [p2,q2,t2,s2,Option.getD_some,d2]
  ·simp only [if_neg h1]
   cases hs:firstI l.l store with
   | none=>exact ⟨_,rfl,rfl⟩
   | some k=>
    have hk:=firstI_lt hs
    obtain ⟨r0,r1,r2,s,d,p1,p2,q1,q2,t1,t2,s1,s2,d1,d2⟩:=store_part a (nth l.l k)
    simp only [Option.isSome_some,if_true,ixW,Sl.get_wi l hk,bind_some',p1,q1,t1,s1,d1,Sum.elim_inl]
    refine ⟨_,rfl,?_⟩
    unfold upE
    simp only [p2,q2,t2,s2,Option.getD_some,d2]
end Go.Proofs.YtchpjkadpdajkaaGreatDoor
