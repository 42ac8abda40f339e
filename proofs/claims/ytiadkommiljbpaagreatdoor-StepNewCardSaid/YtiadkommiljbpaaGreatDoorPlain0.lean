/- YtiadkommiljbpaaGreatDoorPureNew: which machine an image makes, and whether machines are one. No statement of the seat is proved here. -/
import Derived.Test.YtiadkommiljbpaaGreatDoorNew
set_option linter.unusedSimpArgs false
set_option linter.unusedVariables false
set_option maxRecDepth 100000
namespace Go.Proofs.YtiadkommiljbpaaGreatDoor
open Go Go.A2
theorem len_same {b:Nat} {α:Type} {x y:Sl b α} (h:W.ne (Sl.len x) (Sl.len y)=false):x.l.length=y.l.length:=by
 rw [len_ne] at h
 simpa using h
theorem alike8 (a b:Sl 1 (W .u8)) (h:a.l.length < fuel):∃ r,F_step_alike_byte a b=some r∧F_same_Bytes a b=some r:=by
 unfold F_step_alike_byte T_step_alike_byte F_same_Bytes T_same_Bytes
 rw [ev_ite,ev_ite]
 cases hl:W.ne (Sl.len a) (Sl.len b) with
 | true=>exact ⟨_,rfl,rfl⟩
 | false=>
  have hl:=len_same hl
  have key:∃ o,L_step_alike_byte_11 (a,b,Sl.len a,wi 0,())=some o∧L_same_Bytes_11 (a,b,wi 0,())=some o∧True:=by
   unfold L_step_alike_byte_11 L_same_Bytes_11
   refine iter_two (fun i s s'=>s=(a,b,Sl.len a,wi i,())∧s'=(a,b,wi i,())) a.l.length (fun _=>True) ?_ ?_ ⟨rfl,rfl⟩ h
   ·rintro i s s' hi ⟨rfl,rfl⟩
    simp only [B_step_alike_byte_11,B_same_Bytes_11,ev_ite,ev_opt,ev_ret,lt_len a hi,lt_len b (hl ▸ hi),if_true,Sl.get_wi a hi,Sl.get_wi b (hl ▸ hi),bind_some',wi_next a hi]
    cases W.ne (nth a.l i) (nth b.l i) with
    | true=>exact .inr ⟨_,rfl,rfl,trivial⟩
    | false=>exact .inl ⟨_,_,rfl,rfl,rfl,rfl⟩
   ·rintro s s' ⟨rfl,rfl⟩
    simp only [B_step_alike_byte_11,B_same_Bytes_11,ev_ite,ev_ret,lt_end a,Bool.false_eq_true,if_false]
    exact ⟨_,rfl,rfl,trivial⟩
  obtain ⟨o,k1,k2,_⟩:=key
  simp only [Bool.false_eq_true,if_false,ev_opt,ev_sum,ev_ret,show L_step_alike_byte_11 (a,b,Sl.len a,W.of .i64 0,())=_ from k1,show L_same_Bytes_11 (a,b,W.of .i64 0,())=_ from k2,bind_some']
  cases o with
  | inl p=>exact ⟨_,rfl,rfl⟩
  | inr p=>exact ⟨_,rfl,rfl⟩
theorem alike32 (a b:Sl 4 (W .u32)) (h:a.l.length < fuel):∃ r,F_step_alike_uint32 a b=some r∧F_same_Words a b=some r:=by
 unfold F_step_alike_uint32 T_step_alike_uint32 F_same_Words T_same_Words
 rw [ev_ite,ev_ite]
 cases hl:W.ne (Sl.len a) (Sl.len b) with
 | true=>exact ⟨_,rfl,rfl⟩
 | false=>
  have hl:=len_same hl
  have key:∃ o,L_step_alike_uint32_11 (a,b,Sl.len a,wi 0,())=some o∧L_same_Words_11 (a,b,wi 0,())=some o∧True:=by
   unfold L_step_alike_uint32_11 L_same_Words_11
   refine iter_two (fun i s s'=>s=(a,b,Sl.len a,wi i,())∧s'=(a,b,wi i,())) a.l.length (fun _=>True) ?_ ?_ ⟨rfl,rfl⟩ h
   ·rintro i s s' hi ⟨rfl,rfl⟩
    simp only [B_step_alike_uint32_11,B_same_Words_11,ev_ite,ev_opt,ev_ret,lt_len a hi,lt_len b (hl ▸ hi),if_true,Sl.get_wi a hi,Sl.get_wi b (hl ▸ hi),bind_some',wi_next a hi]
    cases W.ne (nth a.l i) (nth b.l i) with
    | true=>exact .inr ⟨_,rfl,rfl,trivial⟩
    | false=>exact .inl ⟨_,_,rfl,rfl,rfl,rfl⟩
   ·rintro s s' ⟨rfl,rfl⟩
    simp only [B_step_alike_uint32_11,B_same_Words_11,ev_ite,ev_ret,lt_end a,Bool.false_eq_true,if_false]
    exact ⟨_,rfl,rfl,trivial⟩
  obtain ⟨o,k1,k2,_⟩:=key
  simp only [Bool.false_eq_true,if_false,ev_opt,ev_sum,ev_ret,show L_step_alike_uint32_11 (a,b,Sl.len a,W.of .i64 0,())=_ from k1,show L_same_Words_11 (a,b,W.of .i64 0,())=_ from k2,bind_some']
  cases o with
  | inl p=>exact ⟨_,rfl,rfl⟩
  | inr p=>exact ⟨_,rfl,rfl⟩
theorem same_two (a b:TMach) (h1:a.Mem.l.length < fuel) (h2:a.Shadow.l.length < fuel) (h3:a.Out.l.length < fuel):∃ r,F_step_Same a b=some r∧F_same_Mach a b=some r:=by
 obtain ⟨x,x1,x2⟩:=alike8 a.Mem b.Mem h1
 obtain ⟨y,y1,y2⟩:=alike8 a.Shadow b.Shadow h2
 obtain ⟨z,z1,z2⟩:=alike32 a.Out b.Out h3
 unfold F_step_Same T_step_Same F_same_Mach T_same_Mach
 simp only [ev_ite,ev_opt,ev_ret,x1,x2,y1,y2,z1,z2,bind_some']
 cases Tab.eq tab (.named .TArch) a.A b.A with
 | false=>exact ⟨_,rfl,rfl⟩
 | true=>cases x with
  | false=>exact ⟨_,rfl,rfl⟩
  | true=>cases y with
   | false=>exact ⟨_,rfl,rfl⟩
   | true=>exact ⟨_,rfl,rfl⟩
theorem new_two (im:TImage) (size:W .i64) (hf:Few im):∃ r,F_step_New im size=some r∧F_ref15_New im size=some r∧r.1.Mem.l.length≤16384∧r.1.Shadow.l.length≤16384∧r.1.Out.l.length=0:=by
 obtain ⟨p,p1,p2,p3⟩:=romLoad size im hf
 unfold F_step_New T_step_New F_ref15_New T_ref15_New
 simp only [ev_opt,ev_ite,ev_ret,p1,p2,bind_some']
 cases W.ne p.2 (W.of .i64 0) with
 | true=>exact ⟨_,rfl,rfl,Nat.zero_le _,Nat.zero_le _,rfl⟩
 | false=>exact ⟨_,rfl,rfl,p3,p3,rfl⟩
theorem stepNew (im:TImage) (size:W .i64) (m:TMach):F_law15_StepNew im size m=some true:=by
 unfold F_law15_StepNew T_law15_StepNew
 have g1:W.gt (Sl.len im.Segs) (W.of .i64 8)=decide (8 < im.Segs.l.length):=len_gt (n:=8) (sm (by omega))
 have g3:W.gt (Sl.len m.Mem) (W.of .i64 4096)=decide (4096 < m.Mem.l.length):=len_gt (n:=4096) (by unfold room;omega)
 have g4:W.gt (Sl.len m.Shadow) (W.of .i64 4096)=decide (4096 < m.Shadow.l.length):=len_gt (n:=4096) (by unfold room;omega)
 have g5:W.gt (Sl.len m.Out) (W.of .i64 100)=decide (100 < m.Out.l.length):=len_gt (n:=100) (sm (by omega))
 simp only [ev_ite,ev_opt,ev_ret,awake15,bind_some',g1,g3,g4,g5,decide_eq_true_eq]
 by_cases c1:8 < im.Segs.l.length
 ·rw [if_pos c1]
 rw [if_neg c1]
 cases W.gt size (W.of .i64 4096) with
 | true=>rfl
 | false=>
  rw [if_neg (by simp)]
  by_cases c3:4096 < m.Mem.l.length
  ·rw [if_pos c3]
  rw [if_neg c3]
  by_cases c4:4096 < m.Shadow.l.length
  ·rw [if_pos c4]
  rw [if_neg c4]
  by_cases c5:100 < m.Out.l.length
  ·rw [if_pos c5]
  rw [if_neg c5]
  have key:∃ o,L_law15_StepNew_11 (size,im,m,wi 0,())=some o∧(((∀ k,k < im.Segs.l.length→(nth im.Segs.l k).Data.l.length≤300)∧o=.inr (size,im,m,(),()))∨((¬ ∀ k,k < im.Segs.l.length→(nth im.Segs.l k).Data.l.length≤300)∧o=.inl (size,im,m,true,()))):=by
   unfold L_law15_StepNew_11
   refine iter_check (fun i s=>s=(size,im,m,wi i,())) im.Segs.l.length (fun k=>(nth im.Segs.l k).Data.l.length≤300) (fun o=>o=Sum.inl (size,im,m,true,())) (fun o=>o=Sum.inr (size,im,m,(),())) ?_ ?_ rfl (by show _ < 1048576;omega)
   ·rintro i s hi rfl _
    have e3:W.gt (Sl.len (nth im.Segs.l i).Data) (W.of .i64 300)=decide (300 < (nth im.Segs.l i).Data.l.length):=len_gt (n:=300) (sm (by omega))
    simp only [B_law15_StepNew_11,ev_ite,ev_opt,ev_ret,lt_len im.Segs hi,if_true,Sl.get_wi im.Segs hi,bind_some',e3,decide_eq_true_eq,awake15,wi_next im.Segs hi]
    by_cases hd:300 < (nth im.Segs.l i).Data.l.length
    ·rw [if_pos hd];exact .inr ⟨by omega,_,rfl,rfl⟩
    ·rw [if_neg hd];exact .inl ⟨by omega,_,rfl,rfl⟩
   ·rintro s rfl _
    simp only [B_law15_StepNew_11,ev_ite,ev_ret,lt_end im.Segs,Bool.false_eq_true,if_false]
    exact ⟨_,rfl,rfl⟩
  obtain ⟨o,k1,k2⟩:=key
  rw [show L_law15_StepNew_11 (size,im,m,W.of .i64 0,())=_ from k1,bind_some',ev_sum]
  rcases k2 with ⟨h,rfl⟩ | ⟨_,rfl⟩
  ·have hf:Few im:=⟨by omega,fun s hs=>by obtain ⟨i,hi,rfl⟩:=mem_nth hs;exact h i hi⟩
   obtain ⟨r,r1,r2,r3,r4,r5⟩:=new_two im size hf
   have q1:=same_mach r.1 (by show _ < 1048576;omega) (by show _ < 1048576;omega) (by show _ < 1048576;omega)
   obtain ⟨q,s1,s2⟩:=same_two r.1 m (by show _ < 1048576;omega) (by show _ < 1048576;omega) (by show _ < 1048576;omega)
   have q2:=same_mach m (by show _ < 1048576;omega) (by show _ < 1048576;omega) (by show _ < 1048576;omega)
   have q3:F_step_Copy m=some m:=rfl
   simp only [Sum.elim_inr,ev_opt,ev_ite,ev_ret,r1,r2,bind_some',q1,s1,s2,q2,q3,W.eq_self,beqB_self,if_true,awake15]
  ·rfl
end Go.Proofs.YtiadkommiljbpaaGreatDoor
