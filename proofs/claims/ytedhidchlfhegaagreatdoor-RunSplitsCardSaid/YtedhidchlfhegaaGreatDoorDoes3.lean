/- YtedhidchlfhegaaGreatDoorDoes3: jumps, atomic and other instructions. No statement of the seat is proved here. -/
import Derived.Test.YtedhidchlfhegaaGreatDoorDoes2
set_option linter.unusedSimpArgs false
set_option linter.unusedVariables false
set_option maxRecDepth 100000
set_option maxHeartbeats 1000000
namespace Go.Proofs.YtedhidchlfhegaaGreatDoor
open Go Go.A2
theorem away_eq (p:W .u32) (i:W .i64):W.add p (W.mul (W.conv .u32 i) (W.of .u32 4))=W.add p (W.conv .u32 (W.mul (W.of .i64 4) i)):=by
 rw [←ahead_eq]
 congr 1
 exact W.ext (by rw [W.mul_n,W.mul_n,Int.mul_comm])
theorem does_branch (m:TMach) (word:W .u32) (i:TInst) (ok:InstOk i) (h1:43≤i.Op.n) (h2:i.Op.n≤48):∃ w d,F_step_does m word i=some w∧F_ref15_do m (ev0 m word) i=some d∧Done w d∧(w.cause=W.of .i64 0→Eff m word w):=by
 obtain ⟨o0,o1,d0,d1,a0,a1,b0,b1⟩:=ok
 have l33:W.le i.Op (W.of .i64 33)=false:=(le_k (op:=i.Op) (k:=33) (by omega)).trans (by simp;omega)
 have l39:W.le i.Op (W.of .i64 39)=false:=(le_k (op:=i.Op) (k:=39) (by omega)).trans (by simp;omega)
 have l42:W.le i.Op (W.of .i64 42)=false:=(le_k (op:=i.Op) (k:=42) (by omega)).trans (by simp;omega)
 have l50:W.le i.Op (W.of .i64 50)=true:=(le_k (op:=i.Op) (k:=50) (by omega)).trans (by simp;omega)
 have l48:W.le i.Op (W.of .i64 48)=true:=(le_k (op:=i.Op) (k:=48) (by omega)).trans (by simp;omega)
 have e49:W.eq i.Op (W.of .i64 49)=false:=(eq_k (op:=i.Op) (k:=49) (by omega)).trans (by simp;omega)
 have e50:W.eq i.Op (W.of .i64 50)=false:=(eq_k (op:=i.Op) (k:=50) (by omega)).trans (by simp;omega)
 have g34:W.ge i.Op (W.of .i64 34)=true:=(ge_k (op:=i.Op) (k:=34) (by omega)).trans (by simp;omega)
 have g51:W.ge i.Op (W.of .i64 51)=false:=(ge_k (op:=i.Op) (k:=51) (by omega)).trans (by simp;omega)
 have g54:W.ge i.Op (W.of .i64 54)=false:=(ge_k (op:=i.Op) (k:=54) (by omega)).trans (by simp;omega)
 have g43:W.ge i.Op (W.of .i64 43)=true:=(ge_k (op:=i.Op) (k:=43) (by omega)).trans (by simp;omega)
 obtain ⟨t,t1,t2⟩:=taken_eq i.Op (m.A.R.get i.Ra.n.toNat) (m.A.R.get i.Rb.n.toNat)
 refine ⟨if t=true then { w0 m word with next_:=W.add m.A.PC (W.mul (W.conv .u32 i.Imm) (W.of .u32 4)) } else w0 m word,(if t=true then { m with A:={ m.A with PC:=W.add m.A.PC (W.conv .u32 (W.mul (W.of .i64 4) i.Imm)) } } else { m with A:={ m.A with PC:=W.add m.A.PC (W.of .u32 4) } },ev0 m word,W.of .i64 0,W.of .u32 0),?_,?_,.inl ⟨?_,rfl,?_⟩,fun _=>by cases t<;>exact eff0 m word _⟩
 ·unfold F_step_does T_step_does F_step_work_goes T_step_work_goes
  simp only [ev_opt,ev_ite,ev_ret,idx16 a0 a1,idx16 b0 b1,bind_some',l33,l39,l42,l50,e49,e50,Bool.false_eq_true,if_false,if_true,t1]
  cases t<;>rfl
 ·unfold F_ref15_do T_ref15_do
  simp only [ev_opt,ev_ite,ev_ret,ev_sum,idx16 a0 a1,idx16 b0 b1,bind_some',g34,g51,g54,g43,l48,l42,e49,e50,Bool.false_eq_true,if_false,if_true,Sum.elim_inl,Sum.elim_inr,L_ref15_do_11,B_ref15_do_11,L_ref15_do_17,B_ref15_do_17,L_ref15_do_19,B_ref15_do_19,L_ref15_do_25,B_ref15_do_25,L_ref15_do_33,B_ref15_do_33,L_ref15_do_35,B_ref15_do_35,L_ref15_do_39,B_ref15_do_39,L_ref15_do_43,B_ref15_do_43,L_ref15_do_45,B_ref15_do_45,L_ref15_do_55,B_ref15_do_55,L_ref15_do_59,B_ref15_do_59,t2]
  cases t<;>rfl
 ·cases t<;>rfl
 ·cases t
  ·exact ⟨rfl,rfl⟩
  ·show Rel { w0 m word with next_:=_ } _ _
   rw [away_eq];exact ⟨rfl,rfl⟩
theorem does_jump (m:TMach) (word:W .u32) (i:TInst) (ok:InstOk i) (h:i.Op=W.of .i64 49∨i.Op=W.of .i64 50):∃ w d,F_step_does m word i=some w∧F_ref15_do m (ev0 m word) i=some d∧Done w d∧(w.cause=W.of .i64 0→Eff m word w):=by
 obtain ⟨o0,o1,d0,d1,a0,a1,b0,b1⟩:=ok
 obtain ⟨op,rd,ra,rb,im⟩:=i
 simp only at h d0 d1 a0 a1 b0 b1
 obtain ⟨p,hp⟩:∃ p,p=if op=W.of .i64 49 then W.add m.A.PC (W.conv .u32 (W.mul (W.of .i64 4) im)) else W.sub (W.add (m.A.R.get ra.n.toNat) (W.conv .u32 im)) (W.rem (W.add (m.A.R.get ra.n.toNat) (W.conv .u32 im)) (W.of .u32 4)):=⟨_,rfl⟩
 refine ⟨putW { w0 m word with next_:=p } rd (W.add m.A.PC (W.of .u32 4)),({ (wrM { m with A:={ m.A with PC:=W.add m.A.PC (W.of .u32 4) } } (ev0 m word) rd (W.add m.A.PC (W.of .u32 4))).1 with A:={ (wrM { m with A:={ m.A with PC:=W.add m.A.PC (W.of .u32 4) } } (ev0 m word) rd (W.add m.A.PC (W.of .u32 4))).1.A with PC:=p } },(wrM { m with A:={ m.A with PC:=W.add m.A.PC (W.of .u32 4) } } (ev0 m word) rd (W.add m.A.PC (W.of .u32 4))).2,W.of .i64 0,W.of .u32 0),?_,?_,.inl ⟨?_,rfl,?_⟩,fun _=>eff_put (eff0 m word _) rfl _ d0 d1⟩
 ·rcases h with rfl | rfl
  ·rw [if_pos rfl] at hp
   subst hp
   unfold F_step_does T_step_does F_step_work_goes T_step_work_goes
   simp only [↓ev_opt,↓ev_ite,ev_ret,ev_sum,bind_some',Sum.elim_inl,Sum.elim_inr,idx16 a0 a1,idx16 b0 b1,Bool.not_true,Bool.not_false,Bool.false_eq_true,if_false,if_true,show W.ge (W.of .i64 49) (W.of .i64 34)=true from rfl,show W.ge (W.of .i64 49) (W.of .i64 51)=false from rfl,show W.ge (W.of .i64 49) (W.of .i64 54)=false from rfl,show W.ge (W.of .i64 49) (W.of .i64 43)=true from rfl,show W.ge (W.of .i64 49) (W.of .i64 25)=true from rfl,show W.le (W.of .i64 49) (W.of .i64 33)=false from rfl,show W.le (W.of .i64 49) (W.of .i64 39)=false from rfl,show W.le (W.of .i64 49) (W.of .i64 42)=false from rfl,show W.le (W.of .i64 49) (W.of .i64 50)=true from rfl,show W.le (W.of .i64 49) (W.of .i64 53)=true from rfl,show W.le (W.of .i64 49) (W.of .i64 48)=false from rfl,show W.eq (W.of .i64 49) (W.of .i64 49)=true from rfl,show W.eq (W.of .i64 49) (W.of .i64 50)=false from rfl,show W.eq (W.of .i64 49) (W.of .i64 51)=false from rfl,show W.eq (W.of .i64 49) (W.of .i64 52)=false from rfl,show W.eq (W.of .i64 49) (W.of .i64 53)=false from rfl,show W.ne (W.of .i64 49) (W.of .i64 53)=true from rfl,put_p d0 d1,away_eq]
   rfl
  ·rw [if_neg (by decide)] at hp
   subst hp
   unfold F_step_does T_step_does F_step_work_goes T_step_work_goes
   simp only [↓ev_opt,↓ev_ite,ev_ret,ev_sum,bind_some',Sum.elim_inl,Sum.elim_inr,idx16 a0 a1,idx16 b0 b1,Bool.not_true,Bool.not_false,Bool.false_eq_true,if_false,if_true,show W.ge (W.of .i64 50) (W.of .i64 34)=true from rfl,show W.ge (W.of .i64 50) (W.of .i64 51)=false from rfl,show W.ge (W.of .i64 50) (W.of .i64 54)=false from rfl,show W.ge (W.of .i64 50) (W.of .i64 43)=true from rfl,show W.ge (W.of .i64 50) (W.of .i64 25)=true from rfl,show W.le (W.of .i64 50) (W.of .i64 33)=false from rfl,show W.le (W.of .i64 50) (W.of .i64 39)=false from rfl,show W.le (W.of .i64 50) (W.of .i64 42)=false from rfl,show W.le (W.of .i64 50) (W.of .i64 50)=true from rfl,show W.le (W.of .i64 50) (W.of .i64 53)=true from rfl,show W.le (W.of .i64 50) (W.of .i64 48)=false from rfl,show W.eq (W.of .i64 50) (W.of .i64 49)=false from rfl,show W.eq (W.of .i64 50) (W.of .i64 50)=true from rfl,show W.eq (W.of .i64 50) (W.of .i64 51)=false from rfl,show W.eq (W.of .i64 50) (W.of .i64 52)=false from rfl,show W.eq (W.of .i64 50) (W.of .i64 53)=false from rfl,show W.ne (W.of .i64 50) (W.of .i64 53)=true from rfl,put_p d0 d1,align_eq]
   rfl
 ·rcases h with rfl | rfl
  ·rw [if_pos rfl] at hp
   subst hp
   unfold F_ref15_do T_ref15_do
   simp only [show TMach.mk (TArch.mk m.A.PC m.A.R m.A.C m.A.Halt) m.Mem m.Shadow m.Out=m from rfl,↓ev_opt,↓ev_ite,ev_ret,ev_sum,bind_some',Sum.elim_inl,Sum.elim_inr,idx16 a0 a1,idx16 b0 b1,Bool.not_true,Bool.not_false,Bool.false_eq_true,if_false,if_true,show W.ge (W.of .i64 49) (W.of .i64 34)=true from rfl,show W.ge (W.of .i64 49) (W.of .i64 51)=false from rfl,show W.ge (W.of .i64 49) (W.of .i64 54)=false from rfl,show W.ge (W.of .i64 49) (W.of .i64 43)=true from rfl,show W.ge (W.of .i64 49) (W.of .i64 25)=true from rfl,show W.le (W.of .i64 49) (W.of .i64 33)=false from rfl,show W.le (W.of .i64 49) (W.of .i64 39)=false from rfl,show W.le (W.of .i64 49) (W.of .i64 42)=false from rfl,show W.le (W.of .i64 49) (W.of .i64 50)=true from rfl,show W.le (W.of .i64 49) (W.of .i64 53)=true from rfl,show W.le (W.of .i64 49) (W.of .i64 48)=false from rfl,show W.eq (W.of .i64 49) (W.of .i64 49)=true from rfl,show W.eq (W.of .i64 49) (W.of .i64 50)=false from rfl,show W.eq (W.of .i64 49) (W.of .i64 51)=false from rfl,show W.eq (W.of .i64 49) (W.of .i64 52)=false from rfl,show W.eq (W.of .i64 49) (W.of .i64 53)=false from rfl,show W.ne (W.of .i64 49) (W.of .i64 53)=true from rfl,write_m d0 d1,L_ref15_do_11,B_ref15_do_11,L_ref15_do_17,B_ref15_do_17,L_ref15_do_19,B_ref15_do_19,L_ref15_do_25,B_ref15_do_25,L_ref15_do_33,B_ref15_do_33,L_ref15_do_35,B_ref15_do_35,L_ref15_do_39,B_ref15_do_39,L_ref15_do_43,B_ref15_do_43,L_ref15_do_45,B_ref15_do_45,L_ref15_do_55,B_ref15_do_55,L_ref15_do_59,B_ref15_do_59]
  ·rw [if_neg (by decide)] at hp
   subst hp
   unfold F_ref15_do T_ref15_do
   simp only [show TMach.mk (TArch.mk m.A.PC m.A.R m.A.C m.A.Halt) m.Mem m.Shadow m.Out=m from rfl,↓ev_opt,↓ev_ite,ev_ret,ev_sum,bind_some',Sum.elim_inl,Sum.elim_inr,idx16 a0 a1,idx16 b0 b1,Bool.not_true,Bool.not_false,Bool.false_eq_true,if_false,if_true,show W.ge (W.of .i64 50) (W.of .i64 34)=true from rfl,show W.ge (W.of .i64 50) (W.of .i64 51)=false from rfl,show W.ge (W.of .i64 50) (W.of .i64 54)=false from rfl,show W.ge (W.of .i64 50) (W.of .i64 43)=true from rfl,show W.ge (W.of .i64 50) (W.of .i64 25)=true from rfl,show W.le (W.of .i64 50) (W.of .i64 33)=false from rfl,show W.le (W.of .i64 50) (W.of .i64 39)=false from rfl,show W.le (W.of .i64 50) (W.of .i64 42)=false from rfl,show W.le (W.of .i64 50) (W.of .i64 50)=true from rfl,show W.le (W.of .i64 50) (W.of .i64 53)=true from rfl,show W.le (W.of .i64 50) (W.of .i64 48)=false from rfl,show W.eq (W.of .i64 50) (W.of .i64 49)=false from rfl,show W.eq (W.of .i64 50) (W.of .i64 50)=true from rfl,show W.eq (W.of .i64 50) (W.of .i64 51)=false from rfl,show W.eq (W.of .i64 50) (W.of .i64 52)=false from rfl,show W.eq (W.of .i64 50) (W.of .i64 53)=false from rfl,show W.ne (W.of .i64 50) (W.of .i64 53)=true from rfl,write_m d0 d1,L_ref15_do_11,B_ref15_do_11,L_ref15_do_17,B_ref15_do_17,L_ref15_do_19,B_ref15_do_19,L_ref15_do_25,B_ref15_do_25,L_ref15_do_33,B_ref15_do_33,L_ref15_do_35,B_ref15_do_35,L_ref15_do_39,B_ref15_do_39,L_ref15_do_43,B_ref15_do_43,L_ref15_do_45,B_ref15_do_45,L_ref15_do_55,B_ref15_do_55,L_ref15_do_59,B_ref15_do_59]
 ·unfold putW;split<;>rfl
 ·unfold putW wrM
  split<;>exact ⟨rfl,rfl⟩
theorem stores_p (w:TWork) (pa:W .u32) (s:W .i64) (v z:W .u32) (hc:chkB w.m.Mem pa s=true) (hz:F_bits_Zext v (W.mul (W.of .i64 8) s)=some z) {r:Sl 1 (W .u8)} (hr:r.l=cpL w.m.Mem.l pa.v (bytesL v.v s.v)):F_step_work_stores w pa s v=some { w with m:={ w.m with Mem:=r },ev:={ w.ev with Size:=s,Addr:=pa,Data:=z } }:=by
 rcases write_p w.m.Mem pa s v with ⟨h,_⟩ | ⟨_,r',e1,e2⟩
 ·rw [hc] at h;cases h
 ·have:r'=r:=Sl.ext (by rw [e2,hr])
  subst this
  unfold F_step_work_stores T_step_work_stores
  simp only [ev_opt,ev_ite,ev_ret,e1,bind_some',W.eq_self,if_true,hz]
theorem zext32 (v:W .u32):F_bits_Zext v (W.mul (W.of .i64 8) (W.of .i64 4))=some v:=by
 have:=Zext_eq (x:=v) (n:=W.of .i64 32) ⟨by decide,by decide⟩
 rw [show W.mul (W.of .i64 8) (W.of .i64 4)=W.of .i64 32 from rfl,this]
 rw [show (W.of .i64 32).v=32 from rfl,Nat.mod_eq_of_lt (show v.v < 2 ^ 32 from v.v_lt),of_v]
theorem does_atomic (m:TMach) (word:W .u32) (i:TInst) (ok:InstOk i) (h:i.Op=W.of .i64 51∨i.Op=W.of .i64 52∨i.Op=W.of .i64 53):∃ w d,F_step_does m word i=some w∧F_ref15_do m (ev0 m word) i=some d∧Done w d∧(w.cause=W.of .i64 0→Eff m word w):=by
 obtain ⟨o0,o1,d0,d1,a0,a1,b0,b1⟩:=ok
 obtain ⟨op,rd,ra,rb,im⟩:=i
 simp only at h d0 d1 a0 a1 b0 b1
 obtain ⟨c,c1,c2,c3⟩:=reach_eq m m.Mem (m.A.R.get ra.n.toNat) (W.of .i64 4) (k:=W.of .i64 3) (.inr (.inr rfl))
 have hP:∀ op,op=W.of .i64 51∨op=W.of .i64 52∨op=W.of .i64 53→F_step_does m word (TInst.mk op rd ra rb im)=F_step_work_atOnce (w0 m word) (TInst.mk op rd ra rb im) (m.A.R.get ra.n.toNat) (m.A.R.get rb.n.toNat):=by
  rintro op (rfl | rfl | rfl)
  ·unfold F_step_does T_step_does
   simp only [↓ev_opt,↓ev_ite,ev_ret,ev_sum,bind_some',Sum.elim_inl,Sum.elim_inr,idx16 a0 a1,idx16 b0 b1,Bool.not_true,Bool.not_false,Bool.false_eq_true,if_false,if_true,show W.ge (W.of .i64 51) (W.of .i64 34)=true from rfl,show W.ge (W.of .i64 51) (W.of .i64 51)=true from rfl,show W.ge (W.of .i64 51) (W.of .i64 54)=false from rfl,show W.ge (W.of .i64 51) (W.of .i64 43)=true from rfl,show W.ge (W.of .i64 51) (W.of .i64 25)=true from rfl,show W.le (W.of .i64 51) (W.of .i64 33)=false from rfl,show W.le (W.of .i64 51) (W.of .i64 39)=false from rfl,show W.le (W.of .i64 51) (W.of .i64 42)=false from rfl,show W.le (W.of .i64 51) (W.of .i64 50)=false from rfl,show W.le (W.of .i64 51) (W.of .i64 53)=true from rfl,show W.le (W.of .i64 51) (W.of .i64 48)=false from rfl,show W.eq (W.of .i64 51) (W.of .i64 49)=false from rfl,show W.eq (W.of .i64 51) (W.of .i64 50)=false from rfl,show W.eq (W.of .i64 51) (W.of .i64 51)=true from rfl,show W.eq (W.of .i64 51) (W.of .i64 52)=false from rfl,show W.eq (W.of .i64 51) (W.of .i64 53)=false from rfl,show W.ne (W.of .i64 51) (W.of .i64 53)=true from rfl]
   show (F_step_work_atOnce (w0 m word) _ _ _).bind _=_
   cases F_step_work_atOnce (w0 m word) _ _ _<;>rfl
  ·unfold F_step_does T_step_does
   simp only [↓ev_opt,↓ev_ite,ev_ret,ev_sum,bind_some',Sum.elim_inl,Sum.elim_inr,idx16 a0 a1,idx16 b0 b1,Bool.not_true,Bool.not_false,Bool.false_eq_true,if_false,if_true,show W.ge (W.of .i64 52) (W.of .i64 34)=true from rfl,show W.ge (W.of .i64 52) (W.of .i64 51)=true from rfl,show W.ge (W.of .i64 52) (W.of .i64 54)=false from rfl,show W.ge (W.of .i64 52) (W.of .i64 43)=true from rfl,show W.ge (W.of .i64 52) (W.of .i64 25)=true from rfl,show W.le (W.of .i64 52) (W.of .i64 33)=false from rfl,show W.le (W.of .i64 52) (W.of .i64 39)=false from rfl,show W.le (W.of .i64 52) (W.of .i64 42)=false from rfl,show W.le (W.of .i64 52) (W.of .i64 50)=false from rfl,show W.le (W.of .i64 52) (W.of .i64 53)=true from rfl,show W.le (W.of .i64 52) (W.of .i64 48)=false from rfl,show W.eq (W.of .i64 52) (W.of .i64 49)=false from rfl,show W.eq (W.of .i64 52) (W.of .i64 50)=false from rfl,show W.eq (W.of .i64 52) (W.of .i64 51)=false from rfl,show W.eq (W.of .i64 52) (W.of .i64 52)=true from rfl,show W.eq (W.of .i64 52) (W.of .i64 53)=false from rfl,show W.ne (W.of .i64 52) (W.of .i64 53)=true from rfl]
   show (F_step_work_atOnce (w0 m word) _ _ _).bind _=_
   cases F_step_work_atOnce (w0 m word) _ _ _<;>rfl
  ·unfold F_step_does T_step_does
   simp only [↓ev_opt,↓ev_ite,ev_ret,ev_sum,bind_some',Sum.elim_inl,Sum.elim_inr,idx16 a0 a1,idx16 b0 b1,Bool.not_true,Bool.not_false,Bool.false_eq_true,if_false,if_true,show W.ge (W.of .i64 53) (W.of .i64 34)=true from rfl,show W.ge (W.of .i64 53) (W.of .i64 51)=true from rfl,show W.ge (W.of .i64 53) (W.of .i64 54)=false from rfl,show W.ge (W.of .i64 53) (W.of .i64 43)=true from rfl,show W.ge (W.of .i64 53) (W.of .i64 25)=true from rfl,show W.le (W.of .i64 53) (W.of .i64 33)=false from rfl,show W.le (W.of .i64 53) (W.of .i64 39)=false from rfl,show W.le (W.of .i64 53) (W.of .i64 42)=false from rfl,show W.le (W.of .i64 53) (W.of .i64 50)=false from rfl,show W.le (W.of .i64 53) (W.of .i64 53)=true from rfl,show W.le (W.of .i64 53) (W.of .i64 48)=false from rfl,show W.eq (W.of .i64 53) (W.of .i64 49)=false from rfl,show W.eq (W.of .i64 53) (W.of .i64 50)=false from rfl,show W.eq (W.of .i64 53) (W.of .i64 51)=false from rfl,show W.eq (W.of .i64 53) (W.of .i64 52)=false from rfl,show W.eq (W.of .i64 53) (W.of .i64 53)=true from rfl,show W.ne (W.of .i64 53) (W.of .i64 53)=false from rfl]
   show (F_step_work_atOnce (w0 m word) _ _ _).bind _=_
   cases F_step_work_atOnce (w0 m word) _ _ _<;>rfl
 have hD:∀ op,op=W.of .i64 51∨op=W.of .i64 52∨op=W.of .i64 53→F_ref15_do m (ev0 m word) (TInst.mk op rd ra rb im)=F_ref15_atomic m (ev0 m word) (TInst.mk op rd ra rb im):=by
  rintro op (rfl | rfl | rfl)
  ·unfold F_ref15_do T_ref15_do
   simp only [show TMach.mk (TArch.mk m.A.PC m.A.R m.A.C m.A.Halt) m.Mem m.Shadow m.Out=m from rfl,↓ev_opt,↓ev_ite,ev_ret,ev_sum,bind_some',Sum.elim_inl,Sum.elim_inr,idx16 a0 a1,idx16 b0 b1,Bool.not_true,Bool.not_false,Bool.false_eq_true,if_false,if_true,show W.ge (W.of .i64 51) (W.of .i64 34)=true from rfl,show W.ge (W.of .i64 51) (W.of .i64 51)=true from rfl,show W.ge (W.of .i64 51) (W.of .i64 54)=false from rfl,show W.ge (W.of .i64 51) (W.of .i64 43)=true from rfl,show W.ge (W.of .i64 51) (W.of .i64 25)=true from rfl,show W.le (W.of .i64 51) (W.of .i64 33)=false from rfl,show W.le (W.of .i64 51) (W.of .i64 39)=false from rfl,show W.le (W.of .i64 51) (W.of .i64 42)=false from rfl,show W.le (W.of .i64 51) (W.of .i64 50)=false from rfl,show W.le (W.of .i64 51) (W.of .i64 53)=true from rfl,show W.le (W.of .i64 51) (W.of .i64 48)=false from rfl,show W.eq (W.of .i64 51) (W.of .i64 49)=false from rfl,show W.eq (W.of .i64 51) (W.of .i64 50)=false from rfl,show W.eq (W.of .i64 51) (W.of .i64 51)=true from rfl,show W.eq (W.of .i64 51) (W.of .i64 52)=false from rfl,show W.eq (W.of .i64 51) (W.of .i64 53)=false from rfl,show W.ne (W.of .i64 51) (W.of .i64 53)=true from rfl,L_ref15_do_11,B_ref15_do_11,L_ref15_do_17,B_ref15_do_17,L_ref15_do_19,B_ref15_do_19,L_ref15_do_25,B_ref15_do_25,L_ref15_do_33,B_ref15_do_33,L_ref15_do_35,B_ref15_do_35,L_ref15_do_39,B_ref15_do_39,L_ref15_do_43,B_ref15_do_43,L_ref15_do_45,B_ref15_do_45,L_ref15_do_55,B_ref15_do_55,L_ref15_do_59,B_ref15_do_59]
   cases F_ref15_atomic m (ev0 m word) _<;>rfl
  ·unfold F_ref15_do T_ref15_do
   simp only [show TMach.mk (TArch.mk m.A.PC m.A.R m.A.C m.A.Halt) m.Mem m.Shadow m.Out=m from rfl,↓ev_opt,↓ev_ite,ev_ret,ev_sum,bind_some',Sum.elim_inl,Sum.elim_inr,idx16 a0 a1,idx16 b0 b1,Bool.not_true,Bool.not_false,Bool.false_eq_true,if_false,if_true,show W.ge (W.of .i64 52) (W.of .i64 34)=true from rfl,show W.ge (W.of .i64 52) (W.of .i64 51)=true from rfl,show W.ge (W.of .i64 52) (W.of .i64 54)=false from rfl,show W.ge (W.of .i64 52) (W.of .i64 43)=true from rfl,show W.ge (W.of .i64 52) (W.of .i64 25)=true from rfl,show W.le (W.of .i64 52) (W.of .i64 33)=false from rfl,show W.le (W.of .i64 52) (W.of .i64 39)=false from rfl,show W.le (W.of .i64 52) (W.of .i64 42)=false from rfl,show W.le (W.of .i64 52) (W.of .i64 50)=false from rfl,show W.le (W.of .i64 52) (W.of .i64 53)=true from rfl,show W.le (W.of .i64 52) (W.of .i64 48)=false from rfl,show W.eq (W.of .i64 52) (W.of .i64 49)=false from rfl,show W.eq (W.of .i64 52) (W.of .i64 50)=false from rfl,show W.eq (W.of .i64 52) (W.of .i64 51)=false from rfl,show W.eq (W.of .i64 52) (W.of .i64 52)=true from rfl,show W.eq (W.of .i64 52) (W.of .i64 53)=false from rfl,show W.ne (W.of .i64 52) (W.of .i64 53)=true from rfl,L_ref15_do_11,B_ref15_do_11,L_ref15_do_17,B_ref15_do_17,L_ref15_do_19,B_ref15_do_19,L_ref15_do_25,B_ref15_do_25,L_ref15_do_33,B_ref15_do_33,L_ref15_do_35,B_ref15_do_35,L_ref15_do_39,B_ref15_do_39,L_ref15_do_43,B_ref15_do_43,L_ref15_do_45,B_ref15_do_45,L_ref15_do_55,B_ref15_do_55,L_ref15_do_59,B_ref15_do_59]
   cases F_ref15_atomic m (ev0 m word) _<;>rfl
  ·unfold F_ref15_do T_ref15_do
   simp only [show TMach.mk (TArch.mk m.A.PC m.A.R m.A.C m.A.Halt) m.Mem m.Shadow m.Out=m from rfl,↓ev_opt,↓ev_ite,ev_ret,ev_sum,bind_some',Sum.elim_inl,Sum.elim_inr,idx16 a0 a1,idx16 b0 b1,Bool.not_true,Bool.not_false,Bool.false_eq_true,if_false,if_true,show W.ge (W.of .i64 53) (W.of .i64 34)=true from rfl,show W.ge (W.of .i64 53) (W.of .i64 51)=true from rfl,show W.ge (W.of .i64 53) (W.of .i64 54)=false from rfl,show W.ge (W.of .i64 53) (W.of .i64 43)=true from rfl,show W.ge (W.of .i64 53) (W.of .i64 25)=true from rfl,show W.le (W.of .i64 53) (W.of .i64 33)=false from rfl,show W.le (W.of .i64 53) (W.of .i64 39)=false from rfl,show W.le (W.of .i64 53) (W.of .i64 42)=false from rfl,show W.le (W.of .i64 53) (W.of .i64 50)=false from rfl,show W.le (W.of .i64 53) (W.of .i64 53)=true from rfl,show W.le (W.of .i64 53) (W.of .i64 48)=false from rfl,show W.eq (W.of .i64 53) (W.of .i64 49)=false from rfl,show W.eq (W.of .i64 53) (W.of .i64 50)=false from rfl,show W.eq (W.of .i64 53) (W.of .i64 51)=false from rfl,show W.eq (W.of .i64 53) (W.of .i64 52)=false from rfl,show W.eq (W.of .i64 53) (W.of .i64 53)=true from rfl,show W.ne (W.of .i64 53) (W.of .i64 53)=false from rfl,L_ref15_do_11,B_ref15_do_11,L_ref15_do_17,B_ref15_do_17,L_ref15_do_19,B_ref15_do_19,L_ref15_do_25,B_ref15_do_25,L_ref15_do_33,B_ref15_do_33,L_ref15_do_35,B_ref15_do_35,L_ref15_do_39,B_ref15_do_39,L_ref15_do_43,B_ref15_do_43,L_ref15_do_45,B_ref15_do_45,L_ref15_do_55,B_ref15_do_55,L_ref15_do_59,B_ref15_do_59]
   cases F_ref15_atomic m (ev0 m word) _<;>rfl
 rw [hP op h,hD op h]
 unfold F_step_work_atOnce T_step_work_atOnce F_ref15_atomic T_ref15_atomic
 simp only [ev_opt,ev_ite,ev_ret,idx16 a0 a1,idx16 b0 b1,idx16 d0 d1,bind_some',show F_step_reach (w0 m word).m (w0 m word).m.Mem (m.A.R.get ra.n.toNat) (W.of .i64 4) (W.of .i64 3)=some c from c1,c2]
 cases hc:W.ne c.2 (W.of .i64 0) with
 | true=>exact ⟨_,_,rfl,rfl,.inr ⟨hc,rfl,rfl⟩,nc hc⟩
 | false=>
  have hck:=c3 (by rw [W.ne_eq,Bool.not_eq_false'] at hc;exact W.eq_iff.1 hc)
  simp only [Bool.false_eq_true,if_false,show (w0 m word).m.Mem=m.Mem from rfl,read_p,read_d,hck,if_true,bind_some']
  obtain ⟨old,hold⟩:∃ old,old=W.of .u32 ((ofB (bytesAt m.Mem.l c.1.v (W.of .i64 4).v):Nat):Int):=⟨_,rfl⟩
  rw [←hold]
  have store:∀ x:W .u32,∃ r:Sl 1 (W .u8),F_step_work_stores (w0 m word) c.1 (W.of .i64 4) x=some { w0 m word with m:={ m with Mem:=r },ev:={ ev0 m word with Size:=W.of .i64 4,Addr:=c.1,Data:=x } }∧F_ref10_Write m.Mem c.1 (W.of .i64 4) x=some (r,W.of .i64 0)∧r.l=cpL m.Mem.l c.1.v (bytesL x.v (W.of .i64 4).v):=fun x=>by
   rcases write_d m.Mem c.1 (W.of .i64 4) x with ⟨h,_⟩ | ⟨_,r,e1,e2⟩
   ·rw [hck] at h;cases h
   ·exact ⟨r,stores_p (w0 m word) c.1 (W.of .i64 4) x x hck (zext32 x) e2,e1,e2⟩
  have fin:∀ (x:W .u32) (r:Sl 1 (W .u8)),Done (putW { w0 m word with m:={ m with Mem:=r },ev:={ ev0 m word with Size:=W.of .i64 4,Addr:=c.1,Data:=x } } rd old) ((wrM { m with A:={ m.A with PC:=W.add m.A.PC (W.of .u32 4) },Mem:=r } { ev0 m word with Size:=W.of .i64 4,Addr:=c.1,Data:=x } rd old).1,(wrM { m with A:={ m.A with PC:=W.add m.A.PC (W.of .u32 4) },Mem:=r } { ev0 m word with Size:=W.of .i64 4,Addr:=c.1,Data:=x } rd old).2,W.of .i64 0,W.of .u32 0):=fun x r=>
   .inl ⟨by unfold putW;split<;>rfl,rfl,rel_put (w:={ w0 m word with m:={ m with Mem:=r },ev:={ ev0 m word with Size:=W.of .i64 4,Addr:=c.1,Data:=x } }) ⟨rfl,rfl⟩ rd old⟩
  have effS:∀ (x:W .u32) (r:Sl 1 (W .u8)),r.l=cpL m.Mem.l c.1.v (bytesL x.v (W.of .i64 4).v)→Eff m word (putW { w0 m word with m:={ m with Mem:=r },ev:={ ev0 m word with Size:=W.of .i64 4,Addr:=c.1,Data:=x } } rd old):=fun x r hr=>
   eff_put (w:={ w0 m word with m:={ m with Mem:=r },ev:={ ev0 m word with Size:=W.of .i64 4,Addr:=c.1,Data:=x } }) ⟨(eff0 m word (w0 m word).next_).regs,(eff0 m word (w0 m word).next_).rd,(eff0 m word (w0 m word).next_).rd2,.inr ⟨hck,hr⟩,(eff0 m word (w0 m word).next_).shadow,(eff0 m word (w0 m word).next_).out,(eff0 m word (w0 m word).next_).csr,(eff0 m word (w0 m word).next_).pc,(eff0 m word (w0 m word).next_).word_,(eff0 m word (w0 m word).next_).cause0⟩ rfl _ d0 d1
  have fin0:Done (putW (w0 m word) rd old) ((wrM { m with A:={ m.A with PC:=W.add m.A.PC (W.of .u32 4) } } (ev0 m word) rd old).1,(wrM { m with A:={ m.A with PC:=W.add m.A.PC (W.of .u32 4) } } (ev0 m word) rd old).2,W.of .i64 0,W.of .u32 0):=
   .inl ⟨by unfold putW;split<;>rfl,rfl,rel_put (w:=w0 m word) ⟨rfl,rfl⟩ rd old⟩
  rcases h with rfl | rfl | rfl
  ·obtain ⟨r,s1,s2,s3⟩:=store (m.A.R.get rb.n.toNat)
   simp only [Bool.not_true,Bool.not_false,Bool.false_eq_true,if_false,if_true,show W.ge (W.of .i64 51) (W.of .i64 34)=true from rfl,show W.ge (W.of .i64 51) (W.of .i64 51)=true from rfl,show W.ge (W.of .i64 51) (W.of .i64 54)=false from rfl,show W.ge (W.of .i64 51) (W.of .i64 43)=true from rfl,show W.ge (W.of .i64 51) (W.of .i64 25)=true from rfl,show W.le (W.of .i64 51) (W.of .i64 33)=false from rfl,show W.le (W.of .i64 51) (W.of .i64 39)=false from rfl,show W.le (W.of .i64 51) (W.of .i64 42)=false from rfl,show W.le (W.of .i64 51) (W.of .i64 50)=false from rfl,show W.le (W.of .i64 51) (W.of .i64 53)=true from rfl,show W.le (W.of .i64 51) (W.of .i64 48)=false from rfl,show W.eq (W.of .i64 51) (W.of .i64 49)=false from rfl,show W.eq (W.of .i64 51) (W.of .i64 50)=false from rfl,show W.eq (W.of .i64 51) (W.of .i64 51)=true from rfl,show W.eq (W.of .i64 51) (W.of .i64 52)=false from rfl,show W.eq (W.of .i64 51) (W.of .i64 53)=false from rfl,show W.ne (W.of .i64 51) (W.of .i64 53)=true from rfl,s1,s2,bind_some',put_p d0 d1,write_m d0 d1]
   exact ⟨_,_,rfl,rfl,fin _ r,fun _=>effS _ r s3⟩
  ·obtain ⟨r,s1,s2,s3⟩:=store (W.add old (m.A.R.get rb.n.toNat))
   simp only [Bool.not_true,Bool.not_false,Bool.false_eq_true,if_false,if_true,show W.ge (W.of .i64 52) (W.of .i64 34)=true from rfl,show W.ge (W.of .i64 52) (W.of .i64 51)=true from rfl,show W.ge (W.of .i64 52) (W.of .i64 54)=false from rfl,show W.ge (W.of .i64 52) (W.of .i64 43)=true from rfl,show W.ge (W.of .i64 52) (W.of .i64 25)=true from rfl,show W.le (W.of .i64 52) (W.of .i64 33)=false from rfl,show W.le (W.of .i64 52) (W.of .i64 39)=false from rfl,show W.le (W.of .i64 52) (W.of .i64 42)=false from rfl,show W.le (W.of .i64 52) (W.of .i64 50)=false from rfl,show W.le (W.of .i64 52) (W.of .i64 53)=true from rfl,show W.le (W.of .i64 52) (W.of .i64 48)=false from rfl,show W.eq (W.of .i64 52) (W.of .i64 49)=false from rfl,show W.eq (W.of .i64 52) (W.of .i64 50)=false from rfl,show W.eq (W.of .i64 52) (W.of .i64 51)=false from rfl,show W.eq (W.of .i64 52) (W.of .i64 52)=true from rfl,show W.eq (W.of .i64 52) (W.of .i64 53)=false from rfl,show W.ne (W.of .i64 52) (W.of .i64 53)=true from rfl,s1,s2,bind_some',put_p d0 d1,write_m d0 d1]
   exact ⟨_,_,rfl,rfl,fin _ r,fun _=>effS _ r s3⟩
  ·obtain ⟨r,s1,s2,s3⟩:=store (m.A.R.get rb.n.toNat)
   simp only [Bool.not_true,Bool.not_false,Bool.false_eq_true,if_false,if_true,show W.ge (W.of .i64 53) (W.of .i64 34)=true from rfl,show W.ge (W.of .i64 53) (W.of .i64 51)=true from rfl,show W.ge (W.of .i64 53) (W.of .i64 54)=false from rfl,show W.ge (W.of .i64 53) (W.of .i64 43)=true from rfl,show W.ge (W.of .i64 53) (W.of .i64 25)=true from rfl,show W.le (W.of .i64 53) (W.of .i64 33)=false from rfl,show W.le (W.of .i64 53) (W.of .i64 39)=false from rfl,show W.le (W.of .i64 53) (W.of .i64 42)=false from rfl,show W.le (W.of .i64 53) (W.of .i64 50)=false from rfl,show W.le (W.of .i64 53) (W.of .i64 53)=true from rfl,show W.le (W.of .i64 53) (W.of .i64 48)=false from rfl,show W.eq (W.of .i64 53) (W.of .i64 49)=false from rfl,show W.eq (W.of .i64 53) (W.of .i64 50)=false from rfl,show W.eq (W.of .i64 53) (W.of .i64 51)=false from rfl,show W.eq (W.of .i64 53) (W.of .i64 52)=false from rfl,show W.eq (W.of .i64 53) (W.of .i64 53)=true from rfl,show W.ne (W.of .i64 53) (W.of .i64 53)=false from rfl,s1,s2,bind_some',put_p d0 d1,write_m d0 d1,show (w0 m word).m.A.R=m.A.R from rfl]
   cases W.eq old (m.A.R.get rd.n.toNat) with
   | true=>exact ⟨_,_,rfl,rfl,fin _ r,fun _=>effS _ r s3⟩
   | false=>exact ⟨_,_,rfl,rfl,fin0,fun _=>eff_put (eff0 m word _) rfl _ d0 d1⟩
end Go.Proofs.YtedhidchlfhegaaGreatDoor
