/- YtedhidchlfhegaaGreatDoorDoes2: what an instruction does, class by class. No statement of the seat is proved here. -/
import Derived.Test.YtedhidchlfhegaaGreatDoorDoes
set_option linter.unusedSimpArgs false
set_option linter.unusedVariables false
set_option maxRecDepth 100000
set_option maxHeartbeats 1000000
namespace Go.Proofs.YtedhidchlfhegaaGreatDoor
open Go Go.A2
theorem idx16 {r:W .i64} (h0:0≤r.n) (h:r.n < 16):idx? 16 r=some r.n.toNat:=idx?_some (n:=16) (i:=r) (by omega)
theorem n_k (k:Nat) (h:k≤1000):(W.of .i64 (k:Int)).n=k:=wi_n (sm h)
section cond
variable {op:W .i64}
theorem ge_k {k:Nat} (hk:k≤1000):W.ge op (W.of .i64 (k:Int))=decide ((k:Int)≤op.n):=iff_bool (by rw [W.ge_n,n_k k hk,decide_eq_true_eq])
theorem le_k {k:Nat} (hk:k≤1000):W.le op (W.of .i64 (k:Int))=decide (op.n≤(k:Int)):=iff_bool (by rw [W.le_n,n_k k hk,decide_eq_true_eq])
theorem eq_k {k:Nat} (hk:k≤1000):W.eq op (W.of .i64 (k:Int))=decide (op.n=(k:Int)):=iff_bool (by rw [W.eq_n,n_k k hk,decide_eq_true_eq])
end cond
theorem does_num (m:TMach) (word:W .u32) (i:TInst) (ok:InstOk i) (hop:i.Op.n≤33):∃ w d,F_step_does m word i=some w∧F_ref15_do m (ev0 m word) i=some d∧Done w d∧(w.cause=W.of .i64 0→Eff m word w):=by
 obtain ⟨o0,o1,d0,d1,a0,a1,b0,b1⟩:=ok
 have hg25:=ge_k (op:=i.Op) (k:=25) (by omega)
 have hl33:W.le i.Op (W.of .i64 33)=true:=(le_k (op:=i.Op) (k:=33) (by omega)).trans (by simpa using hop)
 have g34:W.ge i.Op (W.of .i64 34)=false:=(ge_k (op:=i.Op) (k:=34) (by omega)).trans (by simp;omega)
 have g51:W.ge i.Op (W.of .i64 51)=false:=(ge_k (op:=i.Op) (k:=51) (by omega)).trans (by simp;omega)
 have g54:W.ge i.Op (W.of .i64 54)=false:=(ge_k (op:=i.Op) (k:=54) (by omega)).trans (by simp;omega)
 have g43:W.ge i.Op (W.of .i64 43)=false:=(ge_k (op:=i.Op) (k:=43) (by omega)).trans (by simp;omega)
 have e49:W.eq i.Op (W.of .i64 49)=false:=(eq_k (op:=i.Op) (k:=49) (by omega)).trans (by simp;omega)
 have e50:W.eq i.Op (W.of .i64 50)=false:=(eq_k (op:=i.Op) (k:=50) (by omega)).trans (by simp;omega)
 have e24:W.eq i.Op (W.of .i64 24)=decide (i.Op.n=24):=eq_k (op:=i.Op) (k:=24) (by omega)
 have g11:W.ge i.Op (W.of .i64 11)=decide (11≤i.Op.n):=ge_k (op:=i.Op) (k:=11) (by omega)
 have l13:W.le i.Op (W.of .i64 13)=decide (i.Op.n≤13):=le_k (op:=i.Op) (k:=13) (by omega)
 have g14:W.ge i.Op (W.of .i64 14)=decide (14≤i.Op.n):=ge_k (op:=i.Op) (k:=14) (by omega)
 have l17:W.le i.Op (W.of .i64 17)=decide (i.Op.n≤17):=le_k (op:=i.Op) (k:=17) (by omega)
 have g25:W.ge i.Op (W.of .i64 25)=decide (25≤i.Op.n):=hg25
 obtain ⟨b,hb⟩:∃ b,b=if 25≤i.Op.n then W.conv .u32 i.Imm else m.A.R.get i.Rb.n.toNat:=⟨_,rfl⟩
 obtain ⟨r1,r2,r3,p1,p2,p3,q1,q2,q3,k1,k2,k3⟩:=alu_three i.Op (m.A.R.get i.Ra.n.toNat) b ⟨o0,hop⟩
 obtain ⟨cv,cm1,cm2⟩:=cmov_eq (m.A.R.get i.Rd.n.toNat) (m.A.R.get i.Ra.n.toNat) b
 obtain ⟨v,hv⟩:∃ v,v=if i.Op.n=24 then cv else if 11≤i.Op.n∧i.Op.n≤13 then r2.1 else if 14≤i.Op.n∧i.Op.n≤17 then r3.1 else r1.1:=⟨_,rfl⟩
 have hval:F_ref15_value { m.A with PC:=W.add m.A.PC (W.of .u32 4) } i=some v:=by
  unfold F_ref15_value T_ref15_value
  simp only [ev_opt,ev_ite,ev_ret,idx16 a0 a1,idx16 b0 b1,idx16 d0 d1,bind_some',g25,e24,g11,l13,g14,l17,decide_eq_true_eq]
  by_cases c25:25≤i.Op.n
  ·rw [if_pos c25] at hb
   subst hb
   rw [if_pos c25,if_neg (show ¬ i.Op.n=24 by omega),if_pos (show 11≤i.Op.n by omega),if_neg (show ¬ i.Op.n≤13 by omega),if_pos (show 14≤i.Op.n by omega),if_neg (show ¬ i.Op.n≤17 by omega),q1,hv,if_neg (show ¬ i.Op.n=24 by omega),if_neg (by omega),if_neg (by omega)]
   rfl
  ·rw [if_neg c25] at hb
   subst hb
   rw [if_neg c25]
   by_cases c24:i.Op.n=24
   ·rw [if_pos c24,cm2,hv,if_pos c24];rfl
   ·rw [if_neg c24,hv,if_neg c24]
    by_cases c11:11≤i.Op.n
    ·rw [if_pos c11]
     by_cases c13:i.Op.n≤13
     ·rw [if_pos c13,q2,if_pos ⟨c11,c13⟩];rfl
     ·rw [if_neg c13,if_neg (show ¬ (11≤i.Op.n∧i.Op.n≤13) by omega)]
      rw [if_pos (show 14≤i.Op.n by omega)]
      by_cases c17:i.Op.n≤17
      ·rw [if_pos c17,q3,if_pos (by omega)];rfl
      ·rw [if_neg c17,q1,if_neg (by omega)];rfl
    ·rw [if_neg c11,if_neg (show ¬ 14≤i.Op.n by omega),q1,if_neg (by omega),if_neg (by omega)];rfl
 have hrec:F_step_work_reckon (w0 m word) i (m.A.R.get i.Ra.n.toNat) (m.A.R.get i.Rb.n.toNat)=some (putW (w0 m word) i.Rd v):=by
  have h19:∀ u,L_step_work_reckon_19 (w0 m word,i,u,())=some (putW (w0 m word) i.Rd u,()):=fun u=>by
   unfold L_step_work_reckon_19 B_step_work_reckon_19
   simp only [ev_opt,ev_ret,put_p d0 d1,bind_some']
  have h17:∀ (u:W .u32) (t:Bool),L_step_work_reckon_17 (w0 m word,m.A.R.get i.Ra.n.toNat,b,i,u,t,())=some (w0 m word,i,if t=true then cv else u,()):=fun u t=>by
   unfold L_step_work_reckon_17 B_step_work_reckon_17
   simp only [ev_opt,ev_ite,ev_ret,idx16 d0 d1,bind_some',show F_alu_Cmov (Arr.get (w0 m word).m.A.R i.Rd.n.toNat) (m.A.R.get i.Ra.n.toNat) b=some cv from cm1]
   cases t<;>rfl
  have h15:∀ (u:W .u32) (t:Bool),L_step_work_reckon_15 (w0 m word,m.A.R.get i.Ra.n.toNat,b,i,u,t,())=some (putW (w0 m word) i.Rd (if t=false∧i.Op.n=24 then cv else u),()):=fun u t=>by
   unfold L_step_work_reckon_15 B_step_work_reckon_15
   simp only [ev_opt,ev_ite,ev_ret,h17,h19,bind_some',e24]
   cases t with
   | true=>simp
   | false=>simp
  have h11:∀ (u:W .u32) (t:Bool),L_step_work_reckon_11 (w0 m word,m.A.R.get i.Ra.n.toNat,b,i,u,t,())=some (putW (w0 m word) i.Rd (if t=true then u else if r3.2=false∧i.Op.n=24 then cv else r3.1),()):=fun u t=>by
   unfold L_step_work_reckon_11 B_step_work_reckon_11
   simp only [ev_opt,ev_ite,ev_ret,p3,h15,bind_some']
   cases t with
   | true=>simp
   | false=>simp
  have h5:L_step_work_reckon_5 (w0 m word,m.A.R.get i.Ra.n.toNat,b,i,())=some (putW (w0 m word) i.Rd v,()):=by
   unfold L_step_work_reckon_5 B_step_work_reckon_5
   simp only [ev_opt,ev_ite,ev_ret,p1,p2,h11,bind_some',k1,k2,k3,hv]
   by_cases c24:i.Op.n=24
   ·simp [c24]
   ·by_cases c11:11≤i.Op.n∧i.Op.n≤13
    ·have:11≤i.Op.n∧i.Op.n≤17:=by omega
     simp [c24,c11,this]
    ·by_cases c14:14≤i.Op.n∧i.Op.n≤17
     ·have:11≤i.Op.n∧i.Op.n≤17:=by omega
      simp [c24,c11,c14,this]
     ·have:¬ (11≤i.Op.n∧i.Op.n≤17):=by omega
      simp [c24,c11,c14,this]
  have h3:∀ t:Bool,L_step_work_reckon_3 (w0 m word,m.A.R.get i.Ra.n.toNat,m.A.R.get i.Rb.n.toNat,i,t,())=some (w0 m word,m.A.R.get i.Ra.n.toNat,if t=true then W.conv .u32 i.Imm else m.A.R.get i.Rb.n.toNat,i,()):=fun t=>by cases t<;>rfl
  unfold F_step_work_reckon T_step_work_reckon
  simp only [ev_opt,ev_ite,ev_ret,g25,h3,hl33,bind_some',if_true,Bool.false_eq_true,if_false,decide_eq_true_eq]
  by_cases c25:25≤i.Op.n
  ·rw [if_pos c25] at hb ⊢
   rw [←hb,h5];rfl
  ·rw [if_neg c25] at hb ⊢
   rw [←hb,h5];rfl
 refine ⟨putW (w0 m word) i.Rd v,((wrM { m with A:={ m.A with PC:=W.add m.A.PC (W.of .u32 4) } } (ev0 m word) i.Rd v).1,(wrM { m with A:={ m.A with PC:=W.add m.A.PC (W.of .u32 4) } } (ev0 m word) i.Rd v).2,W.of .i64 0,W.of .u32 0),?_,?_,.inl ⟨?_,rfl,?_⟩,fun _=>eff_put (eff0 m word _) rfl v d0 d1⟩
 ·unfold F_step_does T_step_does
  simp only [ev_opt,ev_ite,ev_ret,idx16 a0 a1,idx16 b0 b1,bind_some',hl33,if_true]
  show (F_step_work_reckon (w0 m word) i _ _).bind _=_
  rw [hrec];rfl
 ·unfold F_ref15_do T_ref15_do
  simp only [ev_opt,ev_ite,ev_ret,ev_sum,idx16 a0 a1,idx16 b0 b1,bind_some',g34,g51,g54,g43,e49,e50,Bool.false_eq_true,if_false,if_true,Sum.elim_inr,
   L_ref15_do_11,B_ref15_do_11,L_ref15_do_17,B_ref15_do_17,L_ref15_do_19,B_ref15_do_19,L_ref15_do_25,B_ref15_do_25,L_ref15_do_33,B_ref15_do_33,L_ref15_do_35,B_ref15_do_35,L_ref15_do_43,B_ref15_do_43,L_ref15_do_45,B_ref15_do_45,L_ref15_do_59,B_ref15_do_59,hval,write_m d0 d1]
 ·unfold putW;split<;>rfl
 ·exact rel_put (w:=w0 m word) ⟨rfl,rfl⟩ i.Rd v
end Go.Proofs.YtedhidchlfhegaaGreatDoor
