/- YtedhidchlfhegaaGreatDoorDoes4: all others; loads and stores; any instruction. No statement of the seat is proved here. -/
import Derived.Test.YtedhidchlfhegaaGreatDoorDoes3
set_option linter.unusedSimpArgs false
set_option linter.unusedVariables false
set_option maxRecDepth 100000
set_option maxHeartbeats 1000000
namespace Go.Proofs.YtedhidchlfhegaaGreatDoor
open Go Go.A2
theorem csrWrite_pc {a:TArch} {n:W .i64} {v:W .u32} {r:TArch×W .i64} (h:F_csr_Write a n v=some r) (hr:W.ne r.2 (W.of .i64 0)=false):r.1.PC=a.PC:=by
 unfold F_csr_Write T_csr_Write F_csr_may T_csr_may at h
 simp only [ev_opt,ev_ite,ev_ret,kernel_p,bind_some'] at h
 rcases csr_in (n:=n) with ⟨h1,h2,h3,h4,h5⟩ | h1 | ⟨h1,h2,h3⟩
 ·obtain ⟨m,m1,m2⟩:=masked_eq n ⟨h4,h5⟩
  simp only [h1,h2,h3,idx?_some (n:=12) (i:=n) (by omega),bind_some',m1,m2] at h
  cases hk:kern a with
  | false=>rw [hk] at h;cases h;cases hr
  | true=>rw [hk] at h;cases h;rfl
 ·simp only [h1] at h
  cases hk:kern a<;>(rw [hk] at h;cases h;cases hr)
 ·simp only [h1,h2] at h
  cases hk:kern a<;>(rw [hk] at h;cases h;cases hr)
theorem csrWrite_r {a:TArch} {n:W .i64} {v:W .u32} {r:TArch×W .i64} (h:F_csr_Write a n v=some r) (hr:W.ne r.2 (W.of .i64 0)=false):r.1.R=a.R:=by
 unfold F_csr_Write T_csr_Write F_csr_may T_csr_may at h
 simp only [ev_opt,ev_ite,ev_ret,kernel_p,bind_some'] at h
 rcases csr_in (n:=n) with ⟨h1,h2,h3,h4,h5⟩ | h1 | ⟨h1,h2,h3⟩
 ·obtain ⟨m,m1,m2⟩:=masked_eq n ⟨h4,h5⟩
  simp only [h1,h2,h3,idx?_some (n:=12) (i:=n) (by omega),bind_some',m1,m2] at h
  cases hk:kern a with
  | false=>rw [hk] at h;cases h;cases hr
  | true=>rw [hk] at h;cases h;rfl
 ·simp only [h1] at h
  cases hk:kern a<;>(rw [hk] at h;cases h;cases hr)
 ·simp only [h1,h2] at h
  cases hk:kern a<;>(rw [hk] at h;cases h;cases hr)
theorem csrWrite_c {a:TArch} {n:W .i64} {v:W .u32} {r:TArch×W .i64} (h:F_csr_Write a n v=some r) (hr:W.ne r.2 (W.of .i64 0)=false):∃ (n:Nat) (v k:W .u32),n < 12∧F_ref11_Masked (wi n)=some k∧r.1.C=a.C.set n (W.and v k)∨∃ v:W .u32,kern a=true∧r.1.C=a.C.set 0 (mv (mv (a.C.get 0) (W.of .u32 1) ((a.C.get 0).v.testBit 2)) (W.of .u32 2) ((a.C.get 0).v.testBit 3)):=by
 unfold F_csr_Write T_csr_Write F_csr_may T_csr_may at h
 simp only [ev_opt,ev_ite,ev_ret,kernel_p,bind_some'] at h
 rcases csr_in (n:=n) with ⟨h1,h2,h3,h4,h5⟩ | h1 | ⟨h1,h2,h3⟩
 ·obtain ⟨m,m1,m2⟩:=masked_eq n ⟨h4,h5⟩
  simp only [h1,h2,h3,idx?_some (n:=12) (i:=n) (by omega),bind_some',m1,m2] at h
  cases hk:kern a with
  | false=>rw [hk] at h;cases h;cases hr
  | true=>
   rw [hk] at h;cases h
   exact ⟨n.n.toNat,v,m,.inl ⟨by omega,by rw [←of_small h4];exact m2,rfl⟩⟩
 ·simp only [h1] at h
  cases hk:kern a<;>(rw [hk] at h;cases h;cases hr)
 ·simp only [h1,h2] at h
  cases hk:kern a<;>(rw [hk] at h;cases h;cases hr)
theorem return_r {a:TArch} {r:TArch×W .i64} (h:F_trap_Return a=some r) (hr:W.ne r.2 (W.of .i64 0)=false):r.1.R=a.R:=by
 unfold F_trap_Return T_trap_Return at h
 simp only [ev_opt,ev_ite,ev_ret,kernel_p,bind_some',moved_p _ _ _ v4,moved_p _ _ _ v8] at h
 cases hk:kern a with
 | false=>rw [hk] at h;cases h;cases hr
 | true=>rw [hk] at h;cases h;rfl
theorem return_c {a:TArch} {r:TArch×W .i64} (h:F_trap_Return a=some r) (hr:W.ne r.2 (W.of .i64 0)=false):∃ (n:Nat) (v k:W .u32),n < 12∧F_ref11_Masked (wi n)=some k∧r.1.C=a.C.set n (W.and v k)∨∃ v:W .u32,kern a=true∧r.1.C=a.C.set 0 (mv (mv (a.C.get 0) (W.of .u32 1) ((a.C.get 0).v.testBit 2)) (W.of .u32 2) ((a.C.get 0).v.testBit 3)):=by
 have h3:(mv (a.C.get 0) (W.of .u32 1) ((a.C.get 0).v.testBit 2)).v.testBit 3=(a.C.get 0).v.testBit 3:=by
  rw [mv_bits,v1];rfl
 unfold F_trap_Return T_trap_Return at h
 simp only [ev_opt,ev_ite,ev_ret,kernel_p,bind_some',moved_p _ _ _ v4,moved_p _ _ _ v8,h3] at h
 cases hk:kern a with
 | false=>rw [hk] at h;cases h;cases hr
 | true=>rw [hk] at h;cases h;exact ⟨0,W.of .u32 0,W.of .u32 0,.inr ⟨W.of .u32 0,rfl,rfl⟩⟩
theorem does_system (m:TMach) (word:W .u32) (i:TInst) (ok:InstOk i) (hout:m.Out.l.length≤1000) {k:Nat} (h:i.Op=wi k) (h1:54≤k) (h2:k≤63):∃ w d,F_step_does m word i=some w∧F_ref15_do m (ev0 m word) i=some d∧Done w d∧(w.cause=W.of .i64 0→Eff m word w):=by
 obtain ⟨o0,o1,d0,d1,a0,a1,b0,b1⟩:=ok
 obtain ⟨op,rd,ra,rb,im⟩:=i
 simp only at h d0 d1 a0 a1 b0 b1
 subst h
 have hn:(wi k).n=k:=wi_n (sm (by omega))
 have hP:F_step_does m word (TInst.mk (wi k) rd ra rb im)=F_step_work_system (w0 m word) (TInst.mk (wi k) rd ra rb im) (m.A.R.get ra.n.toNat):=by
  have l:∀ j:Nat,j≤53→W.le (wi k) (W.of .i64 (j:Int))=false:=fun j hj=>(le_k (op:=wi k) (k:=j) (by omega)).trans (by rw [hn];simp;omega)
  unfold F_step_does T_step_does
  simp only [ev_opt,ev_ite,ev_ret,idx16 a0 a1,idx16 b0 b1,bind_some',show W.le (wi k) (W.of .i64 33)=false from l 33 (by omega),show W.le (wi k) (W.of .i64 39)=false from l 39 (by omega),show W.le (wi k) (W.of .i64 42)=false from l 42 (by omega),show W.le (wi k) (W.of .i64 50)=false from l 50 (by omega),show W.le (wi k) (W.of .i64 53)=false from l 53 (by omega),Bool.false_eq_true,if_false]
  show (F_step_work_system (w0 m word) _ _).bind _=_
  cases F_step_work_system (w0 m word) _ _<;>rfl
 have hD:F_ref15_do m (ev0 m word) (TInst.mk (wi k) rd ra rb im)=F_ref15_system m (ev0 m word) (TInst.mk (wi k) rd ra rb im):=by
  have l:∀ j:Nat,j≤53→W.le (wi k) (W.of .i64 (j:Int))=false:=fun j hj=>(le_k (op:=wi k) (k:=j) (by omega)).trans (by rw [hn];simp;omega)
  have g:∀ j:Nat,j≤54→W.ge (wi k) (W.of .i64 (j:Int))=true:=fun j hj=>(ge_k (op:=wi k) (k:=j) (by omega)).trans (by rw [hn];simp;omega)
  unfold F_ref15_do T_ref15_do
  simp only [show TMach.mk (TArch.mk m.A.PC m.A.R m.A.C m.A.Halt) m.Mem m.Shadow m.Out=m from rfl,ev_opt,ev_ite,ev_ret,ev_sum,idx16 a0 a1,idx16 b0 b1,bind_some',Sum.elim_inl,Sum.elim_inr,show W.ge (wi k) (W.of .i64 34)=true from g 34 (by omega),show W.ge (wi k) (W.of .i64 51)=true from g 51 (by omega),show W.ge (wi k) (W.of .i64 54)=true from g 54 (by omega),show W.le (wi k) (W.of .i64 42)=false from l 42 (by omega),show W.le (wi k) (W.of .i64 53)=false from l 53 (by omega),Bool.false_eq_true,if_false,if_true,L_ref15_do_11,B_ref15_do_11,L_ref15_do_17,B_ref15_do_17,L_ref15_do_19,B_ref15_do_19,L_ref15_do_25,B_ref15_do_25,L_ref15_do_33,B_ref15_do_33,L_ref15_do_35,B_ref15_do_35,L_ref15_do_39,B_ref15_do_39,L_ref15_do_43,B_ref15_do_43,L_ref15_do_45,B_ref15_do_45,L_ref15_do_55,B_ref15_do_55,L_ref15_do_59,B_ref15_do_59]
  cases F_ref15_system m (ev0 m word) _<;>rfl
 rw [hP,hD]
 unfold F_step_work_system T_step_work_system F_ref15_system T_ref15_system
 rw [ev_opt,idx16 a0 a1,bind_some']
 generalize m.A.R.get ra.n.toNat=av
 have hk:k=54∨k=55∨k=56∨k=57∨k=58∨k=59∨k=60∨k=61∨k=62∨k=63:=by omega
 have e:∀ j:Nat,j≤1000→W.eq (wi k) (W.of .i64 (j:Int))=decide (k=j):=fun j hj=>eq_small (by omega) hj
 have e54:W.eq (wi k) (W.of .i64 54)=decide (k=54):=e 54 (by omega)
 have e55:W.eq (wi k) (W.of .i64 55)=decide (k=55):=e 55 (by omega)
 have e56:W.eq (wi k) (W.of .i64 56)=decide (k=56):=e 56 (by omega)
 have e57:W.eq (wi k) (W.of .i64 57)=decide (k=57):=e 57 (by omega)
 have e59:W.eq (wi k) (W.of .i64 59)=decide (k=59):=e 59 (by omega)
 have e60:W.eq (wi k) (W.of .i64 60)=decide (k=60):=e 60 (by omega)
 have e61:W.eq (wi k) (W.of .i64 61)=decide (k=61):=e 61 (by omega)
 have e62:W.eq (wi k) (W.of .i64 62)=decide (k=62):=e 62 (by omega)
 obtain ⟨rt,rt1,rt2⟩:=return_eq m.A
 obtain ⟨cr,cr1,cr2⟩:=csrRead_eq m.A im
 obtain ⟨cw,cw1,cw2⟩:=csrWrite_eq m.A im av
 obtain ⟨l,l1,l2⟩:=app_lit (s:=m.Out) (x:=av) (hb:=rfl) (by unfold room;omega) (by unfold room;omega)
 have hnat:nat? (Sl.len m.Out)=some m.Out.l.length:=by rw [Sl.len_wi];exact nat_wi m.Out.h.2
 have hsub:Sl.sub3? m.Out 0 m.Out.l.length m.Out.l.length=some m.Out:=by
  unfold Sl.sub3?
  rw [if_pos ⟨rfl,Nat.le_refl _⟩]
  obtain ⟨r,r1,r2⟩:=sub_ok (x:=m.Out) (lo:=0) (hi:=m.Out.l.length) ⟨by omega,Nat.le_refl _⟩
  rw [r1];congr 1
  exact Sl.ext (by rw [r2];simp)
 rcases hk with rfl | rfl | rfl | rfl | rfl | rfl | rfl | rfl | rfl | rfl
 ·simp only [↓ev_opt,↓ev_ite,ev_ret,e54,Nat.reduceEqDiff,decide_true,if_true,bind_some',F_step_work_fails,T_step_work_fails]
  exact ⟨_,_,rfl,rfl,.inr ⟨rfl,rfl,rfl⟩,nc rfl⟩
 ·simp only [↓ev_opt,↓ev_ite,ev_ret,e54,e55,L_ref15_system_9,B_ref15_system_9,L_ref15_system_19,B_ref15_system_19,L_ref15_system_25,B_ref15_system_25,L_ref15_system_35,B_ref15_system_35,L_ref15_system_37,B_ref15_system_37,L_ref15_system_47,B_ref15_system_47,L_ref15_system_49,B_ref15_system_49,L_ref15_system_53,B_ref15_system_53,L_ref15_system_57,B_ref15_system_57,L_ref15_system_59,B_ref15_system_59,L_ref15_system_61,B_ref15_system_61,L_ref15_system_65,B_ref15_system_65,Nat.reduceEqDiff,decide_true,decide_false,Bool.false_eq_true,if_false,if_true,bind_some',show F_trap_Return (w0 m word).m.A=_ from rt1,rt2,F_step_work_fails,T_step_work_fails]
  cases hc:W.ne rt.2 (W.of .i64 0) with
  | true=>exact ⟨_,_,rfl,rfl,.inr ⟨hc,rfl,rfl⟩,nc hc⟩
  | false=>exact ⟨_,_,rfl,rfl,.inl ⟨rfl,rfl,rfl,rfl⟩,fun _=>⟨fun r hr=>(congrArg (fun a:Arr 16 (W .u32)=>a.get r) (return_r rt1 hc)).trans ((eff0 m word (W.of .u32 0)).regs r hr),(eff0 m word (w0 m word).next_).rd,(eff0 m word (w0 m word).next_).rd2,(eff0 m word (w0 m word).next_).mem,(eff0 m word (w0 m word).next_).shadow,(eff0 m word (w0 m word).next_).out,.inr (return_c rt1 hc),(eff0 m word (w0 m word).next_).pc,(eff0 m word (w0 m word).next_).word_,(eff0 m word (w0 m word).next_).cause0⟩⟩
 ·simp only [↓ev_opt,↓ev_ite,ev_ret,e54,e55,e56,e57,e59,e60,e61,e62,L_ref15_system_9,B_ref15_system_9,L_ref15_system_19,B_ref15_system_19,L_ref15_system_25,B_ref15_system_25,L_ref15_system_35,B_ref15_system_35,L_ref15_system_37,B_ref15_system_37,L_ref15_system_47,B_ref15_system_47,L_ref15_system_49,B_ref15_system_49,L_ref15_system_53,B_ref15_system_53,L_ref15_system_57,B_ref15_system_57,L_ref15_system_59,B_ref15_system_59,L_ref15_system_61,B_ref15_system_61,L_ref15_system_65,B_ref15_system_65,Nat.reduceEqDiff,decide_true,decide_false,Bool.false_eq_true,if_false,if_true,bind_some',show F_csr_Read (w0 m word).m.A im=_ from cr1,cr2,F_step_work_fails,T_step_work_fails,put_p d0 d1,write_m d0 d1]
  cases hc:W.ne cr.2 (W.of .i64 0) with
  | true=>exact ⟨_,_,rfl,rfl,.inr ⟨hc,rfl,rfl⟩,nc hc⟩
  | false=>exact ⟨_,_,rfl,rfl,.inl ⟨by unfold putW;split<;>rfl,rfl,by unfold putW wrM;split<;>exact ⟨rfl,rfl⟩⟩,fun _=>eff_put (eff0 m word _) rfl _ d0 d1⟩
 ·simp only [↓ev_opt,↓ev_ite,ev_ret,e54,e55,e56,e57,e59,e60,e61,e62,L_ref15_system_9,B_ref15_system_9,L_ref15_system_19,B_ref15_system_19,L_ref15_system_25,B_ref15_system_25,L_ref15_system_35,B_ref15_system_35,L_ref15_system_37,B_ref15_system_37,L_ref15_system_47,B_ref15_system_47,L_ref15_system_49,B_ref15_system_49,L_ref15_system_53,B_ref15_system_53,L_ref15_system_57,B_ref15_system_57,L_ref15_system_59,B_ref15_system_59,L_ref15_system_61,B_ref15_system_61,L_ref15_system_65,B_ref15_system_65,Nat.reduceEqDiff,decide_true,decide_false,Bool.false_eq_true,if_false,if_true,bind_some',show F_csr_Write (w0 m word).m.A im av=_ from cw1,cw2,F_step_work_fails,T_step_work_fails]
  cases hc:W.ne cw.2 (W.of .i64 0) with
  | true=>exact ⟨_,_,rfl,rfl,.inr ⟨hc,rfl,rfl⟩,nc hc⟩
  | false=>
   have hpc:cw.1.PC=m.A.PC:=csrWrite_pc cw1 hc
   refine ⟨_,_,rfl,rfl,.inl ⟨rfl,rfl,?_,rfl⟩,fun _=>⟨fun r hr=>(congrArg (fun a:Arr 16 (W .u32)=>a.get r) (csrWrite_r cw1 hc)).trans ((eff0 m word (W.of .u32 0)).regs r hr),(eff0 m word (w0 m word).next_).rd,(eff0 m word (w0 m word).next_).rd2,(eff0 m word (w0 m word).next_).mem,(eff0 m word (w0 m word).next_).shadow,(eff0 m word (w0 m word).next_).out,.inr (csrWrite_c cw1 hc),(eff0 m word (w0 m word).next_).pc,(eff0 m word (w0 m word).next_).word_,(eff0 m word (w0 m word).next_).cause0⟩⟩
   show TMach.mk { cw.1 with PC:=W.add cw.1.PC (W.of .u32 4) } m.Mem m.Shadow m.Out=TMach.mk { cw.1 with PC:=W.add m.A.PC (W.of .u32 4) } m.Mem m.Shadow m.Out
   rw [hpc]
 ·simp only [↓ev_opt,↓ev_ite,ev_ret,e54,e55,e56,e57,e59,e60,e61,e62,L_ref15_system_9,B_ref15_system_9,L_ref15_system_19,B_ref15_system_19,L_ref15_system_25,B_ref15_system_25,L_ref15_system_35,B_ref15_system_35,L_ref15_system_37,B_ref15_system_37,L_ref15_system_47,B_ref15_system_47,L_ref15_system_49,B_ref15_system_49,L_ref15_system_53,B_ref15_system_53,L_ref15_system_57,B_ref15_system_57,L_ref15_system_59,B_ref15_system_59,L_ref15_system_61,B_ref15_system_61,L_ref15_system_65,B_ref15_system_65,Nat.reduceEqDiff,decide_true,decide_false,Bool.false_eq_true,if_false,if_true,bind_some']
  exact ⟨_,_,rfl,rfl,.inl ⟨rfl,rfl,rfl,rfl⟩,fun _=>eff0 m word _⟩
 ·simp only [↓ev_opt,↓ev_ite,ev_ret,e54,e55,e56,e57,e59,e60,e61,e62,L_ref15_system_9,B_ref15_system_9,L_ref15_system_19,B_ref15_system_19,L_ref15_system_25,B_ref15_system_25,L_ref15_system_35,B_ref15_system_35,L_ref15_system_37,B_ref15_system_37,L_ref15_system_47,B_ref15_system_47,L_ref15_system_49,B_ref15_system_49,L_ref15_system_53,B_ref15_system_53,L_ref15_system_57,B_ref15_system_57,L_ref15_system_59,B_ref15_system_59,L_ref15_system_61,B_ref15_system_61,L_ref15_system_65,B_ref15_system_65,Nat.reduceEqDiff,decide_true,decide_false,Bool.false_eq_true,if_false,if_true,bind_some']
  exact ⟨_,_,rfl,rfl,.inl ⟨rfl,rfl,rfl,rfl⟩,fun _=>⟨(eff0 m word (w0 m word).next_).regs,(eff0 m word (w0 m word).next_).rd,(eff0 m word (w0 m word).next_).rd2,(eff0 m word (w0 m word).next_).mem,.inr rfl,(eff0 m word (w0 m word).next_).out,(eff0 m word (w0 m word).next_).csr,(eff0 m word (w0 m word).next_).pc,(eff0 m word (w0 m word).next_).word_,(eff0 m word (w0 m word).next_).cause0⟩⟩
 ·simp only [↓ev_opt,↓ev_ite,ev_ret,e54,e55,e56,e57,e59,e60,e61,e62,L_ref15_system_9,B_ref15_system_9,L_ref15_system_19,B_ref15_system_19,L_ref15_system_25,B_ref15_system_25,L_ref15_system_35,B_ref15_system_35,L_ref15_system_37,B_ref15_system_37,L_ref15_system_47,B_ref15_system_47,L_ref15_system_49,B_ref15_system_49,L_ref15_system_53,B_ref15_system_53,L_ref15_system_57,B_ref15_system_57,L_ref15_system_59,B_ref15_system_59,L_ref15_system_61,B_ref15_system_61,L_ref15_system_65,B_ref15_system_65,Nat.reduceEqDiff,decide_true,decide_false,Bool.false_eq_true,if_false,if_true,bind_some',show (w0 m word).m.Out=m.Out from rfl,hnat,hsub,l1]
  exact ⟨_,_,rfl,rfl,.inl ⟨rfl,rfl,rfl,rfl⟩,fun _=>⟨(eff0 m word (w0 m word).next_).regs,(eff0 m word (w0 m word).next_).rd,(eff0 m word (w0 m word).next_).rd2,(eff0 m word (w0 m word).next_).mem,(eff0 m word (w0 m word).next_).shadow,.inr ⟨av,l2⟩,(eff0 m word (w0 m word).next_).csr,(eff0 m word (w0 m word).next_).pc,(eff0 m word (w0 m word).next_).word_,(eff0 m word (w0 m word).next_).cause0⟩⟩
 ·simp only [↓ev_opt,↓ev_ite,ev_ret,e54,e55,e56,e57,e59,e60,e61,e62,L_ref15_system_9,B_ref15_system_9,L_ref15_system_19,B_ref15_system_19,L_ref15_system_25,B_ref15_system_25,L_ref15_system_35,B_ref15_system_35,L_ref15_system_37,B_ref15_system_37,L_ref15_system_47,B_ref15_system_47,L_ref15_system_49,B_ref15_system_49,L_ref15_system_53,B_ref15_system_53,L_ref15_system_57,B_ref15_system_57,L_ref15_system_59,B_ref15_system_59,L_ref15_system_61,B_ref15_system_61,L_ref15_system_65,B_ref15_system_65,Nat.reduceEqDiff,decide_true,decide_false,Bool.false_eq_true,if_false,if_true,bind_some']
  exact ⟨_,_,rfl,rfl,.inl ⟨rfl,rfl,rfl,rfl⟩,fun _=>⟨(eff0 m word (w0 m word).next_).regs,(eff0 m word (w0 m word).next_).rd,(eff0 m word (w0 m word).next_).rd2,(eff0 m word (w0 m word).next_).mem,(eff0 m word (w0 m word).next_).shadow,(eff0 m word (w0 m word).next_).out,(eff0 m word (w0 m word).next_).csr,(eff0 m word (w0 m word).next_).pc,(eff0 m word (w0 m word).next_).word_,(eff0 m word (w0 m word).next_).cause0⟩⟩
 ·simp only [↓ev_opt,↓ev_ite,ev_ret,e54,e55,e56,e57,e59,e60,e61,e62,L_ref15_system_9,B_ref15_system_9,L_ref15_system_19,B_ref15_system_19,L_ref15_system_25,B_ref15_system_25,L_ref15_system_35,B_ref15_system_35,L_ref15_system_37,B_ref15_system_37,L_ref15_system_47,B_ref15_system_47,L_ref15_system_49,B_ref15_system_49,L_ref15_system_53,B_ref15_system_53,L_ref15_system_57,B_ref15_system_57,L_ref15_system_59,B_ref15_system_59,L_ref15_system_61,B_ref15_system_61,L_ref15_system_65,B_ref15_system_65,Nat.reduceEqDiff,decide_true,decide_false,Bool.false_eq_true,if_false,if_true,bind_some']
  exact ⟨_,_,rfl,rfl,.inl ⟨rfl,rfl,rfl,rfl⟩,fun _=>⟨(eff0 m word (w0 m word).next_).regs,(eff0 m word (w0 m word).next_).rd,(eff0 m word (w0 m word).next_).rd2,(eff0 m word (w0 m word).next_).mem,(eff0 m word (w0 m word).next_).shadow,(eff0 m word (w0 m word).next_).out,(eff0 m word (w0 m word).next_).csr,(eff0 m word (w0 m word).next_).pc,(eff0 m word (w0 m word).next_).word_,(eff0 m word (w0 m word).next_).cause0⟩⟩
 ·simp only [↓ev_opt,↓ev_ite,ev_ret,e54,e55,e56,e57,e59,e60,e61,e62,L_ref15_system_9,B_ref15_system_9,L_ref15_system_19,B_ref15_system_19,L_ref15_system_25,B_ref15_system_25,L_ref15_system_35,B_ref15_system_35,L_ref15_system_37,B_ref15_system_37,L_ref15_system_47,B_ref15_system_47,L_ref15_system_49,B_ref15_system_49,L_ref15_system_53,B_ref15_system_53,L_ref15_system_57,B_ref15_system_57,L_ref15_system_59,B_ref15_system_59,L_ref15_system_61,B_ref15_system_61,L_ref15_system_65,B_ref15_system_65,Nat.reduceEqDiff,decide_true,decide_false,Bool.false_eq_true,if_false,if_true,bind_some']
  exact ⟨_,_,rfl,rfl,.inl ⟨rfl,rfl,rfl,rfl⟩,fun _=>eff0 m word _⟩
end Go.Proofs.YtedhidchlfhegaaGreatDoor
