/- YtedhidchlfhegaaGreatDoorDoes5: loads and stores; any instruction. No statement of the seat is proved here. -/
import Derived.Test.YtedhidchlfhegaaGreatDoorDoes4
set_option linter.unusedSimpArgs false
set_option linter.unusedVariables false
set_option maxRecDepth 100000
set_option maxHeartbeats 1000000
namespace Go.Proofs.YtedhidchlfhegaaGreatDoor
open Go Go.A2
theorem sext_eq (x:W .u32) (n:W .i64) (h:0 < n.n∧n.n≤32):∃ y,F_bits_Sext x n=some y∧F_ref01_Sext x n=some y:=⟨_,Sext_eq h,Sext01_eq ⟨Int.le_of_lt h.1,h.2⟩⟩
theorem size_same (op:W .i64):F_ref15_Size op=F_step_sizeOf op:=rfl
theorem memory_p (m:TMach) (word:W .u32) {k:Nat} {rd ra rb im:W .i64} (a0:0≤ra.n) (a1:ra.n < 16) (b0:0≤rb.n) (b1:rb.n < 16) (h1:34≤k) (h2:k≤42):
  F_ref15_do m (ev0 m word) (TInst.mk (wi k) rd ra rb im)=F_ref15_memory m (ev0 m word) (TInst.mk (wi k) rd ra rb im):=by
 have hn:(wi k).n=k:=wi_n (sm (by omega))
 have l:W.le (wi k) (W.of .i64 42)=true:=(le_k (op:=wi k) (k:=42) (by omega)).trans (by rw [hn];simp;omega)
 have g:W.ge (wi k) (W.of .i64 34)=true:=(ge_k (op:=wi k) (k:=34) (by omega)).trans (by rw [hn];simp;omega)
 unfold F_ref15_do T_ref15_do
 simp only [show TMach.mk (TArch.mk m.A.PC m.A.R m.A.C m.A.Halt) m.Mem m.Shadow m.Out=m from rfl,ev_opt,ev_ite,ev_ret,ev_sum,idx16 a0 a1,idx16 b0 b1,bind_some',Sum.elim_inl,Sum.elim_inr,l,g,Bool.false_eq_true,if_false,if_true,L_ref15_do_11,B_ref15_do_11,L_ref15_do_17,B_ref15_do_17,L_ref15_do_19,B_ref15_do_19,L_ref15_do_25,B_ref15_do_25,L_ref15_do_33,B_ref15_do_33,L_ref15_do_35,B_ref15_do_35,L_ref15_do_39,B_ref15_do_39,L_ref15_do_43,B_ref15_do_43,L_ref15_do_45,B_ref15_do_45,L_ref15_do_55,B_ref15_do_55,L_ref15_do_59,B_ref15_do_59]
 cases F_ref15_memory m (ev0 m word) _<;>rfl
theorem eff_lwp (m:TMach) (word x:W .u32) {r:W .i64} (h0:0≤r.n) (h1:r.n < 16) (hne:W.ne r (W.of .i64 0)=true):Eff m word { w0 m word with m:={ m with A:={ m.A with R:=Arr.set m.A.R r.n.toNat x } },ev:={ ev0 m word with Rd2:=r,Val2:=x } }:=by
 have hr:=W.ne_n.1 hne
 rw [show (W.of .i64 0).n=0 from rfl] at hr
 refine ⟨fun y hy=>?_,.inl rfl,.inr ⟨by show 1≤r.n;omega,h1⟩,(eff0 m word (w0 m word).next_).mem,(eff0 m word (w0 m word).next_).shadow,(eff0 m word (w0 m word).next_).out,(eff0 m word (w0 m word).next_).csr,rfl,rfl,rfl⟩
 show (m.A.R.set r.n.toNat x).get y=if 0 < y∧(W.of .i64 (-1)).n=(y:Int) then _ else if 0 < y∧r.n=(y:Int) then x else m.A.R.get y
 rw [if_neg (by rw [show (W.of .i64 (-1)).n=-1 from rfl];omega),Arr.get_set (by omega)]
 by_cases h:r.n.toNat=y
 ·rw [if_pos h,if_pos (by omega)]
 ·rw [if_neg h,if_neg (by omega)]
theorem does_load (m:TMach) (word:W .u32) (i:TInst) (ok:InstOk i) {k:Nat} (h:i.Op=wi k) (h1:34≤k) (h2:k≤39):∃ w d,F_step_does m word i=some w∧F_ref15_do m (ev0 m word) i=some d∧Done w d∧(w.cause=W.of .i64 0→Eff m word w):=by
 obtain ⟨o0,o1,d0,d1,a0,a1,b0,b1⟩:=ok
 obtain ⟨op,rd,ra,rb,im⟩:=i
 simp only at h d0 d1 a0 a1 b0 b1
 subst h
 have hn:(wi k).n=k:=wi_n (sm (by omega))
 have hP:F_step_does m word (TInst.mk (wi k) rd ra rb im)=F_step_work_loads (w0 m word) (TInst.mk (wi k) rd ra rb im) (m.A.R.get ra.n.toNat):=by
  have l33:W.le (wi k) (W.of .i64 33)=false:=(le_k (op:=wi k) (k:=33) (by omega)).trans (by rw [hn];simp;omega)
  have l39:W.le (wi k) (W.of .i64 39)=true:=(le_k (op:=wi k) (k:=39) (by omega)).trans (by rw [hn];simp;omega)
  unfold F_step_does T_step_does
  simp only [ev_opt,ev_ite,ev_ret,idx16 a0 a1,idx16 b0 b1,bind_some',l33,l39,Bool.false_eq_true,if_false,if_true]
  show (F_step_work_loads (w0 m word) _ _).bind _=_
  cases F_step_work_loads (w0 m word) _ _<;>rfl
 rw [hP,memory_p m word a0 a1 b0 b1 h1 (by omega)]
 have hk:k=34∨k=35∨k=36∨k=37∨k=38∨k=39:=by omega
 obtain ⟨av,hav⟩:∃ av,av=m.A.R.get ra.n.toNat:=⟨_,rfl⟩
 have fails:∀ (c:W .u32×W .i64) (va:W .u32),W.ne c.2 (W.of .i64 0)=true→Done { w0 m word with cause:=c.2,val:=va } (m,ev0 m word,c.2,va):=fun c va hc=>.inr ⟨hc,rfl,rfl⟩
 have fin:∀ v:W .u32,Done (putW (w0 m word) rd v) ((wrM { m with A:={ m.A with PC:=W.add m.A.PC (W.of .u32 4) } } (ev0 m word) rd v).1,(wrM { m with A:={ m.A with PC:=W.add m.A.PC (W.of .u32 4) } } (ev0 m word) rd v).2,W.of .i64 0,W.of .u32 0):=fun v=>
  .inl ⟨by unfold putW;split<;>rfl,rfl,rel_put (w:=w0 m word) ⟨rfl,rfl⟩ rd v⟩
 unfold F_step_work_loads T_step_work_loads F_ref15_memory T_ref15_memory
 rw [←hav]
 have lits:∀ z:Nat,(wi z:W .i64)=W.of .i64 ((z:Nat):Int):=fun _=>rfl
 rcases hk with rfl | rfl | rfl | rfl | rfl | rfl
 ·obtain ⟨c,c1,c2,c3⟩:=reach_eq m m.Mem (W.add av (W.conv .u32 im)) (W.of .i64 1) (k:=W.of .i64 2) (.inr (.inl rfl))
  have sz:F_step_sizeOf (wi 34)=some (W.of .i64 1):=rfl
  simp only [↓ev_opt,↓ev_ite,ev_ret,ev_sum,bind_some',Sum.elim_inl,Sum.elim_inr,Bool.not_true,Bool.not_false,Bool.false_eq_true,if_false,if_true,show W.eq (wi 34) (W.of .i64 34)=true from rfl,show W.eq (wi 34) (W.of .i64 36)=false from rfl,show W.eq (wi 34) (W.of .i64 39)=false from rfl,show W.ge (wi 34) (W.of .i64 40)=false from rfl,idx16 a0 a1,←hav,size_same,sz,show F_step_reach (w0 m word).m (w0 m word).m.Mem (W.add av (W.conv .u32 im)) (W.of .i64 1) (W.of .i64 2)=some c from c1,c2,F_step_work_fails,T_step_work_fails,L_ref15_memory_9,B_ref15_memory_9,L_ref15_memory_17,B_ref15_memory_17,L_ref15_memory_25,B_ref15_memory_25,L_ref15_memory_45,B_ref15_memory_45,L_ref15_memory_49,B_ref15_memory_49,L_ref15_memory_51,B_ref15_memory_51,L_ref15_memory_53,B_ref15_memory_53,L_ref15_memory_59,B_ref15_memory_59]
  cases hc:W.ne c.2 (W.of .i64 0) with
  | true=>exact ⟨_,_,rfl,rfl,fails c _ hc,nc hc⟩
  | false=>
   have hck:=c3 (by rw [W.ne_eq,Bool.not_eq_false'] at hc;exact W.eq_iff.1 hc)
   obtain ⟨y,y1,y2⟩:=sext_eq (W.of .u32 ((ofB (bytesAt m.Mem.l c.1.v (W.of .i64 1).v):Nat):Int)) (W.mul (W.of .i64 8) (W.of .i64 1)) ⟨by decide,by decide⟩
   simp only [Bool.false_eq_true,if_false,show (w0 m word).m.Mem=m.Mem from rfl,read_p,read_d,hck,if_true,bind_some',y1,y2,put_p d0 d1,write_m d0 d1]
   exact ⟨_,_,rfl,rfl,fin y,fun _=>eff_put (eff0 m word _) rfl _ d0 d1⟩
 ·obtain ⟨c,c1,c2,c3⟩:=reach_eq m m.Mem (W.add av (W.conv .u32 im)) (W.of .i64 1) (k:=W.of .i64 2) (.inr (.inl rfl))
  have sz:F_step_sizeOf (wi 35)=some (W.of .i64 1):=rfl
  simp only [↓ev_opt,↓ev_ite,ev_ret,ev_sum,bind_some',Sum.elim_inl,Sum.elim_inr,Bool.not_true,Bool.not_false,Bool.false_eq_true,if_false,if_true,show W.eq (wi 35) (W.of .i64 34)=false from rfl,show W.eq (wi 35) (W.of .i64 36)=false from rfl,show W.eq (wi 35) (W.of .i64 39)=false from rfl,show W.ge (wi 35) (W.of .i64 40)=false from rfl,idx16 a0 a1,←hav,size_same,sz,show F_step_reach (w0 m word).m (w0 m word).m.Mem (W.add av (W.conv .u32 im)) (W.of .i64 1) (W.of .i64 2)=some c from c1,c2,F_step_work_fails,T_step_work_fails,L_ref15_memory_9,B_ref15_memory_9,L_ref15_memory_17,B_ref15_memory_17,L_ref15_memory_25,B_ref15_memory_25,L_ref15_memory_45,B_ref15_memory_45,L_ref15_memory_49,B_ref15_memory_49,L_ref15_memory_51,B_ref15_memory_51,L_ref15_memory_53,B_ref15_memory_53,L_ref15_memory_59,B_ref15_memory_59]
  cases hc:W.ne c.2 (W.of .i64 0) with
  | true=>exact ⟨_,_,rfl,rfl,fails c _ hc,nc hc⟩
  | false=>
   have hck:=c3 (by rw [W.ne_eq,Bool.not_eq_false'] at hc;exact W.eq_iff.1 hc)
   simp only [Bool.false_eq_true,if_false,show (w0 m word).m.Mem=m.Mem from rfl,read_p,read_d,hck,if_true,bind_some',put_p d0 d1,write_m d0 d1]
   exact ⟨_,_,rfl,rfl,fin _,fun _=>eff_put (eff0 m word _) rfl _ d0 d1⟩
 ·obtain ⟨c,c1,c2,c3⟩:=reach_eq m m.Mem (W.add av (W.conv .u32 im)) (W.of .i64 2) (k:=W.of .i64 2) (.inr (.inl rfl))
  have sz:F_step_sizeOf (wi 36)=some (W.of .i64 2):=rfl
  simp only [↓ev_opt,↓ev_ite,ev_ret,ev_sum,bind_some',Sum.elim_inl,Sum.elim_inr,Bool.not_true,Bool.not_false,Bool.false_eq_true,if_false,if_true,show W.eq (wi 36) (W.of .i64 34)=false from rfl,show W.eq (wi 36) (W.of .i64 36)=true from rfl,show W.eq (wi 36) (W.of .i64 39)=false from rfl,show W.ge (wi 36) (W.of .i64 40)=false from rfl,idx16 a0 a1,←hav,size_same,sz,show F_step_reach (w0 m word).m (w0 m word).m.Mem (W.add av (W.conv .u32 im)) (W.of .i64 2) (W.of .i64 2)=some c from c1,c2,F_step_work_fails,T_step_work_fails,L_ref15_memory_9,B_ref15_memory_9,L_ref15_memory_17,B_ref15_memory_17,L_ref15_memory_25,B_ref15_memory_25,L_ref15_memory_45,B_ref15_memory_45,L_ref15_memory_49,B_ref15_memory_49,L_ref15_memory_51,B_ref15_memory_51,L_ref15_memory_53,B_ref15_memory_53,L_ref15_memory_59,B_ref15_memory_59]
  cases hc:W.ne c.2 (W.of .i64 0) with
  | true=>exact ⟨_,_,rfl,rfl,fails c _ hc,nc hc⟩
  | false=>
   have hck:=c3 (by rw [W.ne_eq,Bool.not_eq_false'] at hc;exact W.eq_iff.1 hc)
   obtain ⟨y,y1,y2⟩:=sext_eq (W.of .u32 ((ofB (bytesAt m.Mem.l c.1.v (W.of .i64 2).v):Nat):Int)) (W.mul (W.of .i64 8) (W.of .i64 2)) ⟨by decide,by decide⟩
   simp only [Bool.false_eq_true,if_false,show (w0 m word).m.Mem=m.Mem from rfl,read_p,read_d,hck,if_true,bind_some',y1,y2,put_p d0 d1,write_m d0 d1]
   exact ⟨_,_,rfl,rfl,fin y,fun _=>eff_put (eff0 m word _) rfl _ d0 d1⟩
 ·obtain ⟨c,c1,c2,c3⟩:=reach_eq m m.Mem (W.add av (W.conv .u32 im)) (W.of .i64 2) (k:=W.of .i64 2) (.inr (.inl rfl))
  have sz:F_step_sizeOf (wi 37)=some (W.of .i64 2):=rfl
  simp only [↓ev_opt,↓ev_ite,ev_ret,ev_sum,bind_some',Sum.elim_inl,Sum.elim_inr,Bool.not_true,Bool.not_false,Bool.false_eq_true,if_false,if_true,show W.eq (wi 37) (W.of .i64 34)=false from rfl,show W.eq (wi 37) (W.of .i64 36)=false from rfl,show W.eq (wi 37) (W.of .i64 39)=false from rfl,show W.ge (wi 37) (W.of .i64 40)=false from rfl,idx16 a0 a1,←hav,size_same,sz,show F_step_reach (w0 m word).m (w0 m word).m.Mem (W.add av (W.conv .u32 im)) (W.of .i64 2) (W.of .i64 2)=some c from c1,c2,F_step_work_fails,T_step_work_fails,L_ref15_memory_9,B_ref15_memory_9,L_ref15_memory_17,B_ref15_memory_17,L_ref15_memory_25,B_ref15_memory_25,L_ref15_memory_45,B_ref15_memory_45,L_ref15_memory_49,B_ref15_memory_49,L_ref15_memory_51,B_ref15_memory_51,L_ref15_memory_53,B_ref15_memory_53,L_ref15_memory_59,B_ref15_memory_59]
  cases hc:W.ne c.2 (W.of .i64 0) with
  | true=>exact ⟨_,_,rfl,rfl,fails c _ hc,nc hc⟩
  | false=>
   have hck:=c3 (by rw [W.ne_eq,Bool.not_eq_false'] at hc;exact W.eq_iff.1 hc)
   simp only [Bool.false_eq_true,if_false,show (w0 m word).m.Mem=m.Mem from rfl,read_p,read_d,hck,if_true,bind_some',put_p d0 d1,write_m d0 d1]
   exact ⟨_,_,rfl,rfl,fin _,fun _=>eff_put (eff0 m word _) rfl _ d0 d1⟩
 ·obtain ⟨c,c1,c2,c3⟩:=reach_eq m m.Mem (W.add av (W.conv .u32 im)) (W.of .i64 4) (k:=W.of .i64 2) (.inr (.inl rfl))
  have sz:F_step_sizeOf (wi 38)=some (W.of .i64 4):=rfl
  simp only [↓ev_opt,↓ev_ite,ev_ret,ev_sum,bind_some',Sum.elim_inl,Sum.elim_inr,Bool.not_true,Bool.not_false,Bool.false_eq_true,if_false,if_true,show W.eq (wi 38) (W.of .i64 34)=false from rfl,show W.eq (wi 38) (W.of .i64 36)=false from rfl,show W.eq (wi 38) (W.of .i64 39)=false from rfl,show W.ge (wi 38) (W.of .i64 40)=false from rfl,idx16 a0 a1,←hav,size_same,sz,show F_step_reach (w0 m word).m (w0 m word).m.Mem (W.add av (W.conv .u32 im)) (W.of .i64 4) (W.of .i64 2)=some c from c1,c2,F_step_work_fails,T_step_work_fails,L_ref15_memory_9,B_ref15_memory_9,L_ref15_memory_17,B_ref15_memory_17,L_ref15_memory_25,B_ref15_memory_25,L_ref15_memory_45,B_ref15_memory_45,L_ref15_memory_49,B_ref15_memory_49,L_ref15_memory_51,B_ref15_memory_51,L_ref15_memory_53,B_ref15_memory_53,L_ref15_memory_59,B_ref15_memory_59]
  cases hc:W.ne c.2 (W.of .i64 0) with
  | true=>exact ⟨_,_,rfl,rfl,fails c _ hc,nc hc⟩
  | false=>
   have hck:=c3 (by rw [W.ne_eq,Bool.not_eq_false'] at hc;exact W.eq_iff.1 hc)
   simp only [Bool.false_eq_true,if_false,show (w0 m word).m.Mem=m.Mem from rfl,read_p,read_d,hck,if_true,bind_some',put_p d0 d1,write_m d0 d1]
   exact ⟨_,_,rfl,rfl,fin _,fun _=>eff_put (eff0 m word _) rfl _ d0 d1⟩
 ·obtain ⟨c,c1,c2,c3⟩:=reach_eq m m.Mem av (W.of .i64 4) (k:=W.of .i64 2) (.inr (.inl rfl))
  have sz:F_step_sizeOf (wi 39)=some (W.of .i64 4):=rfl
  simp only [↓ev_opt,↓ev_ite,ev_ret,ev_sum,bind_some',Sum.elim_inl,Sum.elim_inr,Bool.not_true,Bool.not_false,Bool.false_eq_true,if_false,if_true,show W.eq (wi 39) (W.of .i64 34)=false from rfl,show W.eq (wi 39) (W.of .i64 36)=false from rfl,show W.eq (wi 39) (W.of .i64 39)=true from rfl,show W.ge (wi 39) (W.of .i64 40)=false from rfl,idx16 a0 a1,←hav,size_same,sz,show F_step_reach (w0 m word).m (w0 m word).m.Mem av (W.of .i64 4) (W.of .i64 2)=some c from c1,c2,F_step_work_fails,T_step_work_fails,L_ref15_memory_9,B_ref15_memory_9,L_ref15_memory_17,B_ref15_memory_17,L_ref15_memory_25,B_ref15_memory_25,L_ref15_memory_45,B_ref15_memory_45,L_ref15_memory_49,B_ref15_memory_49,L_ref15_memory_51,B_ref15_memory_51,L_ref15_memory_53,B_ref15_memory_53,L_ref15_memory_59,B_ref15_memory_59]
  cases hc:W.ne c.2 (W.of .i64 0) with
  | true=>exact ⟨_,_,rfl,rfl,fails c _ hc,nc hc⟩
  | false=>
   have hck:=c3 (by rw [W.ne_eq,Bool.not_eq_false'] at hc;exact W.eq_iff.1 hc)
   have hg:(Arr.set (w0 m word).m.A.R ra.n.toNat (W.add av (W.conv .u32 im))).get ra.n.toNat=W.add av (W.conv .u32 im):=Arr.get_same _ _ (by omega)
   simp only [Bool.false_eq_true,if_false,show (w0 m word).m.Mem=m.Mem from rfl,read_p,read_d,hck,if_true,bind_some',put_p d0 d1,write_m d0 d1,hg]
   cases hne:W.ne ra (W.of .i64 0)<;>cases W.ne ra rd<;>simp only [Bool.false_eq_true,if_false,if_true,put_p d0 d1,write_m d0 d1,bind_some']
   ·exact ⟨_,_,rfl,rfl,fin _,fun _=>eff_put (eff0 m word _) rfl _ d0 d1⟩
   ·exact ⟨_,_,rfl,rfl,fin _,fun _=>eff_put (eff0 m word _) rfl _ d0 d1⟩
   ·exact ⟨_,_,rfl,rfl,fin _,fun _=>eff_put (eff0 m word _) rfl _ d0 d1⟩
   ·refine ⟨_,_,rfl,rfl,.inl ⟨?_,rfl,?_⟩,fun _=>eff_put (w:={ w0 m word with m:={ m with A:={ m.A with R:=Arr.set m.A.R ra.n.toNat (W.add av (W.conv .u32 im)) } },ev:={ ev0 m word with Rd2:=ra,Val2:=W.add av (W.conv .u32 im) } }) (eff_lwp m word (W.add av (W.conv .u32 im)) a0 a1 hne) rfl _ d0 d1⟩
    ·unfold putW;split<;>rfl
    ·exact rel_put (w:={ w0 m word with m:={ m with A:={ m.A with R:=Arr.set m.A.R ra.n.toNat (W.add av (W.conv .u32 im)) } },ev:={ ev0 m word with Rd2:=ra,Val2:=W.add av (W.conv .u32 im) } }) ⟨rfl,rfl⟩ rd _
theorem bytes_mod (x n:Nat):bytesL (x % 2 ^ (8*n)) n=bytesL x n:=by
 unfold bytesL
 refine List.map_congr_left fun i hi=>?_
 have hi:=List.mem_range.1 hi
 congr 2
 rw [←pow256,show (256:Nat)=2 ^ 8 from rfl]
 refine Nat.eq_of_testBit_eq fun j=>?_
 rw [Nat.testBit_mod_two_pow,Nat.testBit_div_two_pow,Nat.testBit_mod_two_pow,Nat.testBit_mod_two_pow,Nat.testBit_div_two_pow]
 by_cases hj:j < 8
 ·have:j+8*i < 8*n:=by omega
  simp [hj,this]
 ·simp [hj]
theorem does_store (m:TMach) (word:W .u32) (i:TInst) (ok:InstOk i) {k:Nat} (h:i.Op=wi k) (h1:40≤k) (h2:k≤42):∃ w d,F_step_does m word i=some w∧F_ref15_do m (ev0 m word) i=some d∧Done w d∧(w.cause=W.of .i64 0→Eff m word w):=by
 obtain ⟨o0,o1,d0,d1,a0,a1,b0,b1⟩:=ok
 obtain ⟨op,rd,ra,rb,im⟩:=i
 simp only at h d0 d1 a0 a1 b0 b1
 subst h
 have hn:(wi k).n=k:=wi_n (sm (by omega))
 have hP:F_step_does m word (TInst.mk (wi k) rd ra rb im)=F_step_work_keeps (w0 m word) (TInst.mk (wi k) rd ra rb im) (m.A.R.get ra.n.toNat) (m.A.R.get rb.n.toNat):=by
  have l33:W.le (wi k) (W.of .i64 33)=false:=(le_k (op:=wi k) (k:=33) (by omega)).trans (by rw [hn];simp;omega)
  have l39:W.le (wi k) (W.of .i64 39)=false:=(le_k (op:=wi k) (k:=39) (by omega)).trans (by rw [hn];simp;omega)
  have l42:W.le (wi k) (W.of .i64 42)=true:=(le_k (op:=wi k) (k:=42) (by omega)).trans (by rw [hn];simp;omega)
  unfold F_step_does T_step_does
  simp only [ev_opt,ev_ite,ev_ret,idx16 a0 a1,idx16 b0 b1,bind_some',l33,l39,l42,Bool.false_eq_true,if_false,if_true]
  show (F_step_work_keeps (w0 m word) _ _ _).bind _=_
  cases F_step_work_keeps (w0 m word) _ _ _<;>rfl
 rw [hP,memory_p m word a0 a1 b0 b1 (by omega) h2]
 have hk:k=40∨k=41∨k=42:=by omega
 obtain ⟨av,hav⟩:∃ av,av=m.A.R.get ra.n.toNat:=⟨_,rfl⟩
 obtain ⟨bv,hbv⟩:∃ bv,bv=m.A.R.get rb.n.toNat:=⟨_,rfl⟩
 unfold F_step_work_keeps T_step_work_keeps F_ref15_memory T_ref15_memory
 rw [←hav,←hbv]
 rcases hk with rfl | rfl | rfl
 ·obtain ⟨c,c1,c2,c3⟩:=reach_eq m m.Mem (W.add av (W.conv .u32 im)) (W.of .i64 1) (k:=W.of .i64 3) (.inr (.inr rfl))
  have sz:F_step_sizeOf (wi 40)=some (W.of .i64 1):=rfl
  have z1:=Zext_eq (x:=bv) (n:=W.mul (W.of .i64 8) (W.of .i64 1)) ⟨by decide,by decide⟩
  have z2:=Zext01_eq (x:=bv) (n:=W.mul (W.of .i64 8) (W.of .i64 1)) ⟨by decide,by decide⟩
  obtain ⟨z,hz⟩:∃ z,z=W.of .u32 ((bv.v % 2 ^ (W.mul (W.of .i64 8) (W.of .i64 1)).v:Nat):Int):=⟨_,rfl⟩
  rw [←hz] at z1 z2
  have hzv:z.v=bv.v % 2 ^ (8*1):=by
   rw [hz,W.uof rfl,show (W.mul (W.of .i64 8) (W.of .i64 1)).v=8*1 from rfl]
   exact Nat.mod_eq_of_lt (Nat.lt_of_lt_of_le (Nat.mod_lt _ (Nat.pow_pos (by omega))) (by decide))
  simp only [↓ev_opt,↓ev_ite,ev_ret,ev_sum,bind_some',Sum.elim_inl,Sum.elim_inr,Bool.not_true,Bool.not_false,Bool.false_eq_true,if_false,if_true,show W.eq (wi 40) (W.of .i64 34)=false from rfl,show W.eq (wi 40) (W.of .i64 36)=false from rfl,show W.eq (wi 40) (W.of .i64 39)=false from rfl,show W.ge (wi 40) (W.of .i64 40)=true from rfl,idx16 a0 a1,idx16 b0 b1,←hav,←hbv,size_same,sz,show F_step_reach (w0 m word).m (w0 m word).m.Mem (W.add av (W.conv .u32 im)) (W.of .i64 1) (W.of .i64 3)=some c from c1,c2,F_step_work_fails,T_step_work_fails,L_ref15_memory_9,B_ref15_memory_9,L_ref15_memory_17,B_ref15_memory_17,L_ref15_memory_25,B_ref15_memory_25,L_ref15_memory_45,B_ref15_memory_45,L_ref15_memory_49,B_ref15_memory_49,L_ref15_memory_51,B_ref15_memory_51,L_ref15_memory_53,B_ref15_memory_53,L_ref15_memory_59,B_ref15_memory_59]
  cases hc:W.ne c.2 (W.of .i64 0) with
  | true=>exact ⟨_,_,rfl,rfl,.inr ⟨hc,rfl,rfl⟩,nc hc⟩
  | false=>
   have hck:=c3 (by rw [W.ne_eq,Bool.not_eq_false'] at hc;exact W.eq_iff.1 hc)
   rcases write_d m.Mem c.1 (W.of .i64 1) z with ⟨h,_⟩ | ⟨_,r,e1,e2⟩
   ·rw [hck] at h;cases h
   ·have e3:r.l=cpL m.Mem.l c.1.v (bytesL bv.v (W.of .i64 1).v):=by
     rw [e2,hzv]
     show cpL m.Mem.l c.1.v (bytesL (bv.v % 2 ^ (8*1)) 1)=_
     rw [bytes_mod];rfl
    have hs:=stores_p (w0 m word) c.1 (W.of .i64 1) bv z hck z1 e3
    simp only [Bool.false_eq_true,if_false,hs,z2,e1,bind_some']
    exact ⟨_,_,rfl,rfl,.inl ⟨rfl,rfl,rfl,rfl⟩,fun _=>⟨(eff0 m word (w0 m word).next_).regs,(eff0 m word (w0 m word).next_).rd,(eff0 m word (w0 m word).next_).rd2,.inr ⟨hck,e2⟩,(eff0 m word (w0 m word).next_).shadow,(eff0 m word (w0 m word).next_).out,(eff0 m word (w0 m word).next_).csr,(eff0 m word (w0 m word).next_).pc,(eff0 m word (w0 m word).next_).word_,(eff0 m word (w0 m word).next_).cause0⟩⟩
 ·obtain ⟨c,c1,c2,c3⟩:=reach_eq m m.Mem (W.add av (W.conv .u32 im)) (W.of .i64 2) (k:=W.of .i64 3) (.inr (.inr rfl))
  have sz:F_step_sizeOf (wi 41)=some (W.of .i64 2):=rfl
  have z1:=Zext_eq (x:=bv) (n:=W.mul (W.of .i64 8) (W.of .i64 2)) ⟨by decide,by decide⟩
  have z2:=Zext01_eq (x:=bv) (n:=W.mul (W.of .i64 8) (W.of .i64 2)) ⟨by decide,by decide⟩
  obtain ⟨z,hz⟩:∃ z,z=W.of .u32 ((bv.v % 2 ^ (W.mul (W.of .i64 8) (W.of .i64 2)).v:Nat):Int):=⟨_,rfl⟩
  rw [←hz] at z1 z2
  have hzv:z.v=bv.v % 2 ^ (8*2):=by
   rw [hz,W.uof rfl,show (W.mul (W.of .i64 8) (W.of .i64 2)).v=8*2 from rfl]
   exact Nat.mod_eq_of_lt (Nat.lt_of_lt_of_le (Nat.mod_lt _ (Nat.pow_pos (by omega))) (by decide))
  simp only [↓ev_opt,↓ev_ite,ev_ret,ev_sum,bind_some',Sum.elim_inl,Sum.elim_inr,Bool.not_true,Bool.not_false,Bool.false_eq_true,if_false,if_true,show W.eq (wi 41) (W.of .i64 34)=false from rfl,show W.eq (wi 41) (W.of .i64 36)=false from rfl,show W.eq (wi 41) (W.of .i64 39)=false from rfl,show W.ge (wi 41) (W.of .i64 40)=true from rfl,idx16 a0 a1,idx16 b0 b1,←hav,←hbv,size_same,sz,show F_step_reach (w0 m word).m (w0 m word).m.Mem (W.add av (W.conv .u32 im)) (W.of .i64 2) (W.of .i64 3)=some c from c1,c2,F_step_work_fails,T_step_work_fails,L_ref15_memory_9,B_ref15_memory_9,L_ref15_memory_17,B_ref15_memory_17,L_ref15_memory_25,B_ref15_memory_25,L_ref15_memory_45,B_ref15_memory_45,L_ref15_memory_49,B_ref15_memory_49,L_ref15_memory_51,B_ref15_memory_51,L_ref15_memory_53,B_ref15_memory_53,L_ref15_memory_59,B_ref15_memory_59]
  cases hc:W.ne c.2 (W.of .i64 0) with
  | true=>exact ⟨_,_,rfl,rfl,.inr ⟨hc,rfl,rfl⟩,nc hc⟩
  | false=>
   have hck:=c3 (by rw [W.ne_eq,Bool.not_eq_false'] at hc;exact W.eq_iff.1 hc)
   rcases write_d m.Mem c.1 (W.of .i64 2) z with ⟨h,_⟩ | ⟨_,r,e1,e2⟩
   ·rw [hck] at h;cases h
   ·have e3:r.l=cpL m.Mem.l c.1.v (bytesL bv.v (W.of .i64 2).v):=by
     rw [e2,hzv]
     show cpL m.Mem.l c.1.v (bytesL (bv.v % 2 ^ (8*2)) 2)=_
     rw [bytes_mod];rfl
    have hs:=stores_p (w0 m word) c.1 (W.of .i64 2) bv z hck z1 e3
    simp only [Bool.false_eq_true,if_false,hs,z2,e1,bind_some']
    exact ⟨_,_,rfl,rfl,.inl ⟨rfl,rfl,rfl,rfl⟩,fun _=>⟨(eff0 m word (w0 m word).next_).regs,(eff0 m word (w0 m word).next_).rd,(eff0 m word (w0 m word).next_).rd2,.inr ⟨hck,e2⟩,(eff0 m word (w0 m word).next_).shadow,(eff0 m word (w0 m word).next_).out,(eff0 m word (w0 m word).next_).csr,(eff0 m word (w0 m word).next_).pc,(eff0 m word (w0 m word).next_).word_,(eff0 m word (w0 m word).next_).cause0⟩⟩
 ·obtain ⟨c,c1,c2,c3⟩:=reach_eq m m.Mem (W.add av (W.conv .u32 im)) (W.of .i64 4) (k:=W.of .i64 3) (.inr (.inr rfl))
  have sz:F_step_sizeOf (wi 42)=some (W.of .i64 4):=rfl
  have z1:=Zext_eq (x:=bv) (n:=W.mul (W.of .i64 8) (W.of .i64 4)) ⟨by decide,by decide⟩
  have z2:=Zext01_eq (x:=bv) (n:=W.mul (W.of .i64 8) (W.of .i64 4)) ⟨by decide,by decide⟩
  obtain ⟨z,hz⟩:∃ z,z=W.of .u32 ((bv.v % 2 ^ (W.mul (W.of .i64 8) (W.of .i64 4)).v:Nat):Int):=⟨_,rfl⟩
  rw [←hz] at z1 z2
  have hzv:z.v=bv.v % 2 ^ (8*4):=by
   rw [hz,W.uof rfl,show (W.mul (W.of .i64 8) (W.of .i64 4)).v=8*4 from rfl]
   exact Nat.mod_eq_of_lt (Nat.lt_of_lt_of_le (Nat.mod_lt _ (Nat.pow_pos (by omega))) (by decide))
  simp only [↓ev_opt,↓ev_ite,ev_ret,ev_sum,bind_some',Sum.elim_inl,Sum.elim_inr,Bool.not_true,Bool.not_false,Bool.false_eq_true,if_false,if_true,show W.eq (wi 42) (W.of .i64 34)=false from rfl,show W.eq (wi 42) (W.of .i64 36)=false from rfl,show W.eq (wi 42) (W.of .i64 39)=false from rfl,show W.ge (wi 42) (W.of .i64 40)=true from rfl,idx16 a0 a1,idx16 b0 b1,←hav,←hbv,size_same,sz,show F_step_reach (w0 m word).m (w0 m word).m.Mem (W.add av (W.conv .u32 im)) (W.of .i64 4) (W.of .i64 3)=some c from c1,c2,F_step_work_fails,T_step_work_fails,L_ref15_memory_9,B_ref15_memory_9,L_ref15_memory_17,B_ref15_memory_17,L_ref15_memory_25,B_ref15_memory_25,L_ref15_memory_45,B_ref15_memory_45,L_ref15_memory_49,B_ref15_memory_49,L_ref15_memory_51,B_ref15_memory_51,L_ref15_memory_53,B_ref15_memory_53,L_ref15_memory_59,B_ref15_memory_59]
  cases hc:W.ne c.2 (W.of .i64 0) with
  | true=>exact ⟨_,_,rfl,rfl,.inr ⟨hc,rfl,rfl⟩,nc hc⟩
  | false=>
   have hck:=c3 (by rw [W.ne_eq,Bool.not_eq_false'] at hc;exact W.eq_iff.1 hc)
   rcases write_d m.Mem c.1 (W.of .i64 4) z with ⟨h,_⟩ | ⟨_,r,e1,e2⟩
   ·rw [hck] at h;cases h
   ·have e3:r.l=cpL m.Mem.l c.1.v (bytesL bv.v (W.of .i64 4).v):=by
     rw [e2,hzv]
     show cpL m.Mem.l c.1.v (bytesL (bv.v % 2 ^ (8*4)) 4)=_
     rw [bytes_mod];rfl
    have hs:=stores_p (w0 m word) c.1 (W.of .i64 4) bv z hck z1 e3
    simp only [Bool.false_eq_true,if_false,hs,z2,e1,bind_some']
    exact ⟨_,_,rfl,rfl,.inl ⟨rfl,rfl,rfl,rfl⟩,fun _=>⟨(eff0 m word (w0 m word).next_).regs,(eff0 m word (w0 m word).next_).rd,(eff0 m word (w0 m word).next_).rd2,.inr ⟨hck,e2⟩,(eff0 m word (w0 m word).next_).shadow,(eff0 m word (w0 m word).next_).out,(eff0 m word (w0 m word).next_).csr,(eff0 m word (w0 m word).next_).pc,(eff0 m word (w0 m word).next_).word_,(eff0 m word (w0 m word).next_).cause0⟩⟩
theorem does_eq (m:TMach) (word:W .u32) (i:TInst) (ok:InstOk i) (hout:m.Out.l.length≤1000):∃ w d,F_step_does m word i=some w∧F_ref15_do m (ev0 m word) i=some d∧Done w d∧(w.cause=W.of .i64 0→Eff m word w):=by
 have h0:=ok.op0
 have h1:=ok.op1
 have hk:i.Op=wi i.Op.n.toNat:=of_small (by omega)
 by_cases c1:i.Op.n≤33
 ·exact does_num m word i ok c1
 by_cases c2:i.Op.n≤39
 ·exact does_load m word i ok hk (by omega) (by omega)
 by_cases c3:i.Op.n≤42
 ·exact does_store m word i ok hk (by omega) (by omega)
 by_cases c4:i.Op.n≤48
 ·exact does_branch m word i ok (by omega) c4
 by_cases c5:i.Op.n≤50
 ·refine does_jump m word i ok ?_
  have:i.Op.n=49∨i.Op.n=50:=by omega
  rcases this with h | h
  ·exact .inl (W.ext (by rw [h];rfl))
  ·exact .inr (W.ext (by rw [h];rfl))
 by_cases c6:i.Op.n≤53
 ·refine does_atomic m word i ok ?_
  have:i.Op.n=51∨i.Op.n=52∨i.Op.n=53:=by omega
  rcases this with h | h | h
  ·exact .inl (W.ext (by rw [h];rfl))
  ·exact .inr (.inl (W.ext (by rw [h];rfl)))
  ·exact .inr (.inr (W.ext (by rw [h];rfl)))
 ·exact does_system m word i ok hout hk (by omega) (by omega)
end Go.Proofs.YtedhidchlfhegaaGreatDoor
