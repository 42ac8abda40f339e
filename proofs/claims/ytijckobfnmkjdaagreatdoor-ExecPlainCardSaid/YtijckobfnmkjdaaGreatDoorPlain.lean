/- YtijckobfnmkjdaaGreatDoorPlain: what a part makes is what its instruction does. No statement of the seat is proved here. -/
import Derived.Test.YtijckobfnmkjdaaGreatDoorDoes2
import Derived.Test.YtijckobfnmkjdaaGreatDoorInv
set_option linter.unusedSimpArgs false
set_option linter.unusedVariables false
set_option maxRecDepth 100000
namespace Go.Proofs.YtijckobfnmkjdaaGreatDoor
open Go Go.A2
theorem does_num_p (m:TMach) (word:W .u32) (i:TInst) (ok:InstOk i) (hop:i.Op.n≤33):∃ v,F_step_does m word i=some (putW (w0 m word) i.Rd v) ∧
  (i.Op.n=24→F_alu_Cmov (m.A.R.get i.Rd.n.toNat) (m.A.R.get i.Ra.n.toNat) (m.A.R.get i.Rb.n.toNat)=some v) ∧
  (¬ i.Op.n=24→F_exec_two i.Op (m.A.R.get i.Ra.n.toNat) (if 25≤i.Op.n then W.conv .u32 i.Imm else m.A.R.get i.Rb.n.toNat)=some v):=by
 obtain ⟨o0,o1,d0,d1,a0,a1,b0,b1⟩:=ok
 have hl33:W.le i.Op (W.of .i64 33)=true:=(le_k (op:=i.Op) (k:=33) (by omega)).trans (by simpa using hop)
 have e24:W.eq i.Op (W.of .i64 24)=decide (i.Op.n=24):=eq_k (op:=i.Op) (k:=24) (by omega)
 have g25:W.ge i.Op (W.of .i64 25)=decide (25≤i.Op.n):=ge_k (op:=i.Op) (k:=25) (by omega)
 obtain ⟨b,hb⟩:∃ b,b=if 25≤i.Op.n then W.conv .u32 i.Imm else m.A.R.get i.Rb.n.toNat:=⟨_,rfl⟩
 obtain ⟨r1,r2,r3,p1,p2,p3,q1,q2,q3,k1,k2,k3⟩:=alu_three i.Op (m.A.R.get i.Ra.n.toNat) b ⟨o0,hop⟩
 obtain ⟨cv,cm1,cm2⟩:=cmov_eq (m.A.R.get i.Rd.n.toNat) (m.A.R.get i.Ra.n.toNat) b
 obtain ⟨v,hv⟩:∃ v,v=if i.Op.n=24 then cv else if 11≤i.Op.n∧i.Op.n≤13 then r2.1 else if 14≤i.Op.n∧i.Op.n≤17 then r3.1 else r1.1:=⟨_,rfl⟩
 have hrec:F_step_work_reckon (w0 m word) i (m.A.R.get i.Ra.n.toNat) (m.A.R.get i.Rb.n.toNat)=some (putW (w0 m word) i.Rd v):=by
  have h19:∀ u,L_step_work_reckon_19 (w0 m word,i,u,())=some (putW (w0 m word) i.Rd u,()):=fun u=>by
   unfold L_step_work_reckon_19 B_step_work_reckon_19
   simp only [ev_opt,ev_ret,put_p d0 d1,bind_some']
  have h17:∀ (u:W .u32) (t:Bool),L_step_work_reckon_17 (w0 m word,m.A.R.get i.Ra.n.toNat,b,i,u,t,())=some (w0 m word,i,if t=true then cv else u,()):=fun u t=>by
   unfold L_step_work_reckon_17 B_step_work_reckon_17
   simp only [ev_opt,ev_ite,ev_ret,idx16 d0 d1,bind_some',show F_alu_Cmov (Arr.get (w0 m word).m.A.R i.Rd.n.toNat) (m.A.R.get i.Ra.n.toNat) b=some cv from cm1]
   cases t<;>rfl
  have h15:∀ (u:W .u32) (t:Bool),L_step_work_reckon_15 (w0 m word,m.A.R.get i.Ra.n.toNat,b,i,u,t,())=some (putW (w0 m word) i.Rd (if t=false∧i.Op.n=24 then cv else u),()):=fun u t=>by
   unfold L_step_work_reckon_15 B_step_work_reckon_15
   simp only [ev_opt,ev_ite,ev_ret,h17,h19,bind_some',e24]
   cases t with
   | true=>simp
   | false=>simp
  have h11:∀ (u:W .u32) (t:Bool),L_step_work_reckon_11 (w0 m word,m.A.R.get i.Ra.n.toNat,b,i,u,t,())=some (putW (w0 m word) i.Rd (if t=true then u else if r3.2=false∧i.Op.n=24 then cv else r3.1),()):=fun u t=>by
   unfold L_step_work_reckon_11 B_step_work_reckon_11
   simp only [ev_opt,ev_ite,ev_ret,p3,h15,bind_some']
   cases t with
   | true=>simp
   | false=>simp
  have h5:L_step_work_reckon_5 (w0 m word,m.A.R.get i.Ra.n.toNat,b,i,())=some (putW (w0 m word) i.Rd v,()):=by
   unfold L_step_work_reckon_5 B_step_work_reckon_5
   simp only [ev_opt,ev_ite,ev_ret,p1,p2,h11,bind_some',k1,k2,k3,hv]
   by_cases c24:i.Op.n=24
   ·simp [c24]
   ·by_cases c11:11≤i.Op.n∧i.Op.n≤13
    ·have:11≤i.Op.n∧i.Op.n≤17:=by omega
     simp [c24,c11,this]
    ·by_cases c14:14≤i.Op.n∧i.Op.n≤17
     ·have:11≤i.Op.n∧i.Op.n≤17:=by omega
      simp [c24,c11,c14,this]
     ·have:¬ (11≤i.Op.n∧i.Op.n≤17):=by omega
      simp [c24,c11,c14,this]
  have h3:∀ t:Bool,L_step_work_reckon_3 (w0 m word,m.A.R.get i.Ra.n.toNat,m.A.R.get i.Rb.n.toNat,i,t,())=some (w0 m word,m.A.R.get i.Ra.n.toNat,if t=true then W.conv .u32 i.Imm else m.A.R.get i.Rb.n.toNat,i,()):=fun t=>by cases t<;>rfl
  unfold F_step_work_reckon T_step_work_reckon
  simp only [ev_opt,ev_ite,ev_ret,g25,h3,hl33,bind_some',if_true,Bool.false_eq_true,if_false,decide_eq_true_eq]
  by_cases c25:25≤i.Op.n
  ·rw [if_pos c25] at hb ⊢
   rw [←hb,h5];rfl
  ·rw [if_neg c25] at hb ⊢
   rw [←hb,h5];rfl
 have hdoes:F_step_does m word i=some (putW (w0 m word) i.Rd v):=by
  unfold F_step_does T_step_does
  simp only [ev_opt,ev_ite,ev_ret,idx16 a0 a1,idx16 b0 b1,bind_some',hl33,if_true]
  show (F_step_work_reckon (w0 m word) i _ _).bind _=_
  rw [hrec];rfl
 refine ⟨v,hdoes,fun h24=>?_,fun h24=>?_⟩
 ·rw [if_neg (by omega)] at hb
  rw [←hb,cm1,hv,if_pos h24]
 ·rw [←hb]
  unfold F_exec_two T_exec_two
  simp only [ev_opt,ev_ite,ev_ret,p1,p2,p3,bind_some',k2,k3,decide_eq_true_eq]
  rw [hv,if_neg h24]
  by_cases c11:11≤i.Op.n∧i.Op.n≤13
  ·rw [if_pos c11,if_pos c11]
  ·rw [if_neg c11,if_neg c11]
   by_cases c14:14≤i.Op.n∧i.Op.n≤17
   ·rw [if_pos c14,if_pos c14]
   ·rw [if_neg c14,if_neg c14]
def regW (r:Nat):W .i64:=if r=0 then W.of .i64 (-1) else wi r
theorem crack_reg (r:Nat) (hr:r < 16):F_crack_reg (wi r)=some (regW r):=by
 unfold F_crack_reg T_crack_reg regW
 rw [ev_ite,show W.eq (wi r) (W.of .i64 0)=decide (r=0) from eq_small (b:=0) (by omega) (by omega)]
 by_cases h:r=0
 ·rw [if_pos (by simpa using h),if_pos h];rfl
 ·rw [if_neg (by simpa using h),if_neg h];rfl
def isPlain (k:Nat):Bool:=decide (k≤33) || (decide (43≤k)&&decide (k≤50)) || decide (k=63)
def unitN (k:Nat):Nat:=if 11≤k∧k≤13 then 2 else if 14≤k∧k≤17 then 3 else if 43≤k∧k≤50 then 4 else 1
noncomputable def plainRow (k:Nat):Bool:=(match F_crack_Unit (wi k) with | some u=>(if isPlain k=true then decide (u=wi (unitN k)) else decide (u=wi 0) || decide (u=wi 5) || decide (u=wi 6) || decide (u=wi 7)) | none=>false) &&
 (!isPlain k || (decide (F_crack_Serial (wi k)=some false)&&(decide (formN k=1) || decide (formN k=3) || decide (formN k=4) || ((decide (formN k=2) || decide (formN k=11))&&!hasN k 4) || (decide (formN k=5∨formN k=10)&&!hasN k 4&&!hasN k 2)) &&
  (!decide (k=24) || decide (formN k=1))&&(decide (formN k=1) || decide (formN k=2) || decide (formN k=5) || decide (formN k=11) || ((decide (formN k=3) || decide (formN k=4) || decide (formN k=10))&&!hasN k 1))))
theorem plain_all:(List.range 64).all (fun k=>decide (k=0) || plainRow k)=true:=by kernel_rfl
structure PlainOk (k:Nat):Prop where
 unit:F_crack_Unit (wi k)=some (wi (unitN k))
 serial:F_crack_Serial (wi k)=some false
 forms:(formN k=1∨formN k=3∨formN k=4)∨((formN k=2∨formN k=11)∧hasN k 4=false)∨((formN k=5∨formN k=10)∧hasN k 4=false∧hasN k 2=false)
 f24:k=24→formN k=1
 tgt:(formN k=1∨formN k=2∨formN k=5∨formN k=11)∨((formN k=3∨formN k=4∨formN k=10)∧hasN k 1=false)
theorem plain_row {k:Nat} (hk:k < 64) (h0:k ≠ 0):plainRow k=true:=by
 have:=all_lt plain_all hk
 rw [Bool.or_eq_true,decide_eq_true_eq] at this
 exact this.resolve_left h0
theorem plain_ok {k:Nat} (hk:k < 64) (h0:k ≠ 0) (hp:isPlain k=true):PlainOk k:=by
 have row:=plain_row hk h0
 unfold plainRow at row
 rw [Bool.and_eq_true,hp] at row
 obtain ⟨r1,r2⟩:=row
 simp only [Bool.not_true,Bool.false_or,Bool.and_eq_true,decide_eq_true_eq,Bool.or_eq_true,Bool.not_eq_true',decide_eq_false_iff_not] at r2
 obtain ⟨⟨⟨s,f⟩,g⟩,u⟩:=r2
 refine ⟨?_,s,?_,?_,?_⟩
 ·revert r1
  cases F_crack_Unit (wi k) with
  | none=>intro h;cases h
  | some u=>intro h;rw [show u=wi (unitN k) by simpa using h]
 ·rcases f with (f | ⟨f,g4⟩) | ⟨⟨f,g4⟩,g2⟩
  ·exact .inl (by omega)
  ·exact .inr (.inl ⟨f,g4⟩)
  ·exact .inr (.inr ⟨f,g4,g2⟩)
 ·intro h
  rcases g with g | g
  ·exact (g h).elim
  ·exact g
 ·rcases u with u | ⟨u,g1⟩
  ·exact .inl (by omega)
  ·exact .inr ⟨by omega,g1⟩
theorem unit_other {k:Nat} (hk:k < 64) (h0:k ≠ 0) (hp:isPlain k=false):∃ u,F_crack_Unit (wi k)=some u∧W.ne u (W.of .i64 1)=true∧W.ne u (W.of .i64 2)=true∧W.ne u (W.of .i64 3)=true∧W.ne u (W.of .i64 4)=true:=by
 have row:=plain_row hk h0
 unfold plainRow at row
 rw [Bool.and_eq_true,hp] at row
 have r1:=row.1
 revert r1
 cases F_crack_Unit (wi k) with
 | none=>intro h;cases h
 | some u=>
  intro h
  have h:((u=wi 0∨u=wi 5)∨u=wi 6)∨u=wi 7:=by simpa using h
  rcases h with ((rfl | rfl) | rfl) | rfl<;>exact ⟨_,rfl,rfl,rfl,rfl,rfl⟩
theorem regW0:regW 0=W.of .i64 (-1):=rfl
theorem sources_p {k rd ra rb:Nat} {n:W .i64} (hr:InstR k rd ra rb n) (hp:isPlain k=true):
  F_crack_sources (instI k rd ra rb n)=some (Arr.lit 3 [regW ra,regW rb,if k=24 then regW rd else W.of .i64 (-1)] rfl):=by
 have ok:=op_ok hr.k64
 have hlt:=ok.lt
 have pk:=plain_ok hr.k64 hr.k0 hp
 have e:∀ j:Nat,j≤1000→W.eq (wi (formN k)) (W.of .i64 (j:Int))=decide (formN k=j):=fun j hj=>eq_small (by omega) hj
 have e24:W.eq (wi k) (W.of .i64 24)=decide (k=24):=eq_small (b:=24) (by have:=hr.k64;omega) (by omega)
 unfold F_crack_sources T_crack_sources F_crack_none T_crack_none
 simp only [ev_opt,ev_ite,ev_ret,bind_some',pk.serial,Bool.false_eq_true,if_false,ok.form,show W.eq (wi (formN k)) (W.of .i64 1)=decide (formN k=1) from e 1 (by omega),show W.eq (wi (formN k)) (W.of .i64 3)=decide (formN k=3) from e 3 (by omega),show W.eq (wi (formN k)) (W.of .i64 4)=decide (formN k=4) from e 4 (by omega),show W.eq (wi (formN k)) (W.of .i64 2)=decide (formN k=2) from e 2 (by omega),show W.eq (wi (formN k)) (W.of .i64 11)=decide (formN k=11) from e 11 (by omega),e24,crack_reg _ hr.b1,crack_reg _ hr.b2,crack_reg _ hr.b3]
 rcases pk.forms with (h | h | h) | ⟨h | h,h4⟩ | ⟨h | h,h4,h2⟩
 ·by_cases c:k=24<;>simp [h,c]<;>rfl
 ·have c:¬ k=24:=fun h'=>by have:=pk.f24 h';omega
  simp [h,c];rfl
 ·have c:¬ k=24:=fun h'=>by have:=pk.f24 h';omega
  simp [h,c];rfl
 ·have c:¬ k=24:=fun h'=>by have:=pk.f24 h';omega
  have:=hr.c3 h4
  subst this
  simp [h,c,regW0];rfl
 ·have c:¬ k=24:=fun h'=>by have:=pk.f24 h';omega
  have:=hr.c3 h4
  subst this
  simp [h,c,regW0];rfl
 ·have c:¬ k=24:=fun h'=>by have:=pk.f24 h';omega
  have:=hr.c3 h4
  subst this
  have:=hr.c2 h2
  subst this
  simp [h,c,regW0]
 ·have c:¬ k=24:=fun h'=>by have:=pk.f24 h';omega
  have:=hr.c3 h4
  subst this
  have:=hr.c2 h2
  subst this
  simp [h,c,regW0]
theorem target_p {k rd ra rb:Nat} {n:W .i64} (hr:InstR k rd ra rb n) (hp:isPlain k=true):F_crack_target (instI k rd ra rb n)=some (regW rd):=by
 have ok:=op_ok hr.k64
 have hlt:=ok.lt
 have pk:=plain_ok hr.k64 hr.k0 hp
 have e:∀ j:Nat,j≤1000→W.eq (wi (formN k)) (W.of .i64 (j:Int))=decide (formN k=j):=fun j hj=>eq_small (by omega) hj
 unfold F_crack_target T_crack_target
 simp only [ev_opt,ev_ite,ev_ret,bind_some',ok.form,show W.eq (wi (formN k)) (W.of .i64 1)=decide (formN k=1) from e 1 (by omega),show W.eq (wi (formN k)) (W.of .i64 5)=decide (formN k=5) from e 5 (by omega),show W.eq (wi (formN k)) (W.of .i64 6)=decide (formN k=6) from e 6 (by omega),show W.eq (wi (formN k)) (W.of .i64 7)=decide (formN k=7) from e 7 (by omega),show W.eq (wi (formN k)) (W.of .i64 2)=decide (formN k=2) from e 2 (by omega),show W.eq (wi (formN k)) (W.of .i64 11)=decide (formN k=11) from e 11 (by omega),crack_reg _ hr.b1]
 rcases pk.tgt with (h | h | h | h) | ⟨h | h | h,h1⟩
 ·simp [h]
 ·simp [h]
 ·simp [h]
 ·simp [h]
 ·have:=hr.c1 h1;subst this;simp [h,regW0]
 ·have:=hr.c1 h1;subst this;simp [h,regW0]
 ·have:=hr.c1 h1;subst this;simp [h,regW0]
abbrev slotP (pc w:W .u32):TSlot:=TSlot.mk pc w (W.of .i64 0) (W.of .u32 0) (TGuess.mk false (W.of .u32 0) (TSave.mk (W.of .u32 0) (W.of .i64 0) (W.of .u32 0)))
abbrev uopP (k rd ra rb:Nat) (n:W .i64) (pc w:W .u32):TUop:=TUop.mk (instI k rd ra rb n) (slotP pc w) (wi (unitN k)) (W.of .i64 0) true (Arr.lit 3 [regW ra,regW rb,if k=24 then regW rd else W.of .i64 (-1)] rfl) (regW rd) (W.of .i64 0) (W.of .u32 0)
theorem uops_p {k rd ra rb:Nat} {n:W .i64} (hr:InstR k rd ra rb n) (hp:isPlain k=true) {w:W .u32} (hd:F_inst_Dec w=some (instI k rd ra rb n,W.of .i64 0)) (pc:W .u32):
  F_crack_Uops (slotP pc w)=some (Sl.lit 168 [uopP k rd ra rb n pc w] rfl):=by
 have pk:=plain_ok hr.k64 hr.k0 hp
 have e39:W.ne (wi k) (W.of .i64 39)=true:=by
  rw [W.ne_eq,show W.eq (wi k) (W.of .i64 39)=decide (k=39) from eq_small (b:=39) (by have:=hr.k64;omega) (by omega)]
  have:¬ k=39:=fun h=>by subst h;cases hp
  simp [this]
 unfold F_crack_Uops T_crack_Uops F_crack_part T_crack_part
 simp only [ev_opt,ev_ite,ev_ret,bind_some',W.ne_self,Bool.false_eq_true,if_false,hd,e39,if_true,pk.unit,sources_p hr hp,target_p hr hp]
end Go.Proofs.YtijckobfnmkjdaaGreatDoor
