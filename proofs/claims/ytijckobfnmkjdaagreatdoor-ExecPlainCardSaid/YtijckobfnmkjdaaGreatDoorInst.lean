/- YtijckobfnmkjdaaGreatDoorInst: words as instructions: the program's are the document's. No statement of the seat is proved here. -/
import Derived.Test.YtijckobfnmkjdaaGreatDoorWalk
set_option linter.unusedSimpArgs false
set_option linter.unusedVariables false
set_option maxRecDepth 100000
namespace Go.Proofs.YtijckobfnmkjdaaGreatDoor
open Go Go.A2
theorem put_eq {hi lo:W .i64} {m:W .u32} {l w:Nat} (hm:F_bits_mask hi lo=some (m,W.of .i64 (l:Nat))) (hv:m.v=(2 ^ w - 1)*2 ^ l) (hl:l+w≤32) (x v:W .u32) (hx:x.v % 2 ^ (l+w)=0):∃ y,F_bits_Put x hi lo v=some y∧y.v=x.v+v.v % 2 ^ w*2 ^ l:=by
 unfold F_bits_Put T_bits_Put
 have hn:(wi l).n=l:=wi_n (by unfold room;omega)
 have hsh:W.shl? v (W.of .i64 ((l:Nat):Int))=some (W.shl v (wi l)):=by
  unfold W.shl?;rw [if_neg (by rw [hn];omega)]
 simp only [ev_opt,ev_ret,hm,bind_some',hsh]
 refine ⟨_,rfl,?_⟩
 have hlv:(wi l).v=l:=by unfold W.v;rw [hn];rfl
 have hlt:v.v % 2 ^ w*2 ^ l < 2 ^ (l+w):=by
  rw [Nat.add_comm,Nat.pow_add]
  exact (Nat.mul_lt_mul_right (Nat.pow_pos (by omega))).2 (Nat.mod_lt _ (Nat.pow_pos (by omega)))
 obtain ⟨q,hq⟩:∃ q,x.v=2 ^ (l+w)*q:=⟨x.v / 2 ^ (l+w),by have:=Nat.div_add_mod x.v (2 ^ (l+w));omega⟩
 have hmb:∀ i,m.v.testBit i=(decide (l≤i)&&decide (i < l+w)):=fun i=>by
  rw [hv,Nat.mul_comm,Nat.testBit_two_pow_mul,Nat.testBit_two_pow_sub_one]
  by_cases h1:l≤i
  ·simp only [h1,decide_true,Bool.true_and,ge_iff_le]
   exact decide_eq_decide.2 (by omega)
  ·simp [h1]
 refine Nat.eq_of_testBit_eq fun i=>?_
 rw [or_bits,not_bits,and_bits,hmb,W.shl_v,hlv]
 rw [show x.v+v.v % 2 ^ w*2 ^ l=2 ^ (l+w)*q+v.v % 2 ^ w*2 ^ l by omega,Nat.testBit_two_pow_mul_add _ hlt]
 have hxb:∀ i,x.v.testBit i=(decide (l+w≤i)&&q.testBit (i - (l+w))):=fun i=>by
  rw [hq,Nat.testBit_two_pow_mul]
 rw [hxb]
 by_cases h1:i < l+w
 ·rw [if_pos h1,Nat.mul_comm (v.v % 2 ^ w),Nat.testBit_two_pow_mul,Nat.testBit_mod_two_pow]
  rw [show (v.v*2 ^ l % 4294967296).testBit i=(v.v*2 ^ l).testBit i by
   rw [show (4294967296:Nat)=2 ^ 32 from rfl,Nat.testBit_mod_two_pow];simp;omega]
  rw [Nat.mul_comm v.v,Nat.testBit_two_pow_mul]
  have h2:¬ l+w≤i:=by omega
  by_cases h3:l≤i
  ·have h4:i - l < w:=by omega
   simp [h1,h2,h3,h4]
  ·simp [h1,h2,h3]
 ·rw [if_neg h1]
  have h2:l+w≤i:=by omega
  simp [h1,h2]
noncomputable def formN (k:Nat):Nat:=((F_inst_Form (wi k)).getD (W.of .i64 0)).v
noncomputable def hasN (k b:Nat):Bool:=(F_inst_has (wi k) (wi b)).getD false
def wdN (f:Nat):Nat:=if f=5 then 18 else 14
noncomputable def opRow (k:Nat):Bool:=
 decide (F_inst_Form (wi k)=some (wi (formN k)))&&decide (F_ref06_Form (wi k)=some (wi (formN k))) &&
 decide (F_inst_has (wi k) (wi 1)=some (hasN k 1))&&decide (F_inst_has (wi k) (wi 2)=some (hasN k 2))&&decide (F_inst_has (wi k) (wi 4)=some (hasN k 4))&&decide (F_inst_has (wi k) (wi 8)=some (hasN k 8)) &&
 decide (F_ref06_Has (wi (formN k)) (wi 1)=some (hasN k 1))&&decide (F_ref06_Has (wi (formN k)) (wi 2)=some (hasN k 2))&&decide (F_ref06_Has (wi (formN k)) (wi 3)=some (hasN k 4))&&decide (F_ref06_Has (wi (formN k)) (wi 4)=some (hasN k 8)) &&
 decide (F_inst_width (wi k)=some (wi (wdN (formN k))))&&(decide (k=0) || !decide (formN k=0))&&decide (formN k < 12)&&decide (formN 0=0) &&
 (!decide (formN k=5) || (!hasN k 4&&hasN k 8))&&(decide (formN k=5)==(decide (k=33) || decide (k=49)))
theorem opRow_all:(List.range 64).all opRow=true:=by kernel_rfl
structure OpOk (k:Nat):Prop where
 form:F_inst_Form (wi k)=some (wi (formN k))
 rform:F_ref06_Form (wi k)=some (wi (formN k))
 h1:F_inst_has (wi k) (wi 1)=some (hasN k 1)
 h2:F_inst_has (wi k) (wi 2)=some (hasN k 2)
 h4:F_inst_has (wi k) (wi 4)=some (hasN k 4)
 h8:F_inst_has (wi k) (wi 8)=some (hasN k 8)
 r1:F_ref06_Has (wi (formN k)) (wi 1)=some (hasN k 1)
 r2:F_ref06_Has (wi (formN k)) (wi 2)=some (hasN k 2)
 r3:F_ref06_Has (wi (formN k)) (wi 3)=some (hasN k 4)
 r4:F_ref06_Has (wi (formN k)) (wi 4)=some (hasN k 8)
 width:F_inst_width (wi k)=some (wi (wdN (formN k)))
 pos:k=0∨formN k ≠ 0
 lt:formN k < 12
 zero:formN 0=0
 five:formN k=5→hasN k 4=false∧hasN k 8=true
 five':formN k=5 ↔ (k=33∨k=49)
theorem op_ok {k:Nat} (h:k < 64):OpOk k:=by
 have:=all_lt opRow_all h
 unfold opRow at this
 simp only [Bool.and_eq_true,decide_eq_true_eq,Bool.or_eq_true,Bool.not_eq_true',decide_eq_false_iff_not,beq_iff_eq] at this
 obtain ⟨⟨⟨⟨⟨⟨⟨⟨⟨⟨⟨⟨⟨⟨⟨a1,a2⟩,a3⟩,a4⟩,a5⟩,a6⟩,a7⟩,a8⟩,a9⟩,a10⟩,a11⟩,a12⟩,a13⟩,a14⟩,a15⟩,a16⟩:=this
 refine ⟨a1,a2,a3,a4,a5,a6,a7,a8,a9,a10,a11,a12,a13,a14,fun h=>?_,?_⟩
 ·rcases a15 with h' | h'
  ·exact (h' h).elim
  ·exact h'
 ·have:(decide (formN k=5)=true) ↔ ((decide (k=33) || decide (k=49))=true):=by rw [a16]
  simpa using this
def immB (k:Nat) (n:Int):Bool:=
 if 30≤k∧k≤32 then decide (0≤n∧n≤31) else if k=33 then decide (0≤n∧n < 262144) else if k=49 then decide (-131072≤n∧n < 131072) else decide (-8192≤n∧n < 8192)
theorem eq_small {a b:Nat} (h:a≤1000) (h':b≤1000):W.eq (wi a) (wi b)=decide (a=b):=wi_eq (sm h) (sm h')
theorem two_dec {a b:Bool} {p q r:Prop} [Decidable r] (ha:a=true ↔ p) (hb:b=true ↔ q) (hr:r ↔ p∧q):(if a=true then some b else some false)=some (decide r):=by
 cases a with
 | true=>simp only [if_true];congr 1;exact iff_bool (hb.trans (by rw [decide_eq_true_eq,hr];exact ⟨fun h=>⟨ha.1 rfl,h⟩,fun h=>h.2⟩))
 | false=>
  simp only [Bool.false_eq_true,if_false];congr 1
  apply Eq.symm;rw [decide_eq_false_iff_not,hr]
  intro h;have:=ha.2 h.1;cases this
theorem within_p {k:Nat} (hk:k < 64) (n:W .i64):F_inst_within (wi k) n=some (immB k n.n):=by
 unfold F_inst_within T_inst_within immB
 simp only [ev_ite,ev_ret,show ∀ j:Nat,j≤1000→W.eq (wi k) (W.of .i64 (j:Nat))=decide (k=j) from fun j hj=>eq_small (by omega) hj]
 have e:∀ j:Nat,j≤1000→W.eq (wi k) (W.of .i64 (j:Int))=decide (k=j):=fun j hj=>eq_small (by omega) hj
 rw [show W.eq (wi k) (W.of .i64 30)=decide (k=30) from e 30 (by omega),show W.eq (wi k) (W.of .i64 31)=decide (k=31) from e 31 (by omega),show W.eq (wi k) (W.of .i64 32)=decide (k=32) from e 32 (by omega),show W.eq (wi k) (W.of .i64 33)=decide (k=33) from e 33 (by omega),show W.eq (wi k) (W.of .i64 49)=decide (k=49) from e 49 (by omega)]
 simp only [decide_eq_true_eq]
 have t1:(if W.ge n (W.of .i64 0)=true then some (W.le n (W.of .i64 31)) else some false)=some (decide (0≤n.n∧n.n≤31)):=two_dec W.ge_n W.le_n Iff.rfl
 have t2:(if W.ge n (W.of .i64 0)=true then some (W.lt n (W.of .i64 262144)) else some false)=some (decide (0≤n.n∧n.n < 262144)):=two_dec W.ge_n W.lt_n Iff.rfl
 have t3:(if W.ge n (W.of .i64 (-131072))=true then some (W.lt n (W.of .i64 131072)) else some false)=some (decide (-131072≤n.n∧n.n < 131072)):=two_dec W.ge_n W.lt_n Iff.rfl
 have t4:(if W.ge n (W.of .i64 (-8192))=true then some (W.lt n (W.of .i64 8192)) else some false)=some (decide (-8192≤n.n∧n.n < 8192)):=two_dec W.ge_n W.lt_n Iff.rfl
 rw [t1,t2,t3,t4]
 by_cases c:30≤k∧k≤32
 ·rw [if_pos c]
  by_cases c0:k=30
  ·rw [if_pos c0]
  ·rw [if_neg c0]
   by_cases c1:k=31
   ·rw [if_pos c1]
   ·rw [if_neg c1,if_pos (by omega)]
 ·rw [if_neg c,if_neg (by omega),if_neg (by omega),if_neg (by omega)]
  by_cases c3:k=33
  ·rw [if_pos c3,if_pos c3]
  ·rw [if_neg c3,if_neg c3]
   by_cases c4:k=49
   ·rw [if_pos c4,if_pos c4]
   ·rw [if_neg c4,if_neg c4]
def immOf (k wd w:Nat):Int:=if k=33 then ((w % 2 ^ 18:Nat):Int) else if w % 2 ^ wd < 2 ^ (wd - 1) then ((w % 2 ^ wd:Nat):Int) else ((w % 2 ^ wd:Nat):Int) - 2 ^ wd
theorem back_n {s:Nat} (hs:s < 4294967296):(W.conv .i64 (W.conv .i32 (W.of .u32 (s:Nat)))).n=if s < 2147483648 then (s:Int) else (s:Int) - 4294967296:=by
 have hv:(W.of .u32 (s:Nat)).v=s:=by rw [W.uof rfl];exact Nat.mod_eq_of_lt hs
 rw [W.conv_n,sgn,hv,wrap_i64]
 split<;>omega
theorem sext14 (x:Nat):W.conv .i64 (W.conv .i32 (W.of .u32 ((sext x 14:Nat):Int)))=W.of .i64 (if x % 2 ^ 14 < 2 ^ (14 - 1) then ((x % 2 ^ 14:Nat):Int) else ((x % 2 ^ 14:Nat):Int) - 2 ^ 14):=by
 have e1:(2:Nat) ^ 14=16384:=by decide
 have e2:(2:Nat) ^ (14 - 1)=8192:=by decide
 have e3:(2:Int) ^ 14=16384:=by decide
 have e4:(2:Nat) ^ 32=4294967296:=by decide
 have hm:=Nat.mod_lt x (show 0 < 16384 by decide)
 by_cases hs:x % 2 ^ 14 < 2 ^ (14 - 1)
 ·rw [sext_lo (by decide) hs,if_pos hs,e1]
  rw [e1,e2] at hs
  refine W.ext ?_
  rw [back_n (by omega),if_pos (by omega),W.of_n,wrap_i64];omega
 ·rw [sext_hi (by decide) (by omega),if_neg hs,e1,e3,e4]
  rw [e1,e2] at hs
  refine W.ext ?_
  rw [back_n (by omega),if_neg (by omega),W.of_n,wrap_i64];omega
theorem sext18 (x:Nat):W.conv .i64 (W.conv .i32 (W.of .u32 ((sext x 18:Nat):Int)))=W.of .i64 (if x % 2 ^ 18 < 2 ^ (18 - 1) then ((x % 2 ^ 18:Nat):Int) else ((x % 2 ^ 18:Nat):Int) - 2 ^ 18):=by
 have e1:(2:Nat) ^ 18=262144:=by decide
 have e2:(2:Nat) ^ (18 - 1)=131072:=by decide
 have e3:(2:Int) ^ 18=262144:=by decide
 have e4:(2:Nat) ^ 32=4294967296:=by decide
 have hm:=Nat.mod_lt x (show 0 < 262144 by decide)
 by_cases hs:x % 2 ^ 18 < 2 ^ (18 - 1)
 ·rw [sext_lo (by decide) hs,if_pos hs,e1]
  rw [e1,e2] at hs
  refine W.ext ?_
  rw [back_n (by omega),if_pos (by omega),W.of_n,wrap_i64];omega
 ·rw [sext_hi (by decide) (by omega),if_neg hs,e1,e3,e4]
  rw [e1,e2] at hs
  refine W.ext ?_
  rw [back_n (by omega),if_neg (by omega),W.of_n,wrap_i64];omega
theorem number_p {k wd:Nat} (hk:k < 64) (hw:F_inst_width (wi k)=some (wi wd)) (hwd:wd=14∨wd=18) (w:W .u32):F_inst_number (wi k) w=some (W.of .i64 (immOf k wd w.v)):=by
 unfold F_inst_number T_inst_number immOf
 rw [ev_ite,show W.eq (wi k) (W.of .i64 33)=decide (k=33) from eq_small (b:=33) (by omega) (by omega)]
 by_cases h:k=33
 ·rw [if_pos (by simpa using h),if_pos h,ev_opt,Zext_eq (n:=W.of .i64 18) ⟨by decide,by decide⟩,bind_some',ev_ret]
  congr 1
  refine W.ext ?_
  rw [conv64_v,W.uof rfl,W.of_n,wrap_i64,show (W.of .i64 18).v=18 from rfl]
  have:=Nat.mod_lt w.v (show 0 < 2 ^ 18 by decide)
  rw [Nat.mod_eq_of_lt (by show w.v % 2 ^ 18 < 4294967296;omega)]
  omega
 ·have hn:(wi wd).n=wd:=wi_n (sm (by omega))
  rw [if_neg (by simpa using h),if_neg h,ev_opt,hw,bind_some',ev_opt,Sext_eq (by rw [hn];omega),bind_some',ev_ret]
  have hv:(wi wd).v=wd:=by unfold W.v;rw [hn];rfl
  rw [hv]
  rcases hwd with rfl | rfl
  ·rw [sext14]
  ·rw [sext18]
theorem conv_wi {n:Nat} (h:n≤1000):(W.conv .u32 (wi n)).v=n:=by
 have:(W.conv .u32 (wi n)).n=n:=by rw [W.conv_n,wi_n (sm h),wrap_u32];omega
 unfold W.v;rw [this];rfl
theorem right_p {k:Nat} (hk:k < 64) (h0:k ≠ 0) {rd ra rb:Nat} (b1:rd < 16) (b2:ra < 16) (b3:rb < 16) (c1:hasN k 1=false→rd=0) (c2:hasN k 2=false→ra=0) (c3:hasN k 4=false→rb=0) (n:W .i64) (c4:hasN k 8=false→n=W.of .i64 0):
  F_inst_Right (TInst.mk (wi k) (wi rd) (wi ra) (wi rb) n)=some (if hasN k 8=true∧immB k n.n=false then W.of .i64 3 else W.of .i64 0):=by
 have ok:=op_ok hk
 have hform:W.eq (wi (formN k)) (W.of .i64 0)=false:=by
  rw [show W.eq (wi (formN k)) (W.of .i64 0)=decide (formN k=0) from eq_small (b:=0) (by have:=ok.lt;omega) (by omega)]
  have:=ok.pos;simp;omega
 have hL:L_inst_Right_11 (TInst.mk (wi k) (wi rd) (wi ra) (wi rb) n,(Arr.lit 3 [(TS94.mk (W.of .i64 1) (wi rd) (W.of .i64 15)),(TS94.mk (W.of .i64 2) (wi ra) (W.of .i64 15)),(TS94.mk (W.of .i64 4) (wi rb) (W.of .i64 15))] rfl:Arr 3 TS94),wi 0,())=some (.inr (TInst.mk (wi k) (wi rd) (wi ra) (wi rb) n,(),())):=by
  have step:∀ (j b r:Nat) (x:TS94),j < 3→r < 16→x=TS94.mk (wi b) (wi r) (W.of .i64 15)→F_inst_has (wi k) (wi b)=some (hasN k b)→(hasN k b=false→r=0)→Arr.get (Arr.lit 3 [(TS94.mk (W.of .i64 1) (wi rd) (W.of .i64 15)),(TS94.mk (W.of .i64 2) (wi ra) (W.of .i64 15)),(TS94.mk (W.of .i64 4) (wi rb) (W.of .i64 15))] rfl:Arr 3 TS94) j=x→
    (B_inst_Right_11 (TInst.mk (wi k) (wi rd) (wi ra) (wi rb) n) (Arr.lit 3 [(TS94.mk (W.of .i64 1) (wi rd) (W.of .i64 15)),(TS94.mk (W.of .i64 2) (wi ra) (W.of .i64 15)),(TS94.mk (W.of .i64 4) (wi rb) (W.of .i64 15))] rfl) (wi j)).eval=some (.next (TInst.mk (wi k) (wi rd) (wi ra) (wi rb) n,Arr.lit 3 [(TS94.mk (W.of .i64 1) (wi rd) (W.of .i64 15)),(TS94.mk (W.of .i64 2) (wi ra) (W.of .i64 15)),(TS94.mk (W.of .i64 4) (wi rb) (W.of .i64 15))] rfl,wi (j+1),())):=by
   rintro j b r x hj hr rfl hh hc hg
   have hlt:W.lt (wi j) (W.of .i64 3)=true:=(lt_small (m:=3) (by omega) (by omega)).trans (by simpa using hj)
   have e1:W.lt (wi r) (W.of .i64 0)=false:=(lt_small (m:=0) (by omega) (by omega)).trans (by simp)
   have e2:W.gt (wi r) (W.of .i64 15)=false:=by rw [W.gt_lt];exact (lt_small (n:=15) (by omega) (by omega)).trans (by simp;omega)
   simp only [B_inst_Right_11,ev_ite,ev_opt,ev_ret,hlt,if_true,wi_idx (sm (show j≤1000 by omega)),hj,bind_some',hg,e1,e2,Bool.false_eq_true,if_false,hh,add_small (show j < 1000 by omega)]
   cases hb:hasN k b with
   | true=>rfl
   | false=>rw [hc hb];rfl
  unfold L_inst_Right_11 fuel
  rw [iter_succ,step 0 1 rd _ (by decide) b1 rfl ok.h1 c1 rfl]
  dsimp only
  rw [iter_succ,step 1 2 ra _ (by decide) b2 rfl ok.h2 c2 rfl]
  dsimp only
  rw [iter_succ,step 2 4 rb _ (by decide) b3 rfl ok.h4 c3 rfl]
  dsimp only
  rw [iter_succ]
  rfl
 unfold F_inst_Right T_inst_Right
 simp only [ev_opt,ev_ite,ev_ret,ok.form,bind_some',hform,Bool.false_eq_true,if_false,show L_inst_Right_11 (TInst.mk (wi k) (wi rd) (wi ra) (wi rb) n,_,W.of .i64 0,())=_ from hL,ev_sum,Sum.elim_inr,show F_inst_has (wi k) (W.of .i64 8)=_ from ok.h8,within_p hk]
 cases h8:hasN k 8 with
 | true=>
  simp only [Bool.not_true,Bool.false_eq_true,if_false,if_true,true_and]
  cases immB k n.n<;>rfl
 | false=>
  rw [c4 h8]
  simp [W.ne_self]
theorem enc_p {k:Nat} (hk:k < 64) (h0:k ≠ 0) {rd ra rb:Nat} (b1:rd < 16) (b2:ra < 16) (b3:rb < 16) (c1:hasN k 1=false→rd=0) (c2:hasN k 2=false→ra=0) (c3:hasN k 4=false→rb=0) (n:W .i64) (c4:hasN k 8=false→n=W.of .i64 0):
  (hasN k 8=true∧immB k n.n=false∧F_inst_Enc (TInst.mk (wi k) (wi rd) (wi ra) (wi rb) n)=some (W.of .u32 0,W.of .i64 3)) ∨
  (¬ (hasN k 8=true∧immB k n.n=false)∧∃ x,F_inst_Enc (TInst.mk (wi k) (wi rd) (wi ra) (wi rb) n)=some (x,W.of .i64 0)∧x.v=k*67108864+rd*4194304+ra*262144+rb*16384+if hasN k 8=true then (W.conv .u32 n).v % 2 ^ wdN (formN k) else 0):=by
 have ok:=op_ok hk
 have hr:=right_p hk h0 b1 b2 b3 c1 c2 c3 n c4
 unfold F_inst_Enc T_inst_Enc
 rw [ev_opt,hr,bind_some',ev_ite]
 by_cases hc:hasN k 8=true∧immB k n.n=false
 ·rw [if_pos hc];exact .inl ⟨hc.1,hc.2,rfl⟩
 ·rw [if_neg hc]
  refine .inr ⟨hc,?_⟩
  obtain ⟨y2,p2,q2⟩:=put_eq (hi:=W.of .i64 31) (lo:=W.of .i64 26) (m:=W.of .u32 4227858432) (l:=26) (w:=6) (by kernel_rfl) (by rfl) (by omega) (W.of .u32 0) (W.conv .u32 (wi k)) rfl
  rw [conv_wi (by omega),show (W.of .u32 0).v=0 from rfl,show (2:Nat) ^ 6=64 from rfl,show (2:Nat) ^ 26=67108864 from rfl] at q2
  obtain ⟨y3,p3,q3⟩:=put_eq (hi:=W.of .i64 25) (lo:=W.of .i64 22) (m:=W.of .u32 62914560) (l:=22) (w:=4) (by kernel_rfl) (by rfl) (by omega) y2 (W.conv .u32 (wi rd)) (by rw [q2];show _ % 67108864=0;omega)
  rw [conv_wi (by omega),q2,show (2:Nat) ^ 4=16 from rfl,show (2:Nat) ^ 22=4194304 from rfl] at q3
  obtain ⟨y4,p4,q4⟩:=put_eq (hi:=W.of .i64 21) (lo:=W.of .i64 18) (m:=W.of .u32 3932160) (l:=18) (w:=4) (by kernel_rfl) (by rfl) (by omega) y3 (W.conv .u32 (wi ra)) (by rw [q3];show _ % 4194304=0;omega)
  rw [conv_wi (by omega),q3,show (2:Nat) ^ 4=16 from rfl,show (2:Nat) ^ 18=262144 from rfl] at q4
  obtain ⟨y5,p5,q5⟩:=put_eq (hi:=W.of .i64 17) (lo:=W.of .i64 14) (m:=W.of .u32 245760) (l:=14) (w:=4) (by kernel_rfl) (by rfl) (by omega) y4 (W.conv .u32 (wi rb)) (by rw [q4];show _ % 262144=0;omega)
  rw [conv_wi (by omega),q4,show (2:Nat) ^ 4=16 from rfl,show (2:Nat) ^ 14=16384 from rfl] at q5
  simp only [W.ne_self,Bool.false_eq_true,if_false,ev_opt,p2,p3,p4,p5,bind_some',show F_inst_has (wi k) (W.of .i64 8)=_ from ok.h8,ev_ite,ev_ret,ok.width]
  cases h8:hasN k 8 with
  | false=>exact ⟨_,rfl,by rw [q5];simp;omega⟩
  | true=>
   by_cases h5:formN k=5
   ·have hrb:=c3 (ok.five h5).1
    have hw:wdN (formN k)=18:=by unfold wdN;rw [if_pos h5]
    obtain ⟨y6,p6,q6⟩:=put_eq (hi:=W.of .i64 17) (lo:=W.of .i64 0) (m:=W.of .u32 262143) (l:=0) (w:=18) (by kernel_rfl) (by rfl) (by omega) y5 (W.conv .u32 n) (by rw [q5];show _ % 262144=0;omega)
    rw [hw]
    simp only [if_true,bind_some',show W.sub (wi 18) (W.of .i64 1)=W.of .i64 17 from rfl,p6]
    exact ⟨_,rfl,by rw [q6,q5];simp;omega⟩
   ·have hw:wdN (formN k)=14:=by unfold wdN;rw [if_neg h5]
    obtain ⟨y6,p6,q6⟩:=put_eq (hi:=W.of .i64 13) (lo:=W.of .i64 0) (m:=W.of .u32 16383) (l:=0) (w:=14) (by kernel_rfl) (by rfl) (by omega) y5 (W.conv .u32 n) (by rw [q5];show _ % 16384=0;omega)
    rw [hw]
    simp only [if_true,bind_some',show W.sub (wi 14) (W.of .i64 1)=W.of .i64 13 from rfl,p6]
    exact ⟨_,rfl,by rw [q6,q5];simp;omega⟩
end Go.Proofs.YtijckobfnmkjdaaGreatDoor
