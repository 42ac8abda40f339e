/- YtedhidchlfhegaaGreatDoorInst2: a word as an instruction: the program's answer is the document's. No statement of the seat is proved here. -/
import Derived.Test.YtedhidchlfhegaaGreatDoorInst
set_option linter.unusedSimpArgs false
set_option linter.unusedVariables false
set_option maxRecDepth 100000
namespace Go.Proofs.YtedhidchlfhegaaGreatDoor
open Go Go.A2
def zeroI:TInst:=TInst.mk (W.of .i64 0) (W.of .i64 0) (W.of .i64 0) (W.of .i64 0) (W.of .i64 0)
structure InstOk (i:TInst):Prop where
 op0:1≤i.Op.n
 op1:i.Op.n < 64
 rd0:0≤i.Rd.n
 rd1:i.Rd.n < 16
 ra0:0≤i.Ra.n
 ra1:i.Ra.n < 16
 rb0:0≤i.Rb.n
 rb1:i.Rb.n < 16
theorem conv_nat {x:W .u32}:W.conv .i64 x=wi x.v:=by
 have:=x.v_lt
 refine W.ext ?_
 rw [conv64_v,wi_n (by unfold room;omega)]
theorem dec_p {w:W .u32} {k rd ra rb:Nat} (hk64:k < 64) (h0:k ≠ 0) {yk yd ya yb:W .u32} {n:W .i64} (k1:F_bits_Field w (W.of .i64 31) (W.of .i64 26)=some yk) (d1:F_bits_Field w (W.of .i64 25) (W.of .i64 22)=some yd) (a1:F_bits_Field w (W.of .i64 21) (W.of .i64 18)=some ya) (b1:F_bits_Field w (W.of .i64 17) (W.of .i64 14)=some yb)
  (vk:W.conv .i64 yk=wi k) (vd:W.conv .i64 yd=wi rd) (va:W.conv .i64 ya=wi ra) (vb:W.conv .i64 yb=wi rb) (hnum:F_inst_number (wi k) w=some n):
  F_inst_Dec w=(F_inst_Enc (TInst.mk (wi k) (wi (if hasN k 1=true then rd else 0)) (wi (if hasN k 2=true then ra else 0)) (wi (if hasN k 4=true then rb else 0)) (if hasN k 8=true then n else W.of .i64 0))).bind fun r=>if W.ne r.2 (W.of .i64 0)=true then some (zeroI,W.of .i64 2) else if W.ne r.1 w=true then some (zeroI,W.of .i64 2) else some (TInst.mk (wi k) (wi (if hasN k 1=true then rd else 0)) (wi (if hasN k 2=true then ra else 0)) (wi (if hasN k 4=true then rb else 0)) (if hasN k 8=true then n else W.of .i64 0),W.of .i64 0):=by
 have ok:=op_ok hk64
 have heqk:W.eq (wi k) (W.of .i64 0)=decide (k=0):=eq_small (b:=0) (by omega) (by omega)
 have q1:F_inst_has (wi k) (W.of .i64 1)=some (hasN k 1):=ok.h1
 have q2:F_inst_has (wi k) (W.of .i64 2)=some (hasN k 2):=ok.h2
 have q4:F_inst_has (wi k) (W.of .i64 4)=some (hasN k 4):=ok.h4
 have q8:F_inst_has (wi k) (W.of .i64 8)=some (hasN k 8):=ok.h8
 have z0:(wi 0:W .i64)=W.of .i64 0:=rfl
 clear ok
 generalize hasN k 1=g1 at q1 ⊢
 generalize hasN k 2=g2 at q2 ⊢
 generalize hasN k 4=g4 at q4 ⊢
 generalize hasN k 8=g8 at q8 ⊢
 unfold F_inst_Dec T_inst_Dec zeroI
 rw [ev_opt,k1,bind_some',ev_ite,vk,heqk,if_neg (by simpa using h0)]
 cases g1<;>cases g2<;>cases g4<;>cases g8 <;>
  simp only [↓ev_opt,↓ev_ite,q1,q2,q4,q8,bind_some',Bool.false_eq_true,if_false,if_true,d1,a1,b1,vd,va,vb,hnum,ev_ret,z0]
theorem word14 {k rd ra rb im:Nat} (h1:rd < 16) (h2:ra < 16) (h3:rb < 16) (h4:im < 16384) (g1 g2 g4 g8:Bool):
  (k*67108864+(if g1=true then rd else 0)*4194304+(if g2=true then ra else 0)*262144+(if g4=true then rb else 0)*16384+(if g8=true then im else 0)=k*67108864+rd*4194304+ra*262144+rb*16384+im) ↔ (rd=0∨g1=true)∧(ra=0∨g2=true)∧(rb=0∨g4=true)∧(im=0∨g8=true):=by
 cases g1<;>cases g2<;>cases g4<;>cases g8<;>simp only [Bool.false_eq_true,if_false,if_true,or_false,or_true,true_and,and_true]<;>omega
theorem word18 {k rd ra im:Nat} (h1:rd < 16) (h2:ra < 16) (h4:im < 262144) (g1 g2:Bool):
  (k*67108864+(if g1=true then rd else 0)*4194304+(if g2=true then ra else 0)*262144+0*16384+im=k*67108864+rd*4194304+ra*262144+im) ↔ (rd=0∨g1=true)∧(ra=0∨g2=true):=by
 rw [Nat.zero_mul,Nat.add_zero]
 cases g1<;>cases g2<;>simp only [Bool.false_eq_true,if_false,if_true,or_false,or_true,true_and,and_true]<;>omega
theorem dec18 {v k rd ra rb a b:Nat} (hd:v=k*67108864+rd*4194304+ra*262144+rb*16384+a) (h:b=rb*16384+a):v=k*67108864+rd*4194304+ra*262144+b:=by rw [hd,h,Nat.add_assoc _ (rb*16384) a]
theorem instOk_mk {k rd ra rb:Nat} {n:W .i64} (h0:k ≠ 0) (hk:k < 64) (h1:rd < 16) (h2:ra < 16) (h3:rb < 16):InstOk (TInst.mk (wi k) (wi rd) (wi ra) (wi rb) n):=by
 have w1:∀ a,a < 1000→(wi a).n=a:=fun a h=>wi_n (sm (by omega))
 have e0:=w1 k (by omega)
 have e1:=w1 rd (by omega)
 have e2:=w1 ra (by omega)
 have e3:=w1 rb (by omega)
 constructor<;>simp only [e0,e1,e2,e3]<;>omega
theorem dec_eq (w:W .u32):∃ r,F_inst_Dec w=some r∧F_ref06_Dec w=some r∧(W.ne r.2 (W.of .i64 0)=false→InstOk r.1):=by
 have hw:=w.v_lt
 obtain ⟨yk,k1,k2⟩:=field_eq (hi:=W.of .i64 31) (lo:=W.of .i64 26) (m:=W.of .u32 4227858432) (l:=26) (w:=6) (by kernel_rfl) (by rfl) (by omega) w
 obtain ⟨yd,d1,d2⟩:=field_eq (hi:=W.of .i64 25) (lo:=W.of .i64 22) (m:=W.of .u32 62914560) (l:=22) (w:=4) (by kernel_rfl) (by rfl) (by omega) w
 obtain ⟨ya,a1,a2⟩:=field_eq (hi:=W.of .i64 21) (lo:=W.of .i64 18) (m:=W.of .u32 3932160) (l:=18) (w:=4) (by kernel_rfl) (by rfl) (by omega) w
 obtain ⟨yb,b1,b2⟩:=field_eq (hi:=W.of .i64 17) (lo:=W.of .i64 14) (m:=W.of .u32 245760) (l:=14) (w:=4) (by kernel_rfl) (by rfl) (by omega) w
 rw [show (2:Nat) ^ 26=67108864 from rfl,show (2:Nat) ^ 6=64 from rfl] at k2
 rw [show (2:Nat) ^ 22=4194304 from rfl,show (2:Nat) ^ 4=16 from rfl] at d2
 rw [show (2:Nat) ^ 18=262144 from rfl,show (2:Nat) ^ 4=16 from rfl] at a2
 rw [show (2:Nat) ^ 14=16384 from rfl,show (2:Nat) ^ 4=16 from rfl] at b2
 obtain ⟨k,hk⟩:∃ k,k=w.v / 67108864:=⟨_,rfl⟩
 obtain ⟨rd,hrd⟩:∃ k,k=w.v / 4194304 % 16:=⟨_,rfl⟩
 obtain ⟨ra,hra⟩:∃ k,k=w.v / 262144 % 16:=⟨_,rfl⟩
 obtain ⟨rb,hrb⟩:∃ k,k=w.v / 16384 % 16:=⟨_,rfl⟩
 have hk64:k < 64:=by omega
 have hrd16:rd < 16:=by omega
 have hra16:ra < 16:=by omega
 have hrb16:rb < 16:=by omega
 have ok:=op_ok hk64
 have vk:W.conv .i64 yk=wi k:=by rw [conv_nat,k2];congr 2;omega
 have vd:W.conv .i64 yd=wi rd:=by rw [conv_nat,d2,hrd]
 have va:W.conv .i64 ya=wi ra:=by rw [conv_nat,a2,hra]
 have vb:W.conv .i64 yb=wi rb:=by rw [conv_nat,b2,hrb]
 have wk:W.conv .i64 (W.quo w (W.of .u32 67108864))=wi k:=by rw [conv_nat,W.quo_v,hk];rfl
 have wd':W.conv .i64 (W.rem (W.quo w (W.of .u32 4194304)) (W.of .u32 16))=wi rd:=by rw [conv_nat,W.rem_v,W.quo_v,hrd];rfl
 have wa:W.conv .i64 (W.rem (W.quo w (W.of .u32 262144)) (W.of .u32 16))=wi ra:=by rw [conv_nat,W.rem_v,W.quo_v,hra];rfl
 have wb:W.conv .i64 (W.rem (W.quo w (W.of .u32 16384)) (W.of .u32 16))=wi rb:=by rw [conv_nat,W.rem_v,W.quo_v,hrb];rfl
 have w18:W.conv .i64 (W.rem w (W.of .u32 262144))=wi (w.v % 262144):=by rw [conv_nat,W.rem_v];rfl
 have w14:W.conv .i64 (W.rem w (W.of .u32 16384))=wi (w.v % 16384):=by rw [conv_nat,W.rem_v];rfl
 have heqk:W.eq (wi k) (W.of .i64 0)=decide (k=0):=eq_small (b:=0) (by omega) (by omega)
 have hlt:=ok.lt
 have heqf:W.eq (wi (formN k)) (W.of .i64 0)=decide (formN k=0):=eq_small (b:=0) (by omega) (by omega)
 have heq5:W.eq (wi (formN k)) (W.of .i64 5)=decide (formN k=5):=eq_small (b:=5) (by omega) (by omega)
 have heq49:W.eq (wi k) (W.of .i64 49)=decide (k=49):=eq_small (b:=49) (by omega) (by omega)
 by_cases h0:k=0
 ·have e1:F_inst_Dec w=some (zeroI,W.of .i64 9):=by
   unfold F_inst_Dec T_inst_Dec
   rw [ev_opt,k1,bind_some',ev_ite,vk,heqk,if_pos (by simpa using h0)]
   rfl
  have e2:F_ref06_Dec w=some (zeroI,W.of .i64 9):=by
   unfold F_ref06_Dec T_ref06_Dec
   rw [ev_opt,wk,ok.rform,bind_some',ev_ite,heqf,h0,ok.zero]
   rfl
  exact ⟨_,e1,e2,fun h=>by cases h⟩
 have hf0:formN k ≠ 0:=by have:=ok.pos;omega
 have hwdd:wdN (formN k)=14∨wdN (formN k)=18:=by unfold wdN;split<;>simp
 have hnum:=number_p hk64 ok.width hwdd w
 obtain ⟨n,hn⟩:∃ n,n=W.of .i64 (immOf k (wdN (formN k)) w.v):=⟨_,rfl⟩
 rw [←hn] at hnum
 have hdoc:(if formN k=5 then (if k=49 then (if W.ge (wi (w.v % 262144)) (W.of .i64 131072)=true then W.sub (wi (w.v % 262144)) (W.of .i64 262144) else wi (w.v % 262144)) else wi (w.v % 262144)) else (if W.ge (wi (w.v % 16384)) (W.of .i64 8192)=true then W.sub (wi (w.v % 16384)) (W.of .i64 16384) else wi (w.v % 16384)))=n:=by
  have g:∀ a b:Nat,a < 1000000→b < 1000000→W.ge (wi a) (W.of .i64 (b:Nat))=decide (b≤a):=fun a b ha hb=>by
   refine iff_bool ?_
   rw [W.ge_n,wi_n (by unfold room;omega),wi_n (by unfold room;omega),decide_eq_true_eq];omega
  have s:∀ a b:Nat,a < 1000000→b < 1000000→W.sub (wi a) (W.of .i64 (b:Nat))=W.of .i64 ((a:Int) - b):=fun a b ha hb=>W.ext (by
   rw [W.sub_n,wi_n (by unfold room;omega),wi_n (by unfold room;omega),W.of_n])
  rw [show W.ge (wi (w.v % 262144)) (W.of .i64 131072)=_ from g _ 131072 (by omega) (by omega),show W.ge (wi (w.v % 16384)) (W.of .i64 8192)=_ from g _ 8192 (by omega) (by omega),show W.sub (wi (w.v % 262144)) (W.of .i64 262144)=_ from s _ 262144 (by omega) (by omega),show W.sub (wi (w.v % 16384)) (W.of .i64 16384)=_ from s _ 16384 (by omega) (by omega),hn]
  unfold immOf wdN
  have e18:(2:Nat) ^ 18=262144:=by decide
  have e17:(2:Nat) ^ (18 - 1)=131072:=by decide
  have e14:(2:Nat) ^ 14=16384:=by decide
  have e13:(2:Nat) ^ (14 - 1)=8192:=by decide
  have i18:(2:Int) ^ 18=262144:=by decide
  have i14:(2:Int) ^ 14=16384:=by decide
  by_cases h5:formN k=5
  ·rw [if_pos h5,if_pos h5,e18,e17,i18]
   have:=ok.five'.1 h5
   by_cases h49:k=49
   ·rw [if_pos h49,if_neg (show ¬ k=33 by omega)]
    by_cases hl:w.v % 262144 < 131072
    ·rw [if_neg (by simp;omega),if_pos hl]
    ·rw [if_pos (by simp;omega),if_neg hl];rfl
   ·rw [if_neg h49,if_pos (show k=33 by omega)]
  ·rw [if_neg h5,if_neg h5,e14,e13,i14]
   have:¬ k=33:=fun h=>h5 (ok.five'.2 (.inl h))
   rw [if_neg this]
   by_cases hl:w.v % 16384 < 8192
   ·rw [if_neg (by simp;omega),if_pos hl]
   ·rw [if_pos (by simp;omega),if_neg hl];rfl
 have hlow:(W.conv .u32 n).v % 2 ^ wdN (formN k)=w.v % 2 ^ wdN (formN k):=by
  have hr:(W.conv .u32 n).n=n.n % 4294967296:=by rw [W.conv_n,wrap_u32]
  have hnn:n.n=immOf k (wdN (formN k)) w.v∧(immOf k (wdN (formN k)) w.v) % 2 ^ wdN (formN k)=((w.v % 2 ^ wdN (formN k):Nat):Int):=by
   have h33:k=33→wdN (formN k)=18:=fun h=>by unfold wdN;rw [if_pos (ok.five'.2 (.inl h))]
   have hp:wdN (formN k)=14∧2 ^ wdN (formN k)=16384∧2 ^ (wdN (formN k) - 1)=8192∧(2:Int) ^ wdN (formN k)=16384∨wdN (formN k)=18∧2 ^ wdN (formN k)=262144∧2 ^ (wdN (formN k) - 1)=131072∧(2:Int) ^ wdN (formN k)=262144:=by
    rcases hwdd with h | h<;>rw [h]
    ·exact .inl ⟨rfl,rfl,rfl,rfl⟩
    ·exact .inr ⟨rfl,rfl,rfl,rfl⟩
   have e18:(2:Nat) ^ 18=262144:=by decide
   rw [hn,W.of_n,wrap_i64]
   unfold immOf
   rcases hp with ⟨q0,q1,q2,q3⟩ | ⟨q0,q1,q2,q3⟩<;>rw [q1,q2,q3,e18]<;>by_cases h:k=33
   ·have:=h33 h;omega
   ·rw [if_neg h];split<;>omega
   ·rw [if_pos h];omega
   ·rw [if_neg h];split<;>omega
  have hv:((W.conv .u32 n).v:Int)=n.n % 4294967296:=by rw [←W.n_v];exact hr
  rw [hnn.1] at hv
  have h2:=hnn.2
  rcases hwdd with h | h<;>rw [h] at h2 hv ⊢
  ·rw [show (2:Nat) ^ 14=16384 from rfl] at h2 ⊢
   rw [show (2:Int) ^ 14=16384 from rfl] at h2
   omega
  ·rw [show (2:Nat) ^ 18=262144 from rfl] at h2 ⊢
   rw [show (2:Int) ^ 18=262144 from rfl] at h2
   omega
 have P:=dec_p hk64 h0 k1 d1 a1 b1 vk vd va vb hnum
 have D:F_ref06_Dec w=(F_ref06_Right (TInst.mk (wi k) (wi rd) (wi ra) (wi (if formN k=5 then 0 else rb)) n)).bind fun e=>if W.ne e (W.of .i64 0)=true then some (zeroI,W.of .i64 2) else some (TInst.mk (wi k) (wi rd) (wi ra) (wi (if formN k=5 then 0 else rb)) n,W.of .i64 0):=by
  unfold F_ref06_Dec T_ref06_Dec
  rw [ev_opt,wk,ok.rform,bind_some',ev_ite,heqf,if_neg (by simpa using hf0),←hdoc]
  simp only [ev_opt,ev_ite,ev_ret,heq5,heq49,wd',wa,wb,w18,w14,decide_eq_true_eq]
  by_cases h5:formN k=5
  ·simp only [h5,if_true]
   by_cases h49:k=49
   ·simp only [h49,if_true]
    cases W.ge (wi (w.v % 262144)) (W.of .i64 131072)<;>rfl
   ·simp only [h49,if_false]
    rfl
  ·simp only [h5,if_false]
   cases W.ge (wi (w.v % 16384)) (W.of .i64 8192)<;>rfl
 have hE:=enc_p hk64 h0 (rd:=if hasN k 1=true then rd else 0) (ra:=if hasN k 2=true then ra else 0) (rb:=if hasN k 4=true then rb else 0) (by split<;>omega) (by split<;>omega) (by split<;>omega) (fun h=>by rw [h];rfl) (fun h=>by rw [h];rfl) (fun h=>by rw [h];rfl) (if hasN k 8=true then n else W.of .i64 0) (fun h=>by rw [h];rfl)
 obtain ⟨e,r1,r2⟩:=right_d hk64 h0 hrd16 hra16 (rb:=if formN k=5 then 0 else rb) (by split<;>omega) n
 have hz:n=W.of .i64 0∨hasN k 8=true ↔ (w.v % 2 ^ wdN (formN k)=0∨hasN k 8=true):=by
  by_cases g8:hasN k 8=true
  ·simp [g8]
  ·have h5:¬ formN k=5:=fun h=>g8 (ok.five h).2
   have hwd:wdN (formN k)=14:=by unfold wdN;rw [if_neg h5]
   have h33:¬ k=33:=fun h=>h5 (ok.five'.2 (.inl h))
   rw [hwd] at hn hlow ⊢
   unfold immOf at hn
   rw [if_neg h33] at hn
   have e14:(2:Nat) ^ 14=16384:=by decide
   have e13:(2:Nat) ^ (14 - 1)=8192:=by decide
   have i14:(2:Int) ^ 14=16384:=by decide
   rw [e14] at hlow ⊢
   rw [e14,e13,i14] at hn
   constructor
   ·rintro (h | h)
    ·rw [h] at hlow
     have:(W.conv .u32 (W.of .i64 0)).v=0:=rfl
     rw [this] at hlow;exact .inl (by omega)
    ·exact (g8 h).elim
   ·rintro (h | h)
    ·rw [hn,h];exact .inl rfl
    ·exact (g8 h).elim
 rw [P,D,r1,bind_some']
 have hdecomp:w.v=k*67108864+rd*4194304+ra*262144+rb*16384+w.v % 16384:=by omega
 have h18:w.v % 262144=rb*16384+w.v % 16384:=by omega
 rcases hE with ⟨m1,m2,m3⟩ | ⟨m1,x,m3,m4⟩
 ·rw [m3]
  rw [m1,if_pos rfl] at m2
  have:W.ne e (W.of .i64 0)=true:=by
   cases hne:W.ne e (W.of .i64 0) with
   | true=>rfl
   | false=>have:=(r2.1 hne).2.2.2.2 m1;rw [m2] at this;cases this
  rw [this,bind_some',if_pos rfl]
  have z3:W.ne (W.of .i64 3) (W.of .i64 0)=true:=rfl
  dsimp only
  rw [z3,if_pos rfl]
  exact ⟨_,rfl,rfl,fun h=>by cases h⟩
 ·rw [m3,bind_some']
  dsimp only
  rw [W.ne_self,if_neg (by simp)]
  have hx:W.ne x w=false ↔ x.v=w.v:=by
   rw [W.ne_eq,Bool.not_eq_false',W.eq_n,W.n_v,W.n_v];omega
  have key:W.ne x w=false ↔ W.ne e (W.of .i64 0)=false:=by
   rw [hx,r2,hz]
   have him:hasN k 8=true→immB k n.n=true:=fun h=>by
    cases hi:immB k n.n with
    | true=>rfl
    | false=>exact (m1 ⟨h,by rw [if_pos h];exact hi⟩).elim
   have e14:(2:Nat) ^ 14=16384:=by decide
   have e18:(2:Nat) ^ 18=262144:=by decide
   have hlast:(if hasN k 8=true then (W.conv .u32 (if hasN k 8=true then n else W.of .i64 0)).v % 2 ^ wdN (formN k) else 0)=if hasN k 8=true then w.v % 2 ^ wdN (formN k) else 0:=by
    by_cases g8:hasN k 8=true
    ·rw [if_pos g8,if_pos g8,if_pos g8,hlow]
    ·rw [if_neg g8,if_neg g8]
   rw [m4,hlast]
   by_cases h5:formN k=5
   ·have hwd:wdN (formN k)=18:=by unfold wdN;rw [if_pos h5]
    obtain ⟨g4,g8⟩:=ok.five h5
    have t:=word18 (k:=k) hrd16 hra16 (Nat.mod_lt w.v (show 0 < 262144 by decide)) (hasN k 1) (hasN k 2)
    have hwv:w.v=k*67108864+rd*4194304+ra*262144+w.v % 262144:=dec18 hdecomp h18
    rw [←hwv] at t
    have q4:(if hasN k 4=true then rb else 0)=0:=by rw [g4];rfl
    have q8:(if hasN k 8=true then w.v % 2 ^ wdN (formN k) else 0)=w.v % 262144:=by rw [if_pos g8,hwd,e18]
    have q5:(if formN k=5 then 0 else rb)=0:=if_pos h5
    rw [q4,q8,q5]
    exact t.trans ⟨fun h=>⟨h.1,h.2,.inl rfl,.inr g8,him⟩,fun h=>⟨h.1,h.2.1⟩⟩
   ·have hwd:wdN (formN k)=14:=by unfold wdN;rw [if_neg h5]
    have t:=word14 (k:=k) hrd16 hra16 hrb16 (Nat.mod_lt w.v (show 0 < 16384 by decide)) (hasN k 1) (hasN k 2) (hasN k 4) (hasN k 8)
    rw [←hdecomp] at t
    have q8:(if hasN k 8=true then w.v % 2 ^ wdN (formN k) else 0)=if hasN k 8=true then w.v % 16384 else 0:=by rw [hwd,e14]
    have q5:(if formN k=5 then 0 else rb)=rb:=if_neg h5
    rw [q8,q5,hwd,e14]
    exact t.trans ⟨fun h=>⟨h.1,h.2.1,h.2.2.1,h.2.2.2,him⟩,fun h=>⟨h.1,h.2.1,h.2.2.1,h.2.2.2.1⟩⟩
  cases hxe:W.ne x w with
  | true=>
   have:W.ne e (W.of .i64 0)=true:=by
    cases hne:W.ne e (W.of .i64 0) with
    | true=>rfl
    | false=>have:=key.2 hne;rw [hxe] at this;cases this
   simp only [this,hxe,if_true]
   exact ⟨_,rfl,rfl,fun h=>by cases h⟩
  | false=>
   have he:=key.1 hxe
   simp only [he,hxe,Bool.false_eq_true,if_false]
   obtain ⟨o1,o2,o3,o4,o5⟩:=r2.1 he
   have s1:(if hasN k 1=true then rd else 0)=rd:=by
    by_cases g:hasN k 1=true
    ·rw [if_pos g]
    ·rw [if_neg g]
     rcases o1 with h | h
     ·exact h.symm
     ·exact (g h).elim
   have s2:(if hasN k 2=true then ra else 0)=ra:=by
    by_cases g:hasN k 2=true
    ·rw [if_pos g]
    ·rw [if_neg g]
     rcases o2 with h | h
     ·exact h.symm
     ·exact (g h).elim
   have s3:(if hasN k 4=true then rb else 0)=(if formN k=5 then 0 else rb):=by
    by_cases h5:formN k=5
    ·rw [if_pos h5,(ok.five h5).1];rfl
    ·rw [if_neg h5] at o3 ⊢
     by_cases g:hasN k 4=true
     ·rw [if_pos g]
     ·rw [if_neg g]
      rcases o3 with h | h
      ·exact h.symm
      ·exact (g h).elim
   have s4:(if hasN k 8=true then n else W.of .i64 0)=n:=by
    split
    ·rfl
    ·rename_i h;rcases o4 with h' | h'
     ·exact h'.symm
     ·exact (h h').elim
   rw [s1,s2,s3,s4]
   have hb16:(if formN k=5 then 0 else rb) < 16:=by split<;>omega
   exact ⟨_,rfl,rfl,fun _=>instOk_mk h0 hk64 hrd16 hra16 hb16⟩
theorem priv_eq (op:W .i64):∃ b,F_inst_Priv op=some b∧F_ref06_Priv op=some b:=by
 unfold F_inst_Priv T_inst_Priv F_ref06_Priv T_ref06_Priv
 simp only [ev_ite,ev_ret]
 cases W.eq op (W.of .i64 55)<;>cases W.eq op (W.of .i64 57)<;>cases W.eq op (W.of .i64 59)<;>cases W.eq op (W.of .i64 61)<;>exact ⟨_,rfl,rfl⟩
end Go.Proofs.YtedhidchlfhegaaGreatDoor
