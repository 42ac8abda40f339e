/- YtijckobfnmkjdaaGreatDoorInv: an instruction that may be is its word's. No statement of the seat is proved here. -/
import Derived.Test.YtijckobfnmkjdaaGreatDoorInst2
set_option linter.unusedSimpArgs false
set_option linter.unusedVariables false
set_option maxRecDepth 100000
namespace Go.Proofs.YtijckobfnmkjdaaGreatDoor
open Go Go.A2
structure InstR (k rd ra rb:Nat) (n:W .i64):Prop where
 k0:k ≠ 0
 k64:k < 64
 b1:rd < 16
 b2:ra < 16
 b3:rb < 16
 c1:hasN k 1=false→rd=0
 c2:hasN k 2=false→ra=0
 c3:hasN k 4=false→rb=0
 c4:hasN k 8=false→n=W.of .i64 0
abbrev instI (k rd ra rb:Nat) (n:W .i64):TInst:=TInst.mk (wi k) (wi rd) (wi ra) (wi rb) n
def badF (h:Bool) (x:Int):Bool:=decide (x < 0) || decide (15 < x) || (!h&&!decide (x=0))
theorem right_any {k:Nat} (hk:k < 64) (h0:k ≠ 0) (d a b n:W .i64):
  ∃ e,F_inst_Right (TInst.mk (wi k) d a b n)=some e∧(W.ne e (W.of .i64 0)=false→∃ rd ra rb,d=wi rd∧a=wi ra∧b=wi rb∧InstR k rd ra rb n):=by
 have ok:=op_ok hk
 have hform:W.eq (wi (formN k)) (W.of .i64 0)=false:=by
  rw [show W.eq (wi (formN k)) (W.of .i64 0)=decide (formN k=0) from eq_small (b:=0) (by have:=ok.lt;omega) (by omega)]
  have:=ok.pos;simp;omega
 have z1:W.ne (W.of .i64 1) (W.of .i64 0)=true:=rfl
 obtain ⟨t,ht⟩:∃ t:Arr 3 TS94,t=Arr.lit 3 [(TS94.mk (W.of .i64 1) d (W.of .i64 15)),(TS94.mk (W.of .i64 2) a (W.of .i64 15)),(TS94.mk (W.of .i64 4) b (W.of .i64 15))] rfl:=⟨_,rfl⟩
 have step:∀ (j c:Nat) (x:W .i64),j < 3→t.get j=TS94.mk (wi c) x (W.of .i64 15)→F_inst_has (wi k) (wi c)=some (hasN k c)→
   (B_inst_Right_11 (TInst.mk (wi k) d a b n) t (wi j)).eval=if badF (hasN k c) x.n=true then some (.out (.inl (TInst.mk (wi k) d a b n,W.of .i64 1,()))) else some (.next (TInst.mk (wi k) d a b n,t,wi (j+1),())):=by
  intro j c x hj hg hh
  have hlt:W.lt (wi j) (W.of .i64 3)=true:=(lt_small (m:=3) (by omega) (by omega)).trans (by simpa using hj)
  have e1:W.lt x (W.of .i64 0)=decide (x.n < 0):=rfl
  have e2:W.gt x (W.of .i64 15)=decide (15 < x.n):=iff_bool (by rw [W.gt_n,show (W.of .i64 15).n=15 from rfl,decide_eq_true_eq])
  have e3:W.ne x (W.of .i64 0)=!decide (x.n=0):=rfl
  simp only [B_inst_Right_11,ev_ite,ev_opt,ev_ret,hlt,if_true,wi_idx (sm (show j≤1000 by omega)),hj,bind_some',hg,e1,e2,e3,hh,add_small (show j < 1000 by omega)]
  unfold badF
  by_cases p1:x.n < 0
  ·simp [p1]
  ·by_cases p2:15 < x.n
   ·simp [p1,p2]
   ·cases hasN k c with
    | true=>simp [p1,p2]
    | false=>
     by_cases p3:x.n=0
     ·simp [p3]
     ·simp [p1,p2,p3]
 have s0:=step 0 1 d (by decide) (by rw [ht];rfl) ok.h1
 have s1:=step 1 2 a (by decide) (by rw [ht];rfl) ok.h2
 have s2:=step 2 4 b (by decide) (by rw [ht];rfl) ok.h4
 have good:∀ {h:Bool} {x:W .i64},¬ badF h x.n=true→∃ r,x=wi r∧r < 16∧(h=false→r=0):=by
  intro h x hb
  unfold badF at hb
  simp only [Bool.or_eq_true,decide_eq_true_eq,Bool.and_eq_true,Bool.not_eq_true',decide_eq_false_iff_not,not_or,not_and,Decidable.not_not] at hb
  refine ⟨x.n.toNat,of_small (by omega),by omega,fun hh=>?_⟩
  have:=hb.2 hh;omega
 have hL:(∃ o,L_inst_Right_11 (TInst.mk (wi k) d a b n,t,wi 0,())=some (.inl (TInst.mk (wi k) d a b n,W.of .i64 1,o))) ∨
   (L_inst_Right_11 (TInst.mk (wi k) d a b n,t,wi 0,())=some (.inr (TInst.mk (wi k) d a b n,(),()))∧∃ rd ra rb,d=wi rd∧a=wi ra∧b=wi rb∧rd < 16∧ra < 16∧rb < 16∧(hasN k 1=false→rd=0)∧(hasN k 2=false→ra=0)∧(hasN k 4=false→rb=0)):=by
  unfold L_inst_Right_11 fuel
  rw [iter_succ,s0]
  by_cases p0:badF (hasN k 1) d.n=true
  ·rw [if_pos p0];exact .inl ⟨_,rfl⟩
  ·rw [if_neg p0]
   dsimp only
   rw [iter_succ,s1]
   by_cases p1:badF (hasN k 2) a.n=true
   ·rw [if_pos p1];exact .inl ⟨_,rfl⟩
   ·rw [if_neg p1]
    dsimp only
    rw [iter_succ,s2]
    by_cases p2:badF (hasN k 4) b.n=true
    ·rw [if_pos p2];exact .inl ⟨_,rfl⟩
    ·rw [if_neg p2]
     dsimp only
     rw [iter_succ]
     refine .inr ⟨rfl,?_⟩
     obtain ⟨rd,d1,d2,d3⟩:=good p0
     obtain ⟨ra,a1,a2,a3⟩:=good p1
     obtain ⟨rb,b1,b2,b3⟩:=good p2
     exact ⟨rd,ra,rb,d1,a1,b1,d2,a2,b2,d3,a3,b3⟩
 unfold F_inst_Right T_inst_Right
 rw [ht] at hL
 rcases hL with ⟨o,hL⟩ | ⟨hL,rd,ra,rb,d1,a1,b1,d2,a2,b2,d3,a3,b3⟩
 ·simp only [ev_opt,ev_ite,ev_ret,ok.form,bind_some',hform,Bool.false_eq_true,if_false,show L_inst_Right_11 (TInst.mk (wi k) d a b n,_,W.of .i64 0,())=_ from hL,ev_sum,Sum.elim_inl]
  exact ⟨_,rfl,fun h=>by rw [z1] at h;cases h⟩
 ·simp only [ev_opt,ev_ite,ev_ret,ok.form,bind_some',hform,Bool.false_eq_true,if_false,show L_inst_Right_11 (TInst.mk (wi k) d a b n,_,W.of .i64 0,())=_ from hL,ev_sum,Sum.elim_inr,show F_inst_has (wi k) (W.of .i64 8)=_ from ok.h8,within_p hk]
  cases h8:hasN k 8 with
  | true=>
   simp only [Bool.not_true,Bool.false_eq_true,if_false,if_true]
   have:InstR k rd ra rb n:=⟨h0,hk,d2,a2,b2,d3,a3,b3,fun h=>by rw [h8] at h;cases h⟩
   cases immB k n.n<;>exact ⟨_,rfl,fun _=>⟨rd,ra,rb,d1,a1,b1,this⟩⟩
  | false=>
   simp only [Bool.not_false,if_true]
   by_cases hn:n=W.of .i64 0
   ·have:InstR k rd ra rb n:=⟨h0,hk,d2,a2,b2,d3,a3,b3,fun _=>hn⟩
    rw [hn,W.ne_self]
    exact ⟨_,rfl,fun _=>⟨rd,ra,rb,d1,a1,b1,by rw [←hn];exact this⟩⟩
   ·have e:W.ne n (W.of .i64 0)=true:=by rw [W.ne_eq,W.eq_dec];simp [hn]
    rw [e]
    exact ⟨_,rfl,fun h=>by rw [z1] at h;cases h⟩
theorem enc_any (i:TInst):∃ r,F_inst_Enc i=some r∧(W.ne r.2 (W.of .i64 0)=false→∃ k rd ra rb n,i=instI k rd ra rb n∧InstR k rd ra rb n∧r.2=W.of .i64 0∧(hasN k 8=true→immB k n.n=true)∧r.1.v=k*67108864+rd*4194304+ra*262144+rb*16384+if hasN k 8=true then (W.conv .u32 n).v % 2 ^ wdN (formN k) else 0):=by
 obtain ⟨op,d,a,b,n⟩:=i
 by_cases hop:1≤op.n∧op.n≤63
 ·obtain ⟨k,rfl,k1,k2⟩:=wi_of (a:=op) (lo:=1) (hi:=63) (by omega) (by omega)
  obtain ⟨e,e1,e2⟩:=right_any (k:=k) (by omega) (by omega) d a b n
  cases he:W.ne e (W.of .i64 0) with
  | true=>
   refine ⟨(W.of .u32 0,e),?_,fun h=>by rw [he] at h;cases h⟩
   unfold F_inst_Enc T_inst_Enc
   simp only [ev_opt,ev_ite,ev_ret,e1,bind_some',he,if_true]
  | false=>
   obtain ⟨rd,ra,rb,rfl,rfl,rfl,hr⟩:=e2 he
   rcases enc_p hr.k64 hr.k0 hr.b1 hr.b2 hr.b3 hr.c1 hr.c2 hr.c3 n hr.c4 with ⟨_,_,h⟩ | ⟨hi,x,h,hx⟩
   ·exact ⟨_,h,fun h=>by cases h⟩
   ·refine ⟨_,h,fun _=>⟨k,rd,ra,rb,n,rfl,hr,rfl,fun h8=>?_,hx⟩⟩
    cases hb:immB k n.n with
    | true=>rfl
    | false=>exact (hi ⟨h8,hb⟩).elim
 ·have hF:F_inst_Form op=some (W.of .i64 0):=by
   have g1:W.lt op (W.of .i64 1)=decide (op.n < 1):=rfl
   have g2:W.gt op (W.of .i64 63)=decide (63 < op.n):=iff_bool (by rw [W.gt_n,show (W.of .i64 63).n=63 from rfl,decide_eq_true_eq])
   unfold F_inst_Form T_inst_Form
   rw [ev_ite,g1,ev_ite,g2]
   by_cases c1:op.n < 1
   ·rw [if_pos (by simpa using c1)];rfl
   ·rw [if_neg (by simpa using c1),if_pos (by simp;omega)];rfl
  have hR:F_inst_Right (TInst.mk op d a b n)=some (W.of .i64 9):=by
   unfold F_inst_Right T_inst_Right
   rw [ev_opt,hF,bind_some',ev_ite,W.eq_self,if_pos rfl];rfl
  refine ⟨(W.of .u32 0,W.of .i64 9),?_,fun h=>by cases h⟩
  unfold F_inst_Enc T_inst_Enc
  have z9:W.ne (W.of .i64 9) (W.of .i64 0)=true:=rfl
  rw [ev_opt,hR,bind_some',ev_ite,if_pos z9];rfl
theorem dec_back {k rd ra rb:Nat} {n:W .i64} (hr:InstR k rd ra rb n) {w:W .u32} (he:F_inst_Enc (instI k rd ra rb n)=some (w,W.of .i64 0)) (hm:hasN k 8=true→immB k n.n=true)
  (hw:w.v=k*67108864+rd*4194304+ra*262144+rb*16384+if hasN k 8=true then (W.conv .u32 n).v % 2 ^ wdN (formN k) else 0):F_inst_Dec w=some (instI k rd ra rb n,W.of .i64 0):=by
 obtain ⟨h0,hk,b1,b2,b3,c1,c2,c3,c4⟩:=hr
 have ok:=op_ok hk
 obtain ⟨yk,k1,k2⟩:=field_eq (hi:=W.of .i64 31) (lo:=W.of .i64 26) (m:=W.of .u32 4227858432) (l:=26) (w:=6) (by kernel_rfl) (by rfl) (by omega) w
 obtain ⟨yd,d1,d2⟩:=field_eq (hi:=W.of .i64 25) (lo:=W.of .i64 22) (m:=W.of .u32 62914560) (l:=22) (w:=4) (by kernel_rfl) (by rfl) (by omega) w
 obtain ⟨ya,a1,a2⟩:=field_eq (hi:=W.of .i64 21) (lo:=W.of .i64 18) (m:=W.of .u32 3932160) (l:=18) (w:=4) (by kernel_rfl) (by rfl) (by omega) w
 obtain ⟨yb,e1,e2⟩:=field_eq (hi:=W.of .i64 17) (lo:=W.of .i64 14) (m:=W.of .u32 245760) (l:=14) (w:=4) (by kernel_rfl) (by rfl) (by omega) w
 rw [show (2:Nat) ^ 26=67108864 from rfl,show (2:Nat) ^ 6=64 from rfl] at k2
 rw [show (2:Nat) ^ 22=4194304 from rfl,show (2:Nat) ^ 4=16 from rfl] at d2
 rw [show (2:Nat) ^ 18=262144 from rfl,show (2:Nat) ^ 4=16 from rfl] at a2
 rw [show (2:Nat) ^ 14=16384 from rfl,show (2:Nat) ^ 4=16 from rfl] at e2
 have hwdd:wdN (formN k)=14∨wdN (formN k)=18:=by unfold wdN;split<;>simp
 have hnum:=number_p hk ok.width hwdd w
 obtain ⟨im,him⟩:∃ im,im=if hasN k 8=true then (W.conv .u32 n).v % 2 ^ wdN (formN k) else 0:=⟨_,rfl⟩
 rw [←him] at hw
 have himl:im < 262144∧(hasN k 4=true→im < 16384)∧(¬ formN k=5→im < 16384):=by
  have e18:(2:Nat) ^ 18=262144:=by decide
  have e14:(2:Nat) ^ 14=16384:=by decide
  rw [him]
  by_cases h8:hasN k 8=true
  ·rw [if_pos h8]
   unfold wdN
   by_cases h5:formN k=5
   ·rw [if_pos h5,e18]
    have:=(ok.five h5).1
    exact ⟨Nat.mod_lt _ (by decide),fun h=>(by rw [this] at h;cases h),fun h=>(h h5).elim⟩
   ·rw [if_neg h5,e14]
    have:=Nat.mod_lt (W.conv .u32 n).v (show 0 < 16384 by decide)
    exact ⟨by omega,fun _=>by omega,fun _=>by omega⟩
  ·rw [if_neg h8];exact ⟨by decide,fun _=>by decide,fun _=>by decide⟩
 obtain ⟨i1,i2,i3⟩:=himl
 have hrb0:formN k=5→rb=0:=fun h5=>c3 (ok.five h5).1
 have hsum:rb*16384+im < 262144:=by
  by_cases h5:formN k=5
  ·have:=hrb0 h5;omega
  ·have:=i3 h5;omega
 have vk:W.conv .i64 yk=wi k:=by rw [conv_nat,k2];congr 2;omega
 have vd:W.conv .i64 yd=wi rd:=by rw [conv_nat,d2];congr 2;omega
 have va:W.conv .i64 ya=wi ra:=by rw [conv_nat,a2];congr 2;omega
 have vb:W.conv .i64 yb=wi (w.v / 16384 % 16):=by rw [conv_nat,e2]
 rw [dec_p hk h0 k1 d1 a1 e1 vk vd va vb hnum]
 have q1:(if hasN k 1=true then rd else 0)=rd:=by
  cases h:hasN k 1 with
  | true=>rfl
  | false=>rw [c1 h];rfl
 have q2:(if hasN k 2=true then ra else 0)=ra:=by
  cases h:hasN k 2 with
  | true=>rfl
  | false=>rw [c2 h];rfl
 have q4:(if hasN k 4=true then w.v / 16384 % 16 else 0)=rb:=by
  cases h:hasN k 4 with
  | true=>
   have:=i2 h
   rw [if_pos rfl];omega
  | false=>rw [c3 h];rfl
 have q8:(if hasN k 8=true then W.of .i64 (immOf k (wdN (formN k)) w.v) else W.of .i64 0)=n:=by
  cases h:hasN k 8 with
  | false=>rw [c4 h];rfl
  | true=>
   rw [if_pos rfl]
   rw [if_pos h] at him
   have hb:=hm h
   have hcv:(W.conv .u32 n).v=(n.n % 4294967296).toNat:=by unfold W.v;rw [W.conv_n,wrap_u32]
   have hrn:=W.r_i64 n
   have e18:(2:Nat) ^ 18=262144:=by decide
   have e17:(2:Nat) ^ (18 - 1)=131072:=by decide
   have e14:(2:Nat) ^ 14=16384:=by decide
   have e13:(2:Nat) ^ (14 - 1)=8192:=by decide
   have j18:(2:Int) ^ 18=262144:=by decide
   have j14:(2:Int) ^ 14=16384:=by decide
   have h5:=ok.five'
   refine W.ext ?_
   rw [W.of_n,wrap_i64]
   unfold immB at hb
   unfold immOf
   rw [hcv] at him
   unfold wdN at him ⊢
   by_cases c33:k=33
   ·have f5:formN k=5:=h5.2 (.inl c33)
    rw [if_neg (by omega),if_pos c33,decide_eq_true_eq] at hb
    rw [if_pos c33,e18]
    rw [if_pos f5,e18] at him
    omega
   ·by_cases c49:k=49
    ·have f5:formN k=5:=h5.2 (.inr c49)
     rw [if_neg (by omega),if_neg c33,if_pos c49,decide_eq_true_eq] at hb
     rw [if_neg c33,if_pos f5,e18,e17,j18]
     rw [if_pos f5,e18] at him
     have hv:w.v % 262144=im:=by have:=hrb0 f5;omega
     rw [hv]
     split<;>omega
    ·have f5:¬ formN k=5:=fun h=>by have:=h5.1 h;omega
     rw [if_neg c33,if_neg f5,e14,e13,j14]
     rw [if_neg f5,e14] at him
     have hv:w.v % 16384=im:=by have:=i3 f5;omega
     rw [hv]
     by_cases c30:30≤k∧k≤32
     ·rw [if_pos c30,decide_eq_true_eq] at hb
      split<;>omega
     ·rw [if_neg c30,if_neg c33,if_neg c49,decide_eq_true_eq] at hb
      split<;>omega
 rw [q1,q2,q4,q8,he,bind_some']
 simp only [W.ne_self,Bool.false_eq_true,if_false]
end Go.Proofs.YtijckobfnmkjdaaGreatDoor
