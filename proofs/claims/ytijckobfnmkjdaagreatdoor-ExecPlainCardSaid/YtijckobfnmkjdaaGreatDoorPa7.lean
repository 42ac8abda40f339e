/- YtijckobfnmkjdaaGreatDoorPa7: products and quotients: the program's are the document's. No statement of the seat is proved here. -/
import Derived.Test.YtijckobfnmkjdaaGreatDoorPa6
set_option linter.unusedSimpArgs false
set_option linter.unusedVariables false
namespace Go.Proofs.YtijckobfnmkjdaaGreatDoor
open Go Go.A2
theorem shift_in {s lo:Nat} (hs:s < 8589934592) (hl:lo < 4294967296):
  s / 2*4294967296+((s*4294967296 % 18446744073709551616 ||| lo) / 2 % 4294967296)=(s*4294967296+lo) / 2:=by
 have e:s*4294967296 % 18446744073709551616=s % 4294967296*2 ^ 32:=by
  rw [show (18446744073709551616:Nat)=4294967296*4294967296 by rfl,Nat.mul_mod_mul_right]
 rw [e,or_add _ _ 32 hl,show (2:Nat) ^ 32=4294967296 by rfl]
 omega
theorem mul_step {m:TMul} (h:1≤m.Left.n):∃ m',F_mul_Step m=some m'∧m'.A=m.A∧m'.Left.n=m.Left.n - 1∧m'.B.v=m.B.v / 2 ∧
  m'.Hi.v*4294967296+m'.Lo.v=(m.Hi.v*4294967296+m.Lo.v+m.B.v % 2*m.A.v*4294967296) / 2:=by
 have h32:(W.of .u64 32).v=32:=by rfl
 have hL:=m.Left.r_i64
 have hleft:(W.sub m.Left (W.of .i64 1)).n=m.Left.n - 1:=pred_n (by omega)
 have hb:(W.shr m.B (W.of .u64 1)).v=m.B.v / 2:=by rw [W.shr_v,one64]
 have hhi:=m.Hi.v_lt
 have hlo:=m.Lo.v_lt
 have hA:=m.A.v_lt
 have u64:(2:Nat) ^ IntKind.u64.bits=18446744073709551616:=by rfl
 have u32:(2:Nat) ^ IntKind.u32.bits=4294967296:=by rfl
 have half:∀ (s:W .u64),s.v < 8589934592→(W.conv .u32 (W.shr s (W.of .u64 1))).v*4294967296+(W.conv .u32 (W.shr (W.or (W.shl s (W.of .u64 32)) (W.conv .u64 m.Lo)) (W.of .u64 1))).v=(s.v*4294967296+m.Lo.v) / 2:=fun s hs=>by
  rw [W.uconv rfl rfl,W.uconv rfl rfl,W.ushr rfl,W.ushr rfl,W.uor rfl,W.ushl rfl,W.conv_u64_v,one64,h32,u64,u32,Nat.pow_one,show (2:Nat) ^ 32=4294967296 by rfl]
  have:=shift_in hs hlo
  rw [Nat.mod_eq_of_lt (a:=s.v / 2) (by omega)]
  exact this
 have hl1:¬ m.Left.n < 1:=by omega
 simp only [F_mul_Step,T_mul_Step,ev_ite,ev_ret,W.lt_n,i64_one,if_neg hl1,W.eq_iff]
 have hand:(W.and m.B (W.of .u32 1)).v=m.B.v % 2:=mask_and (k:=1) _ (by omega) (by rfl)
 by_cases hbit:W.and m.B (W.of .u32 1)=W.of .u32 1
 ·rw [if_pos hbit]
  have h1:m.B.v % 2=1:=by rw [←hand,hbit];rfl
  have hs:(W.add (W.conv .u64 m.Hi) (W.conv .u64 m.A)).v=m.Hi.v+m.A.v:=by rw [W.uadd rfl,W.conv_u64_v,W.conv_u64_v,u64];omega
  refine ⟨_,rfl,rfl,hleft,hb,?_⟩
  show (W.conv .u32 (W.shr (W.add (W.conv .u64 m.Hi) (W.conv .u64 m.A)) (W.of .u64 1))).v*4294967296+(W.conv .u32 (W.shr (W.or (W.shl (W.add (W.conv .u64 m.Hi) (W.conv .u64 m.A)) (W.of .u64 32)) (W.conv .u64 m.Lo)) (W.of .u64 1))).v=_
  have hh:=half _ (show (W.add (W.conv .u64 m.Hi) (W.conv .u64 m.A)).v < 8589934592 by rw [hs];omega)
  rw [hs] at hh
  refine hh.trans ?_
  rw [h1,Nat.one_mul,Nat.add_mul,Nat.add_right_comm]
 ·rw [if_neg hbit]
  have h0:m.B.v % 2=0:=by
   rcases Nat.mod_two_eq_zero_or_one m.B.v with h | h
   ·exact h
   ·exact absurd (W.ext_v (by rw [hand,h];rfl)) hbit
  have hs:(W.conv .u64 m.Hi).v=m.Hi.v:=W.conv_u64_v _
  refine ⟨_,rfl,rfl,hleft,hb,?_⟩
  show (W.conv .u32 (W.shr (W.conv .u64 m.Hi) (W.of .u64 1))).v*4294967296+(W.conv .u32 (W.shr (W.or (W.shl (W.conv .u64 m.Hi) (W.of .u64 32)) (W.conv .u64 m.Lo)) (W.of .u64 1))).v=_
  have hh:=half _ (show (W.conv .u64 m.Hi).v < 8589934592 by rw [hs];omega)
  rw [hs] at hh
  refine hh.trans ?_
  rw [h0,Nat.zero_mul,Nat.zero_mul,Nat.add_zero]
theorem mul_next {a b k v:Nat} (hk:k < 32) (hv:v=a*(b % 2 ^ k)*2 ^ (32 - k)):(v+b / 2 ^ k % 2*a*4294967296) / 2=a*(b % 2 ^ (k+1))*2 ^ (32 - (k+1)):=by
 have e1:2 ^ (32 - k)=2*2 ^ (32 - (k+1)):=by rw [Nat.mul_comm,←Nat.pow_succ];congr 1;omega
 have e2:2 ^ k*2 ^ (32 - (k+1))=2147483648:=by rw [←Nat.pow_add,show k+(32 - (k+1))=31 by omega]
 rw [mod_pow_succ,hv,e1]
 generalize 2 ^ (32 - (k+1))=p at e2 ⊢
 generalize b / 2 ^ k % 2=t
 generalize b % 2 ^ k=z
 have e3:a*(z+t*2 ^ k)*p=a*z*p+t*a*2147483648:=by
  rw [←e2,Nat.mul_add,Nat.add_mul]
  congr 1
  rw [←Nat.mul_assoc a t,Nat.mul_comm a t,Nat.mul_assoc]
 have e4:a*z*(2*p)=2*(a*z*p):=by rw [←Nat.mul_assoc,Nat.mul_comm (a*z) 2,Nat.mul_assoc]
 rw [e3,e4]
 generalize a*z*p=q
 generalize t*a=r
 omega
theorem mul_run (a b:W .u32):∃ m,F_mul_New a b=some m∧∃ r,F_mul_Run m=some r∧r.1.v*4294967296+r.2.v=a.v*b.v:=by
 refine ⟨_,rfl,?_⟩
 have hmn:W.min (W.max (W.of .i64 32) (W.of .i64 0)) (W.of .i64 32)=W.of .i64 32:=by rfl
 have key:∃ o,L_mul_Run_7 (TMul.mk a b (W.of .u32 0) (W.of .u32 0) (W.of .i64 32),W.of .i64 32,W.of .i64 0,())=some o∧o.1.Hi.v*4294967296+o.1.Lo.v=a.v*b.v:=by
  unfold L_mul_Run_7
  refine iter_inv (I:=fun t=>t.2.1=W.of .i64 32∧0≤t.2.2.1.n∧t.2.2.1.n≤32∧t.1.A=a∧t.1.Left.n=32 - t.2.2.1.n∧t.1.B.v=b.v / 2 ^ t.2.2.1.v ∧
   t.1.Hi.v*4294967296+t.1.Lo.v=a.v*(b.v % 2 ^ t.2.2.1.v)*2 ^ (32 - t.2.2.1.v)) (μ:=fun t=>(32 - t.2.2.1.n).toNat) _ ?_ ⟨rfl,?_,?_,rfl,?_,?_,?_⟩ ?_
  ·rintro ⟨m,t10,k,u⟩ ⟨h0,h1,h2,h3,h4,h5,h6⟩
   simp only at h0 h1 h2 h3 h4 h5 h6 ⊢
   subst h0
   simp only [B_mul_Run_7,ev_ite,ev_ret,ev_opt,W.lt_n,i64_32]
   by_cases hk:k.n < 32
   ·left
    obtain ⟨m',g1,g2,g3,g4,g5⟩:=mul_step (m:=m) (by omega)
    have ha:=succ_n (i:=k) (by omega)
    have hav:(W.add k (W.of .i64 1)).v=k.v+1:=by unfold W.v;omega
    have hkv:k.v < 32:=by unfold W.v;omega
    rw [if_pos hk,g1,Option.bind_some]
    refine ⟨_,rfl,⟨rfl,?_,?_,?_,?_,?_,?_⟩,?_⟩
    ·show 0≤(W.add k (W.of .i64 1)).n;omega
    ·show (W.add k (W.of .i64 1)).n≤32;omega
    ·exact g2.trans h3
    ·show m'.Left.n=32 - (W.add k (W.of .i64 1)).n;omega
    ·show m'.B.v=b.v / 2 ^ (W.add k (W.of .i64 1)).v
     rw [hav,g4,h5,Nat.div_div_eq_div_mul,Nat.pow_succ]
    ·show m'.Hi.v*4294967296+m'.Lo.v=a.v*(b.v % 2 ^ (W.add k (W.of .i64 1)).v)*2 ^ (32 - (W.add k (W.of .i64 1)).v)
     rw [hav,g5,h5,h3]
     exact mul_next hkv h6
    ·show (32 - (W.add k (W.of .i64 1)).n).toNat < _;omega
   ·right
    rw [if_neg hk]
    refine ⟨_,rfl,?_⟩
    show m.Hi.v*4294967296+m.Lo.v=_
    have:k.v=32:=by unfold W.v;omega
    rw [h6,this,Nat.sub_self,Nat.pow_zero,Nat.mul_one,Nat.mod_eq_of_lt b.v_lt]
  ·show 0≤(W.of .i64 0).n;rw [i64_zero];omega
  ·show (W.of .i64 0).n≤32;rw [i64_zero];omega
  ·show (W.of .i64 32).n=32 - (W.of .i64 0).n;rw [i64_zero,i64_32];omega
  ·show b.v=b.v / 2 ^ (W.of .i64 0).v
   rw [show (W.of .i64 0).v=0 by rfl,Nat.pow_zero,Nat.div_one]
  ·show (W.of .u32 0).v*4294967296+(W.of .u32 0).v=a.v*(b.v % 2 ^ (W.of .i64 0).v)*2 ^ (32 - (W.of .i64 0).v)
   rw [show (W.of .i64 0).v=0 by rfl,zero32,Nat.pow_zero,Nat.mod_one,Nat.mul_zero,Nat.zero_mul]
  ·show (32 - (W.of .i64 0).n).toNat < fuel
   rw [i64_zero];unfold fuel;decide
 obtain ⟨o,h1,h2⟩:=key
 refine ⟨(o.1.Hi,o.1.Lo),?_,h2⟩
 simp only [F_mul_Run,T_mul_Run,ev_opt,ev_ret,hmn,h1,Option.bind_some]
theorem less_v (a b:W .u32):∃ y,F_mul_less a b=some y∧y.v=if a.v < 2147483648 then 0 else b.v:=by
 have ha:=a.v_lt
 have hs:(W.shr a (W.of .u64 31)).v=a.v / 2147483648:=by rw [W.shr_v];rfl
 simp only [F_mul_less,T_mul_less,ev_ite,ev_ret,W.eq_iff]
 by_cases h:a.v < 2147483648
 ·rw [if_neg fun h'=>by
   have:=congrArg W.v h'
   rw [hs,one32] at this;omega,if_pos h]
  exact ⟨_,rfl,zero32⟩
 ·rw [if_pos (W.ext_v (by rw [hs,one32];omega)),if_neg h]
  exact ⟨_,rfl,rfl⟩
theorem signed4 (x:W .u32):∃ y,F_ref04_signed x=some y∧y.n=if x.v < 2147483648 then (x.v:Int) else (x.v:Int) - 4294967296:=by
 obtain ⟨y,h1,h2⟩:=signed_n x
 exact ⟨y,h1,by rw [h2,sgn]⟩
theorem mulh_a {p z:Int} {lo:Nat} (hlo:lo < 4294967296) (hp:p=4294967296*z+lo):(p % 18446744073709551616).toNat / 4294967296 % 4294967296=(z % 4294967296).toNat:=by
 subst hp;omega
theorem mulh_z {z t:Int} {hi x y:Nat} (hhi:hi < 4294967296) (hx:x < 4294967296) (hy:y < 4294967296) (hz:z=hi - x - y+4294967296*t):
  (z % 4294967296).toNat=((hi+4294967296 - x) % 4294967296+4294967296 - y) % 4294967296:=by
 subst hz;omega
theorem mul_eq (op:W .i64) (a b:W .u32):∃ r,F_mul_Do op a b=some r∧F_ref04_Do op a b=some r:=by
 obtain ⟨m,hm,r,hr,hp⟩:=mul_run a b
 obtain ⟨l1,hl1,hv1⟩:=less_v a b
 obtain ⟨l2,hl2,hv2⟩:=less_v b a
 obtain ⟨s1,hs1,hn1⟩:=signed4 a
 obtain ⟨s2,hs2,hn2⟩:=signed4 b
 have ha:=a.v_lt
 have hb:=b.v_lt
 have hlo:=r.2.v_lt
 have hhi:=r.1.v_lt
 have u64:(2:Nat) ^ IntKind.u64.bits=18446744073709551616:=by rfl
 have u32:(2:Nat) ^ IntKind.u32.bits=4294967296:=by rfl
 have hM:(W.of .u64 4294967296).v=4294967296:=by rfl
 have hprod:(W.mul (W.conv .u64 a) (W.conv .u64 b)).v=a.v*b.v:=by
  rw [W.umul rfl,W.conv_u64_v,W.conv_u64_v,u64];exact Nat.mod_eq_of_lt (by rw [←hp];omega)
 have urem:∀ x y:W .u64,(W.rem x y).v=x.v % y.v:=fun x y=>by
  rw [uv_wrap rfl (m:=x.v % y.v) (by rw [W.rem_n,x.un rfl,y.un rfl];rfl)]
  exact Nat.mod_eq_of_lt (Nat.lt_of_le_of_lt (Nat.mod_le _ _) (x.uv_lt rfl))
 have uquo:∀ x y:W .u64,(W.quo x y).v=x.v / y.v:=fun x y=>by
  rw [uv_wrap rfl (m:=x.v / y.v) (by rw [W.quo_n,x.un rfl,y.un rfl];rfl)]
  exact Nat.mod_eq_of_lt (Nat.lt_of_le_of_lt (Nat.div_le_self _ _) (x.uv_lt rfl))
 have lo:W.conv .u32 (W.rem (W.mul (W.conv .u64 a) (W.conv .u64 b)) (W.of .u64 4294967296))=r.2:=by
  apply W.ext_v
  rw [W.uconv rfl rfl,urem,hprod,hM,u32,←hp];omega
 have hi:W.conv .u32 (W.quo (W.mul (W.conv .u64 a) (W.conv .u64 b)) (W.of .u64 4294967296))=r.1:=by
  apply W.ext_v
  rw [W.uconv rfl rfl,uquo,hprod,hM,u32,←hp];omega
 have his:W.conv .u32 (W.quo (W.conv .u64 (W.mul s1 s2)) (W.of .u64 4294967296))=W.sub (W.sub r.1 l1) l2:=by
  apply W.ext_v
  have hc:(W.conv .u64 (W.mul s1 s2)).v=((s1.n*s2.n) % 18446744073709551616).toNat:=by
   unfold W.v
   rw [W.conv_n,W.mul_n,wrap_u64,wrap_i64];omega
  rw [W.uconv rfl rfl,uquo,hc,hM,u32,W.sub_v,W.sub_v,hv1,hv2,hn1,hn2]
  have hpi:(a.v:Int)*(b.v:Int)=(r.1.v:Int)*4294967296+(r.2.v:Int):=by
   rw [←Int.natCast_mul,←hp];omega
  by_cases c1:a.v < 2147483648
  ·by_cases c2:b.v < 2147483648
   ·simp only [if_pos c1,if_pos c2]
    rw [mulh_a (z:=(r.1.v:Int)) hlo (by rw [hpi];omega)]
    exact mulh_z (t:=0) hhi (by omega) (by omega) (by omega)
   ·simp only [if_pos c1,if_neg c2]
    rw [mulh_a (z:=(r.1.v:Int) - a.v) hlo (by rw [Int.mul_sub,hpi];omega)]
    exact mulh_z (t:=0) hhi (by omega) ha (by omega)
  ·by_cases c2:b.v < 2147483648
   ·simp only [if_neg c1,if_pos c2]
    rw [mulh_a (z:=(r.1.v:Int) - b.v) hlo (by rw [Int.sub_mul,hpi];omega)]
    exact mulh_z (t:=0) hhi hb (by omega) (by omega)
   ·simp only [if_neg c1,if_neg c2]
    rw [mulh_a (z:=(r.1.v:Int) - b.v - a.v+4294967296) hlo (by rw [Int.sub_mul,Int.mul_sub,Int.mul_sub,hpi];omega)]
    exact mulh_z (t:=1) hhi hb ha (by omega)
 simp only [F_mul_Do,T_mul_Do,F_ref04_Do,T_ref04_Do,ev_ite,ev_ret,ev_opt,hm,hr,hl1,hl2,hs1,hs2,Option.bind_some,W.eq_n,lit64 11 (by omega),lit64 12 (by omega),lit64 13 (by omega),lo,hi,his]
 generalize op.n=o
 by_cases c1:o=11
 ·subst c1;exact ⟨_,rfl,rfl⟩
 by_cases c2:o=13
 ·subst c2;exact ⟨_,rfl,rfl⟩
 by_cases c3:o=12
 ·subst c3;exact ⟨_,rfl,rfl⟩
 simp only [c1,c2,c3,if_false]
 exact ⟨_,rfl,rfl⟩
end Go.Proofs.YtijckobfnmkjdaaGreatDoor
