/- YtijckobfnmkjdaaGreatDoorPa8: quotients: the program's are the document's. No statement of the seat is proved here. -/
import Derived.Test.YtijckobfnmkjdaaGreatDoorPa7
set_option linter.unusedSimpArgs false
set_option linter.unusedVariables false
namespace Go.Proofs.YtijckobfnmkjdaaGreatDoor
open Go Go.A2
theorem left_eq {n:W .i64} (h:0≤n.n∧n.n≤32):F_div_left n=some n:=clamp_eq (n:=n) h
theorem u64b:(2:Nat) ^ IntKind.u64.bits=18446744073709551616:=by rfl
theorem u32b:(2:Nat) ^ IntKind.u32.bits=4294967296:=by rfl
theorem div_step {x:TDiv} {k:Nat} (hk:k < 32) (hL:x.Left.n=32 - k) (hR:x.R.v < 2147483648∨x.R.v < x.D.v) (hQ:x.Q.v < 2147483648):∃ y,F_div_Step x=some y∧y.N=x.N∧y.D=x.D∧y.Left.n=32 - (k+1:Nat) ∧
  (let r:=2*x.R.v+x.N.v / 2 ^ (31 - k) % 2
  (x.D.v≤r∧y.Q.v=2*x.Q.v+1∧y.R.v=(r - x.D.v) % 4294967296)∨(r < x.D.v∧y.Q.v=2*x.Q.v∧y.R.v=r)):=by
 have hRl:=x.R.v_lt
 have hDl:=x.D.v_lt
 have hlm:(W.sub x.Left (W.of .i64 1)).n=31 - k:=by rw [pred_n (by omega)];omega
 have hc:(W.conv .u64 (W.sub x.Left (W.of .i64 1))).v=31 - k:=by
  unfold W.v;rw [W.conv_n,hlm,wrap_u64];omega
 have hbit:(W.and (W.shr x.N (W.conv .u64 (W.sub x.Left (W.of .i64 1)))) (W.of .u32 1)).v=x.N.v / 2 ^ (31 - k) % 2:=by
  rw [mask_and (k:=1) _ (by omega) (by rfl),W.shr_v,hc]
 have hbl:x.N.v / 2 ^ (31 - k) % 2 < 2:=Nat.mod_lt _ (by omega)
 generalize x.N.v / 2 ^ (31 - k) % 2=t at hbit hbl ⊢
 have hr:(W.or (W.shl (W.conv .u64 x.R) (W.of .u64 1)) (W.conv .u64 (W.and (W.shr x.N (W.conv .u64 (W.sub x.Left (W.of .i64 1)))) (W.of .u32 1)))).v=2*x.R.v+t:=by
  rw [W.uor rfl,W.ushl rfl,W.conv_u64_v,W.conv_u64_v,hbit,one64,u64b,Nat.mod_eq_of_lt (by omega),or_add _ _ 1 (by omega)];omega
 have hq0:(W.shl x.Q (W.of .u64 1)).v=2*x.Q.v:=by rw [W.shl_v,one64];omega
 have hq1:(W.or (W.shl x.Q (W.of .u64 1)) (W.of .u32 1)).v=2*x.Q.v+1:=by
  rw [W.uor rfl,W.shl_v,one64,one32,Nat.mod_eq_of_lt (by omega),or_add _ _ 1 (by omega)];omega
 simp only [F_div_Step,T_div_Step,ev_opt,ev_ite,ev_ret,left_eq (n:=x.Left) (by omega),Option.bind_some,W.eq_n,W.ge_n,i64_zero]
 rw [if_neg (by omega)]
 generalize hG:W.or (W.shl (W.conv .u64 x.R) (W.of .u64 1)) (W.conv .u64 (W.and (W.shr x.N (W.conv .u64 (W.sub x.Left (W.of .i64 1)))) (W.of .u32 1)))=g at hr ⊢
 rw [W.un rfl (a:=g),W.un rfl (a:=W.conv .u64 x.D),hr,W.conv_u64_v]
 by_cases hge:x.D.v≤2*x.R.v+t
 ·rw [if_pos (by omega)]
  refine ⟨_,rfl,rfl,rfl,?_,.inl ⟨hge,hq1,?_⟩⟩
  ·show (W.sub x.Left (W.of .i64 1)).n=_;omega
  ·show (W.conv .u32 (W.sub g (W.conv .u64 x.D))).v=_
   have hs:(W.sub g (W.conv .u64 x.D)).v=2*x.R.v+t - x.D.v:=by
    unfold W.v
    rw [W.sub_n,W.un rfl (a:=g),W.un rfl (a:=W.conv .u64 x.D),hr,W.conv_u64_v,wrap_u64];unfold W.v at *;omega
   rw [W.uconv rfl rfl,hs,u32b]
 ·rw [if_neg (by omega)]
  refine ⟨_,rfl,rfl,rfl,?_,.inr ⟨by omega,hq0,?_⟩⟩
  ·show (W.sub x.Left (W.of .i64 1)).n=_;omega
  ·show (W.conv .u32 g).v=_
   rw [W.uconv rfl rfl,hr,u32b];exact Nat.mod_eq_of_lt (by omega)
theorem div_digit (n k:Nat) (hk:k < 32):n / 2 ^ (32 - (k+1))=2*(n / 2 ^ (32 - k))+n / 2 ^ (31 - k) % 2:=by
 have e:2 ^ (32 - k)=2 ^ (31 - k)*2:=by rw [←Nat.pow_succ];congr 1;omega
 rw [show 32 - (k+1)=31 - k by omega,e,←Nat.div_div_eq_div_mul];omega
theorem div_bound (n k:Nat) (hn:n < 4294967296) (hk:k≤32):n / 2 ^ (32 - k) < 2 ^ k:=by
 rw [Nat.div_lt_iff_lt_mul (Nat.pow_pos (by omega)),←Nat.pow_add,show k+(32 - k)=32 by omega];exact hn
theorem div_run (n d:W .u32):∃ x,F_div_New n d=some x∧∃ r,F_div_Run x=some r∧r.1.v=(if d.v=0 then 4294967295 else n.v / d.v)∧r.2.v=n.v % d.v:=by
 refine ⟨_,rfl,?_⟩
 have hn:=n.v_lt
 have hd:=d.v_lt
 have key:∃ o,L_div_Run_5 (TDiv.mk n d (W.of .u32 0) (W.of .u32 0) (W.of .i64 32),W.of .i64 32,W.of .i64 0,())=some o∧(o.1.Q.v=(if d.v=0 then 4294967295 else n.v / d.v)∧o.1.R.v=n.v % d.v):=by
  unfold L_div_Run_5
  refine iter_inv (I:=fun t=>t.2.1=W.of .i64 32∧0≤t.2.2.1.n∧t.2.2.1.n≤32∧t.1.N=n∧t.1.D=d∧t.1.Left.n=32 - t.2.2.1.n ∧
   (d.v=0→t.1.R.v=n.v / 2 ^ (32 - t.2.2.1.v)∧t.1.Q.v=2 ^ t.2.2.1.v - 1)∧(d.v ≠ 0→t.1.R.v < d.v∧n.v / 2 ^ (32 - t.2.2.1.v)=t.1.Q.v*d.v+t.1.R.v)) (μ:=fun t=>(32 - t.2.2.1.n).toNat) _ ?_ ⟨rfl,?_,?_,rfl,rfl,?_,?_,?_⟩ ?_
  ·rintro ⟨x,t6,k,u⟩ ⟨h0,h1,h2,h3,h4,h5,h6,h7⟩
   simp only at h0 h1 h2 h3 h4 h5 h6 h7 ⊢
   subst h0
   simp only [B_div_Run_5,ev_ite,ev_ret,ev_opt,W.lt_n,i64_32]
   have hkk:(k.v:Int)=k.n:=by unfold W.v;omega
   by_cases hk:k.n < 32
   ·left
    have ha:=succ_n (i:=k) (by omega)
    have hav:(W.add k (W.of .i64 1)).v=k.v+1:=by unfold W.v;omega
    have hkv:k.v < 32:=by omega
    have hdig:=div_digit n.v k.v hkv
    have hbd:=div_bound n.v k.v hn (by omega)
    have hp:2 ^ k.v≤2 ^ 31:=Nat.pow_le_pow_right (by omega) (by omega)
    have hp31:(2:Nat) ^ 31=2147483648:=by rfl
    have hp1:2 ^ (k.v+1)=2*2 ^ k.v:=by rw [Nat.pow_succ,Nat.mul_comm]
    have hp0:0 < 2 ^ k.v:=Nat.pow_pos (by omega)
    have hQ:x.Q.v < 2147483648:=by
     by_cases hz:d.v=0
     ·have:=(h6 hz).2;omega
     ·obtain ⟨_,g⟩:=h7 hz
      have:x.Q.v≤x.Q.v*d.v:=Nat.le_mul_of_pos_right _ (by omega)
      omega
    have hR:x.R.v < 2147483648∨x.R.v < x.D.v:=by
     by_cases hz:d.v=0
     ·left;have:=(h6 hz).1;omega
     ·right;rw [h4];exact (h7 hz).1
    obtain ⟨y,g1,g2,g3,g4,g5⟩:=div_step (x:=x) (k:=k.v) hkv (by omega) hR hQ
    rw [h3,h4] at g5
    rw [if_pos hk,g1,Option.bind_some]
    refine ⟨_,rfl,⟨rfl,?_,?_,g2.trans h3,g3.trans h4,?_,?_,?_⟩,?_⟩
    ·show 0≤(W.add k (W.of .i64 1)).n;omega
    ·show (W.add k (W.of .i64 1)).n≤32;omega
    ·show y.Left.n=32 - (W.add k (W.of .i64 1)).n;omega
    ·intro hz
     show y.R.v=n.v / 2 ^ (32 - (W.add k (W.of .i64 1)).v)∧y.Q.v=2 ^ (W.add k (W.of .i64 1)).v - 1
     obtain ⟨e1,e2⟩:=h6 hz
     have hlt:n.v / 2 ^ (32 - (k.v+1))≤n.v:=Nat.div_le_self _ _
     rw [hav,hp1]
     simp only [hz,←e1] at g5 hdig
     generalize n.v / 2 ^ (31 - k.v) % 2=b at g5 hdig
     generalize n.v / 2 ^ (32 - (k.v+1))=z at hlt hdig ⊢
     rcases g5 with ⟨_,g6,g7⟩ | ⟨g6,_⟩
     ·omega
     ·omega
    ·intro hz
     show y.R.v < d.v∧n.v / 2 ^ (32 - (W.add k (W.of .i64 1)).v)=y.Q.v*d.v+y.R.v
     obtain ⟨e1,e2⟩:=h7 hz
     have hbl:n.v / 2 ^ (31 - k.v) % 2 < 2:=Nat.mod_lt _ (by omega)
     rw [hav,hdig,e2]
     generalize n.v / 2 ^ (31 - k.v) % 2=b at g5 hbl ⊢
     rcases g5 with ⟨g6,g7,g8⟩ | ⟨g6,g7,g8⟩
     ·rw [Nat.mod_eq_of_lt (by omega)] at g8
      rw [g7,g8,Nat.add_mul,Nat.one_mul,Nat.mul_assoc]
      generalize x.Q.v*d.v=q
      omega
     ·rw [g7,g8,Nat.mul_assoc]
      generalize x.Q.v*d.v=q
      omega
    ·show (32 - (W.add k (W.of .i64 1)).n).toNat < _;omega
   ·right
    rw [if_neg hk]
    have h32:k.v=32:=by omega
    rw [h32] at h6 h7
    refine ⟨_,rfl,?_,?_⟩
    ·show x.Q.v=_
     by_cases hz:d.v=0
     ·rw [if_pos hz,(h6 hz).2]
     ·obtain ⟨e1,e2⟩:=h7 hz
      rw [Nat.sub_self,Nat.pow_zero,Nat.div_one] at e2
      rw [if_neg hz,e2,Nat.add_comm,Nat.add_mul_div_right _ _ (by omega),Nat.div_eq_of_lt e1,Nat.zero_add]
    ·show x.R.v=_
     by_cases hz:d.v=0
     ·rw [(h6 hz).1,hz,Nat.sub_self,Nat.pow_zero,Nat.div_one,Nat.mod_zero]
     ·obtain ⟨e1,e2⟩:=h7 hz
      rw [Nat.sub_self,Nat.pow_zero,Nat.div_one] at e2
      rw [e2,Nat.add_comm,Nat.add_mul_mod_self_right,Nat.mod_eq_of_lt e1]
  ·show 0≤(W.of .i64 0).n;rw [i64_zero];omega
  ·show (W.of .i64 0).n≤32;rw [i64_zero];omega
  ·show (W.of .i64 32).n=32 - (W.of .i64 0).n;rw [i64_zero,i64_32];omega
  ·intro _
   show (W.of .u32 0).v=n.v / 2 ^ (32 - (W.of .i64 0).v)∧(W.of .u32 0).v=2 ^ (W.of .i64 0).v - 1
   rw [show (W.of .i64 0).v=0 by rfl,zero32]
   exact ⟨(Nat.div_eq_of_lt hn).symm,rfl⟩
  ·intro hz
   show (W.of .u32 0).v < d.v∧n.v / 2 ^ (32 - (W.of .i64 0).v)=(W.of .u32 0).v*d.v+(W.of .u32 0).v
   rw [show (W.of .i64 0).v=0 by rfl,zero32]
   exact ⟨by omega,by rw [Nat.zero_mul];exact Nat.div_eq_of_lt hn⟩
  ·show (32 - (W.of .i64 0).n).toNat < fuel
   rw [i64_zero];unfold fuel;decide
 obtain ⟨o,h1,h2,h3⟩:=key
 refine ⟨(o.1.Q,o.1.R),?_,h2,h3⟩
 simp only [F_div_Run,T_div_Run,ev_opt,ev_ret,left_eq (n:=W.of .i64 32) (by rw [i64_32];omega),h1,Option.bind_some]
def absN (x:Nat):Nat:=if x < 2147483648 then x else 4294967296 - x
theorem neg_v (x:W .u32):(W.neg x).v=(4294967296 - x.v) % 4294967296:=by
 have:=x.v_lt
 unfold W.v
 rw [W.neg_n,wrap_u32,W.n_v];unfold W.v at *;omega
theorem away_v (x:W .u32):∃ y,F_div_away x=some y∧y.v=absN x.v:=by
 have hx:=x.v_lt
 have z:(W.of .i32 0).n=0:=by rfl
 simp only [F_div_away,T_div_away,ev_ite,ev_ret,W.lt_n,z]
 rw [sgn]
 unfold absN
 by_cases h:x.v < 2147483648
 ·simp only [if_pos h]
  rw [if_neg (by omega)];exact ⟨_,rfl,rfl⟩
 ·simp only [if_neg h]
  rw [if_pos (by omega)];exact ⟨_,rfl,by rw [neg_v];omega⟩
theorem conv64_n (x:W .u32):(W.conv .i64 (W.conv .i32 x)).n=if x.v < 2147483648 then (x.v:Int) else (x.v:Int) - 4294967296:=by
 have:=x.v_lt
 rw [W.conv_n,sgn,wrap_i64];split<;>omega
theorem signed_abs (x:Nat) (hx:x < 4294967296):(if x < 2147483648 then (x:Int) else (x:Int) - 4294967296)=if x < 2147483648 then (absN x:Int) else -(absN x:Int):=by
 unfold absN;split<;>omega
theorem lt0 (x:W .u32):W.lt (W.conv .i32 x) (W.of .i32 0)=decide (2147483648≤x.v):=by
 have hx:=x.v_lt
 have z:(W.of .i32 0).n=0:=by rfl
 unfold W.lt
 rw [sgn,z]
 by_cases h:x.v < 2147483648
 ·rw [if_pos h,decide_eq_false (by omega),decide_eq_false (by omega)]
 ·rw [if_neg h,decide_eq_true (by omega),decide_eq_true (by omega)]
theorem w64 {q:Nat} (h:q < 4294967296):(((q:Int)+9223372036854775808) % 18446744073709551616 - 9223372036854775808) % 4294967296=(q:Int):=by omega
theorem w64n {q:Nat} (h:q < 4294967296):((-(q:Int)+9223372036854775808) % 18446744073709551616 - 9223372036854775808) % 4294967296=(((4294967296 - q) % 4294967296:Nat):Int):=by omega
theorem div_eq (op:W .i64) (a b:W .u32):∃ r,F_div_Do op a b=some r∧F_ref05_Do op a b=some r:=by
 obtain ⟨x1,hx1,r1,hr1,q1,m1⟩:=div_run a b
 obtain ⟨ua,hua,va⟩:=away_v a
 obtain ⟨ub,hub,vb⟩:=away_v b
 obtain ⟨x2,hx2,r2,hr2,q2,m2⟩:=div_run ua ub
 have ha:=a.v_lt
 have hb:=b.v_lt
 have hz32:W.eq b (W.of .u32 0)=decide (b.v=0):=by
  by_cases h:b.v=0
  ·rw [decide_eq_true h];exact W.eq_iff.2 (W.ext_v (by rw [h,zero32]))
  ·rw [decide_eq_false h];exact Bool.eq_false_iff.2 fun h'=>h (by rw [W.eq_iff.1 h',zero32])
 have hz64:W.eq (W.conv .i64 (W.conv .i32 b)) (W.of .i64 0)=decide (b.v=0):=by
  by_cases h:b.v=0
  ·rw [decide_eq_true h];exact W.eq_n.2 (by rw [conv64_n,i64_zero,h];rfl)
  ·rw [decide_eq_false h]
   refine Bool.eq_false_iff.2 fun h'=>h ?_
   have:=W.eq_n.1 h'
   rw [conv64_n,i64_zero] at this
   split at this<;>omega
 simp only [F_div_Do,T_div_Do,F_ref05_Do,T_ref05_Do,ev_ite,ev_ret,ev_opt,hx1,hr1,hua,hub,hx2,hr2,Option.bind_some,W.eq_n (k:=.i64) (a:=op),lit64 14 (by omega),lit64 15 (by omega),lit64 16 (by omega),lit64 17 (by omega),hz32,hz64,lt0,decide_eq_true_eq]
 generalize op.n=o
 by_cases c15:o=15
 ·subst c15
  by_cases h0:b.v=0
  ·rw [if_pos h0] at q1
   simp only [if_true,h0]
   exact ⟨_,rfl,by rw [show r1.1=W.of .u32 4294967295 from W.ext_v (by rw [q1];rfl)]⟩
  ·rw [if_neg h0] at q1
   have hq:W.quo? a b=some (W.quo a b):=by unfold W.quo?;rw [if_neg (by rw [W.n_v];omega)]
   simp only [if_true,h0,if_false,hq,Option.bind_some]
   exact ⟨_,rfl,by rw [show r1.1=W.quo a b from W.ext_v (by rw [q1,W.quo_v])]⟩
 by_cases c17:o=17
 ·subst c17
  by_cases h0:b.v=0
  ·have e:r1.2=a:=W.ext_v (by rw [m1,h0,Nat.mod_zero])
   simp only [if_true,h0,show ¬ (17:Int)=15 by omega,if_false,e]
   exact ⟨_,rfl,rfl⟩
  ·have hq:W.rem? a b=some (W.rem a b):=by unfold W.rem?;rw [if_neg (by rw [W.n_v];omega)]
   simp only [if_true,h0,show ¬ (17:Int)=15 by omega,if_false,hq,Option.bind_some]
   exact ⟨_,rfl,by rw [show r1.2=W.rem a b from W.ext_v (by rw [m1,W.rem_v])]⟩
 have A0:absN a.v < 4294967296:=by unfold absN;split<;>omega
 have B0:b.v ≠ 0→absN b.v ≠ 0:=fun h=>by unfold absN;split<;>omega
 have na:(W.conv .i64 (W.conv .i32 a)).n=if a.v < 2147483648 then (absN a.v:Int) else -(absN a.v:Int):=by rw [conv64_n,signed_abs _ ha]
 have nb:(W.conv .i64 (W.conv .i32 b)).n=if b.v < 2147483648 then (absN b.v:Int) else -(absN b.v:Int):=by rw [conv64_n,signed_abs _ hb]
 have hne:b.v ≠ 0→(W.conv .i64 (W.conv .i32 b)).n ≠ 0:=fun h=>by have:=B0 h;rw [nb];split<;>omega
 have hqq:b.v ≠ 0→W.quo? (W.conv .i64 (W.conv .i32 a)) (W.conv .i64 (W.conv .i32 b))=some (W.quo (W.conv .i64 (W.conv .i32 a)) (W.conv .i64 (W.conv .i32 b))):=fun h=>by unfold W.quo?;rw [if_neg (hne h)]
 have hrr:b.v ≠ 0→W.rem? (W.conv .i64 (W.conv .i32 a)) (W.conv .i64 (W.conv .i32 b))=some (W.rem (W.conv .i64 (W.conv .i32 a)) (W.conv .i64 (W.conv .i32 b))):=fun h=>by unfold W.rem?;rw [if_neg (hne h)]
 have Q0:absN a.v / absN b.v≤absN a.v:=Nat.div_le_self _ _
 have M0:absN a.v % absN b.v≤absN a.v:=Nat.mod_le _ _
 have qv:b.v ≠ 0→(W.conv .u32 (W.quo (W.conv .i64 (W.conv .i32 a)) (W.conv .i64 (W.conv .i32 b))))=if a.v < 2147483648 then (if b.v < 2147483648 then r2.1 else W.neg r2.1) else (if b.v < 2147483648 then W.neg r2.1 else r2.1):=fun h=>by
  have hB:=B0 h
  rw [vb,if_neg hB,va] at q2
  apply W.ext
  rw [W.conv_n,W.quo_n,na,nb,wrap_i64,wrap_u32]
  generalize hq:absN a.v / absN b.v=q at Q0 q2
  have t:((absN a.v:Nat):Int).tdiv ((absN b.v:Nat):Int)=q:=by rw [←hq];rfl
  have hq32:q < 4294967296:=Nat.lt_of_le_of_lt Q0 A0
  by_cases c1:a.v < 2147483648
  ·by_cases c2:b.v < 2147483648
   ·simp only [if_pos c1,if_pos c2]
    rw [t,W.n_v,q2];exact w64 hq32
   ·simp only [if_pos c1,if_neg c2]
    rw [Int.tdiv_neg,t,W.n_v,neg_v,q2];exact w64n hq32
  ·by_cases c2:b.v < 2147483648
   ·simp only [if_neg c1,if_pos c2]
    rw [Int.neg_tdiv,t,W.n_v,neg_v,q2];exact w64n hq32
   ·simp only [if_neg c1,if_neg c2]
    rw [Int.neg_tdiv,Int.tdiv_neg,t,Int.neg_neg,W.n_v,q2];exact w64 hq32
 have mv:b.v ≠ 0→(W.conv .u32 (W.rem (W.conv .i64 (W.conv .i32 a)) (W.conv .i64 (W.conv .i32 b))))=if a.v < 2147483648 then r2.2 else W.neg r2.2:=fun h=>by
  rw [vb,va] at m2
  apply W.ext
  rw [W.conv_n,W.rem_n,na,nb,wrap_i64,wrap_u32]
  generalize hq:absN a.v % absN b.v=q at M0 m2
  have t:((absN a.v:Nat):Int).tmod ((absN b.v:Nat):Int)=q:=by rw [←hq];rfl
  have hq32:q < 4294967296:=Nat.lt_of_le_of_lt M0 A0
  by_cases c1:a.v < 2147483648
  ·by_cases c2:b.v < 2147483648
   ·simp only [if_pos c1,if_pos c2]
    rw [t,W.n_v,m2];exact w64 hq32
   ·simp only [if_pos c1,if_neg c2]
    rw [Int.tmod_neg,t,W.n_v,m2];exact w64 hq32
  ·by_cases c2:b.v < 2147483648
   ·simp only [if_neg c1,if_pos c2]
    rw [Int.neg_tmod,t,W.n_v,neg_v,m2];exact w64n hq32
   ·simp only [if_neg c1,if_neg c2]
    rw [Int.neg_tmod,Int.tmod_neg,t,W.n_v,neg_v,m2];exact w64n hq32
 by_cases c14:o=14
 ·subst c14
  by_cases h0:b.v=0
  ·simp only [show ¬ (14:Int)=15 by omega,show ¬ (14:Int)=17 by omega,if_true,if_false,h0]
   exact ⟨_,rfl,rfl⟩
  ·simp only [show ¬ (14:Int)=15 by omega,show ¬ (14:Int)=17 by omega,if_true,if_false,h0,hqq h0,Option.bind_some,qv h0]
   have ft:beqB false true=false:=by rfl
   have tf:beqB true false=false:=by rfl
   by_cases c1:a.v < 2147483648
   ·have d1:decide (2147483648≤a.v)=false:=decide_eq_false (by omega)
    have e1:¬ 2147483648≤a.v:=by omega
    by_cases c2:b.v < 2147483648
    ·have d2:decide (2147483648≤b.v)=false:=decide_eq_false (by omega)
     simp only [if_pos c1,if_pos c2,d1,d2,if_neg e1,beqB_self,Bool.not_true,Bool.false_eq_true,if_false];exact ⟨_,rfl,rfl⟩
    ·have d2:decide (2147483648≤b.v)=true:=decide_eq_true (by omega)
     simp only [if_pos c1,if_neg c2,d1,d2,if_neg e1,ft,Bool.not_false,if_true];exact ⟨_,rfl,rfl⟩
   ·have d1:decide (2147483648≤a.v)=true:=decide_eq_true (by omega)
    have e1:2147483648≤a.v:=by omega
    by_cases c2:b.v < 2147483648
    ·have d2:decide (2147483648≤b.v)=false:=decide_eq_false (by omega)
     simp only [if_neg c1,if_pos c2,d1,d2,if_pos e1,tf,Bool.not_false,if_true];exact ⟨_,rfl,rfl⟩
    ·have d2:decide (2147483648≤b.v)=true:=decide_eq_true (by omega)
     simp only [if_neg c1,if_neg c2,d1,d2,if_pos e1,beqB_self,Bool.not_true,Bool.false_eq_true,if_false];exact ⟨_,rfl,rfl⟩
 by_cases c16:o=16
 ·subst c16
  by_cases h0:b.v=0
  ·simp only [show ¬ (16:Int)=15 by omega,show ¬ (16:Int)=17 by omega,show ¬ (16:Int)=14 by omega,if_true,if_false,h0]
   exact ⟨_,rfl,rfl⟩
  ·simp only [show ¬ (16:Int)=15 by omega,show ¬ (16:Int)=17 by omega,show ¬ (16:Int)=14 by omega,if_true,if_false,h0,hrr h0,Option.bind_some,mv h0]
   by_cases c1:a.v < 2147483648
   ·have e1:¬ 2147483648≤a.v:=by omega
    simp only [if_pos c1,if_neg e1,ite_self];exact ⟨_,rfl,rfl⟩
   ·have e1:2147483648≤a.v:=by omega
    simp only [if_neg c1,if_pos e1,ite_self];exact ⟨_,rfl,rfl⟩
 simp only [c14,c15,c16,c17,if_false]
 exact ⟨_,rfl,rfl⟩
end Go.Proofs.YtijckobfnmkjdaaGreatDoor
