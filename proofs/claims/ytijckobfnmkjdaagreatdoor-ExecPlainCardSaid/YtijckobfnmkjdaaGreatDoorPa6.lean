/- YtijckobfnmkjdaaGreatDoorPa6: products. No statement of the seat is proved here. -/
import Derived.Test.YtijckobfnmkjdaaGreatDoorPa5
set_option linter.unusedSimpArgs false
set_option linter.unusedVariables false
namespace Go.Proofs.YtijckobfnmkjdaaGreatDoor
open Go Go.A2
def pop:Nat→Nat→Nat
 | 0,_=>0
 | k+1,x=>x % 2+pop k (x / 2)
theorem pop_succ (k x:Nat):pop (k+1) x=x % 2+pop k (x / 2):=rfl
theorem pop_none (x:Nat):pop 0 x=0:=rfl
theorem pop_zero:∀ k,pop k 0=0
 | 0=>rfl
 | k+1=>by simp [pop,pop_zero k]
theorem pop_le:∀ k x,pop k x≤k
 | 0,_=>Nat.le_refl _
 | k+1,x=>by have:=pop_le k (x / 2);simp only [pop];omega
theorem pop_clear:∀ k x,x ≠ 0→x < 2 ^ k→pop k (x &&& (x - 1))+1=pop k x
 | 0,x,h0,h=>by simp at h;exact absurd h h0
 | k+1,x,h0,h=>by
  simp only [pop]
  have hm:(x &&& (x - 1)) % 2=0:=by
   have h1:=Nat.and_mod_two_pow (a:=x) (b:=x - 1) (n:=1)
   rw [Nat.pow_one] at h1
   rw [h1]
   rcases Nat.mod_two_eq_zero_or_one x with hx | hx
   ·rw [hx,Nat.zero_and]
   ·rw [show (x - 1) % 2=0 by omega,Nat.and_zero]
  have hd:(x &&& (x - 1)) / 2=x / 2 &&& ((x - 1) / 2):=Nat.and_div_two
  rw [hm,hd]
  rcases Nat.mod_two_eq_zero_or_one x with hx | hx
  ·rw [hx,show (x - 1) / 2=x / 2 - 1 by omega]
   have:=pop_clear k (x / 2) (by omega) (by rw [Nat.pow_succ] at h;omega)
   omega
  ·rw [hx,show (x - 1) / 2=x / 2 by omega,Nat.and_self];omega
theorem pop_prog (x:W .u32):∃ n:W .i64,F_alu_Pop x=some n∧n.n=(pop 32 x.v:Nat):=by
 have hx:=x.v_lt
 have key:∃ o,L_alu_Pop_5 (x,W.of .i64 0,())=some o∧o.1.n=(pop 32 x.v:Nat):=by
  unfold L_alu_Pop_5
  refine iter_inv (I:=fun t=>0≤t.2.1.n∧t.2.1.n+((pop 32 t.1.v:Nat):Int)=((pop 32 x.v:Nat):Int)) (μ:=fun t=>pop 32 t.1.v) _ ?_ ⟨?_,?_⟩ ?_
  ·rintro ⟨y,n,u⟩ ⟨h1,h2⟩
   simp only at h1 h2 ⊢
   simp only [B_alu_Pop_5,ev_ite,ev_ret,W.ne_n,W.n_v (a:=y),W.n_v (a:=W.of .u32 0),zero32]
   have hp:=pop_le 32 x.v
   by_cases hy:y.v=0
   ·right
    rw [if_neg (by omega)]
    refine ⟨_,rfl,?_⟩
    show n.n=_
    rw [hy,pop_zero] at h2;omega
   ·left
    have hc:=pop_clear 32 y.v hy y.v_lt
    have hs:(W.sub y (W.of .u32 1)).v=y.v - 1:=by have:=y.v_lt;rw [W.sub_v,one32];omega
    have ha:=succ_n (i:=n) (by omega)
    rw [if_pos (by omega)]
    refine ⟨_,rfl,⟨?_,?_⟩,?_⟩
    ·show 0≤(W.add n (W.of .i64 1)).n;omega
    ·show (W.add n (W.of .i64 1)).n+((pop 32 (W.and y (W.sub y (W.of .u32 1))).v:Nat):Int)=_
     rw [W.uand rfl,hs];omega
    ·show pop 32 (W.and y (W.sub y (W.of .u32 1))).v < _
     rw [W.uand rfl,hs];omega
  ·show 0≤(W.of .i64 0).n;rw [i64_zero];omega
  ·show (W.of .i64 0).n+((pop 32 x.v:Nat):Int)=_;rw [i64_zero];omega
  ·show pop 32 x.v < fuel
   have:=pop_le 32 x.v
   unfold fuel;omega
 obtain ⟨o,h1,h2⟩:=key
 refine ⟨o.1,?_,h2⟩
 simp only [F_alu_Pop,T_alu_Pop,ev_opt,ev_ret,h1,Option.bind_some]
theorem pop_ref (x:W .u32):∃ n:W .i64,F_ref03_Pop x=some n∧n.n=(pop 32 x.v:Nat):=by
 have hx:=x.v_lt
 have key:∃ o,L_ref03_Pop_7 (x,W.of .i64 0,W.of .i64 0,())=some o∧o.1.n=(pop 32 x.v:Nat):=by
  unfold L_ref03_Pop_7
  refine iter_inv (I:=fun t=>t.1=x∧0≤t.2.1.n∧0≤t.2.2.1.n∧t.2.2.1.n≤32∧t.2.1.n+((pop (32 - t.2.2.1.v) (x.v / 2 ^ t.2.2.1.v):Nat):Int)=((pop 32 x.v:Nat):Int)) (μ:=fun t=>(32 - t.2.2.1.n).toNat) _ ?_ ⟨rfl,?_,?_,?_,?_⟩ ?_
  ·rintro ⟨x',n,i,u⟩ ⟨h0,h1,h2,h3,h4⟩
   simp only at h0 h1 h2 h3 h4 ⊢
   subst h0
   simp only [B_ref03_Pop_7,ev_ite,ev_ret,ev_opt,W.lt_n,i64_32]
   have hp:=pop_le 32 x'.v
   have hiv:i.v≤32:=by unfold W.v;omega
   by_cases hi:i.n < 32
   ·left
    have hiv':i.v < 32:=by unfold W.v;omega
    rw [if_pos hi,bit_eq (by omega),Option.bind_some]
    have ha:=succ_n (i:=i) (by omega)
    have hav:(W.add i (W.of .i64 1)).v=i.v+1:=by unfold W.v;omega
    have hbt:x'.v / 2 ^ i.v % 2≤1:=by
     generalize x'.v / 2 ^ i.v=z
     omega
    have hc:(W.conv .i64 (W.of .u32 ((x'.v / 2 ^ i.v % 2:Nat):Int))).n=((x'.v / 2 ^ i.v % 2:Nat):Int):=by rw [W.conv_i64_v,litv32 _ (bit_lt _ _)]
    have hn:(W.add n (W.conv .i64 (W.of .u32 ((x'.v / 2 ^ i.v % 2:Nat):Int)))).n=n.n+((x'.v / 2 ^ i.v % 2:Nat):Int):=by
     rw [W.add_n,hc,wrap_i64]
     have:n.n≤32:=by
      have h5:=Int.natCast_nonneg (pop (32 - i.v) (x'.v / 2 ^ i.v))
      omega
     generalize x'.v / 2 ^ i.v % 2=bt at hbt ⊢
     omega
    rw [show 32 - i.v=(31 - i.v)+1 by omega] at h4
    rw [pop_succ,Nat.div_div_eq_div_mul,←Nat.pow_succ] at h4
    refine ⟨_,rfl,⟨rfl,?_,?_,?_,?_⟩,?_⟩
    ·show 0≤(W.add n _).n;rw [hn];omega
    ·show 0≤(W.add i (W.of .i64 1)).n;omega
    ·show (W.add i (W.of .i64 1)).n≤32;omega
    ·show (W.add n _).n+((pop (32 - (W.add i (W.of .i64 1)).v) (x'.v / 2 ^ (W.add i (W.of .i64 1)).v):Nat):Int)=_
     rw [hn,hav,show 32 - (i.v+1)=31 - i.v by omega]
     rw [Int.natCast_add] at h4
     generalize ((x'.v / 2 ^ i.v % 2:Nat):Int)=bt at h4 ⊢
     generalize ((pop (31 - i.v) (x'.v / 2 ^ (i.v+1)):Nat):Int)=z at h4 ⊢
     omega
    ·show (32 - (W.add i (W.of .i64 1)).n).toNat < _;omega
   ·right
    rw [if_neg hi]
    refine ⟨_,rfl,?_⟩
    show n.n=_
    have:i.v=32:=by unfold W.v;omega
    rw [this] at h4
    rw [Nat.sub_self,pop_none] at h4
    omega
  ·show 0≤(W.of .i64 0).n;rw [i64_zero];omega
  ·show 0≤(W.of .i64 0).n;rw [i64_zero];omega
  ·show (W.of .i64 0).n≤32;rw [i64_zero];omega
  ·show (W.of .i64 0).n+((pop (32 - (W.of .i64 0).v) (x.v / 2 ^ (W.of .i64 0).v):Nat):Int)=_
   have:(W.of .i64 0).v=0:=by rfl
   rw [this,i64_zero,Nat.pow_zero,Nat.div_one,Nat.sub_zero];omega
  ·show (32 - (W.of .i64 0).n).toNat < fuel
   rw [i64_zero];unfold fuel;decide
 obtain ⟨o,h1,h2⟩:=key
 refine ⟨o.1,?_,h2⟩
 simp only [F_ref03_Pop,T_ref03_Pop,ev_opt,ev_ret,h1,Option.bind_some]
theorem pop_eq (x:W .u32):∃ n,F_alu_Pop x=some n∧F_ref03_Pop x=some n:=by
 obtain ⟨n,h1,h2⟩:=pop_prog x
 obtain ⟨m,h3,h4⟩:=pop_ref x
 have:n=m:=W.ext (by rw [h2,h4])
 subst this
 exact ⟨n,h1,h3⟩
theorem digits (x:Nat) (hx:x < 4294967296):∃ b0 b1 b2 b3,b0 < 256∧b1 < 256∧b2 < 256∧b3 < 256∧x=b0+256*(b1+256*(b2+256*b3)):=
 ⟨x % 256,x / 256 % 256,x / 65536 % 256,x / 16777216,by omega,by omega,by omega,by omega,by omega⟩
theorem or_add (a b k:Nat) (hb:b < 2 ^ k):a*2 ^ k ||| b=a*2 ^ k+b:=by rw [Nat.mul_comm,Nat.two_pow_add_eq_or_of_lt hb]
theorem and_mid (z j:Nat):z &&& (255*2 ^ j)=z / 2 ^ j % 256*2 ^ j:=by
 apply Nat.eq_of_testBit_eq
 intro i
 rw [Nat.testBit_and,Nat.mul_comm 255,Nat.testBit_two_pow_mul,Nat.mul_comm _ (2 ^ j),Nat.testBit_two_pow_mul,show (256:Nat)=2 ^ 8 by rfl,Nat.testBit_mod_two_pow,Nat.testBit_div_two_pow,show (255:Nat)=2 ^ 8 - 1 by rfl,Nat.testBit_two_pow_sub_one]
 by_cases h:j≤i
 ·rw [show i - j+j=i by omega]
  cases z.testBit i<;>simp [h]
 ·simp [h]
theorem rev_a1 {b0 b1 b2 b3:Nat} (h0:b0 < 256):(b0+256*(b1+256*(b2+256*b3)))*16777216 % 4294967296=b0*16777216:=by
 have e:(b0+256*(b1+256*(b2+256*b3)))*16777216=b0*16777216+4294967296*(b1+256*(b2+256*b3)):=by
  generalize b1+256*(b2+256*b3)=z;omega
 rw [e,Nat.add_mul_mod_self_left];exact Nat.mod_eq_of_lt (by omega)
theorem rev_a2 {b0 b1 b2 b3:Nat} (h0:b0 < 256) (h1:b1 < 256) (h2:b2 < 256):(b0+256*(b1+256*(b2+256*b3)))*256 % 4294967296 / 65536 % 256*65536=b1*65536:=by
 have e:(b0+256*(b1+256*(b2+256*b3)))*256=(b0*256+65536*(b1+256*b2))+4294967296*b3:=by omega
 rw [e,Nat.add_mul_mod_self_left,Nat.mod_eq_of_lt (a:=b0*256+65536*(b1+256*b2)) (b:=4294967296) (by omega),Nat.add_mul_div_left _ _ (by omega),Nat.div_eq_of_lt (show b0*256 < 65536 by omega),Nat.zero_add,Nat.add_mul_mod_self_left,Nat.mod_eq_of_lt h1]
theorem rev_a3 {b0 b1 b2 b3:Nat} (h0:b0 < 256) (h1:b1 < 256) (h2:b2 < 256):(b0+256*(b1+256*(b2+256*b3))) / 256 / 256 % 256*256=b2*256:=by
 rw [Nat.add_mul_div_left _ _ (by omega),Nat.div_eq_of_lt h0,Nat.zero_add,Nat.add_mul_div_left _ _ (by omega),Nat.div_eq_of_lt h1,Nat.zero_add,Nat.add_mul_mod_self_left,Nat.mod_eq_of_lt h2]
theorem rev_a4 {b0 b1 b2 b3:Nat} (h0:b0 < 256) (h1:b1 < 256) (h2:b2 < 256):(b0+256*(b1+256*(b2+256*b3))) / 16777216=b3:=by
 rw [show (16777216:Nat)=256*256*256 by rfl,←Nat.div_div_eq_div_mul,←Nat.div_div_eq_div_mul,Nat.add_mul_div_left _ _ (by omega),Nat.div_eq_of_lt h0,Nat.zero_add,Nat.add_mul_div_left _ _ (by omega),Nat.div_eq_of_lt h1,Nat.zero_add,Nat.add_mul_div_left _ _ (by omega),Nat.div_eq_of_lt h2,Nat.zero_add]
theorem rev_c1 (b0 b1:Nat):b0*16777216+b1*65536=(b0*256+b1)*65536:=by omega
theorem rev_c2 (b0 b1 b2:Nat):(b0*256+b1)*65536+b2*256=((b0*256+b1)*256+b2)*256:=by omega
theorem rev_c3 (b0 b1 b2 b3:Nat):((b0*256+b1)*256+b2)*256+b3=b3+256*(b2+256*(b1+256*b0)):=by omega
theorem rev_s {z b:Nat} {x:Nat} (hz:z < 16777216) (hb:b < 256):(256*z % 4294967296+(b+256*x) % 256) % 4294967296=b+256*z:=by
 rw [Nat.add_mul_mod_self_left,Nat.mod_eq_of_lt hb,Nat.mod_eq_of_lt (a:=256*z) (by omega),Nat.mod_eq_of_lt (by omega)];omega
theorem rev_prog (x:W .u32) {b0 b1 b2 b3:Nat} (h0:b0 < 256) (h1:b1 < 256) (h2:b2 < 256) (h3:b3 < 256) (hx:x.v=b0+256*(b1+256*(b2+256*b3))):
  (W.or (W.or (W.or (W.shl x (W.of .u64 24)) (W.and (W.shl x (W.of .u64 8)) (W.of .u32 16711680))) (W.and (W.shr x (W.of .u64 8)) (W.of .u32 65280))) (W.shr x (W.of .u64 24))).v=b3+256*(b2+256*(b1+256*b0)):=by
 have e24:(W.of .u64 24).v=24:=by rfl
 have e8:(W.of .u64 8).v=8:=by rfl
 have m1:(W.of .u32 16711680).v=255*2 ^ 16:=by rfl
 have m2:(W.of .u32 65280).v=255*2 ^ 8:=by rfl
 have p24:(2:Nat) ^ 24=16777216:=by rfl
 have p16:(2:Nat) ^ 16=65536:=by rfl
 have p8:(2:Nat) ^ 8=256:=by rfl
 rw [W.uor rfl,W.uor rfl,W.uor rfl,W.uand rfl,W.uand rfl,W.shl_v,W.shl_v,W.shr_v,W.shr_v,e24,e8,m1,m2,and_mid,and_mid,hx]
 rw [p24,p16,p8]
 rw [rev_a1 h0,rev_a2 h0 h1 h2,rev_a3 h0 h1 h2,rev_a4 h0 h1 h2]
 have o1:=or_add b0 (b1*65536) 24 (by rw [p24];omega)
 have o2:=or_add (b0*256+b1) (b2*256) 16 (by rw [p16];omega)
 have o3:=or_add ((b0*256+b1)*256+b2) b3 8 (by rw [p8];omega)
 rw [p24] at o1
 rw [p16] at o2
 rw [p8] at o3
 rw [o1,rev_c1,o2,rev_c2,o3]
 exact rev_c3 b0 b1 b2 b3
theorem rev_eq (x:W .u32):∃ y,F_alu_Rev x=some y∧F_ref03_Rev x=some y:=by
 obtain ⟨b0,b1,b2,b3,h0,h1,h2,h3,hx⟩:=digits x.v x.v_lt
 have k256:(W.of .u32 256).v=256:=by rfl
 have step:∀ (y o:W .u32) (k:W .i64) (j:Int),k.n=j→0≤j→j < 4→(B_ref03_Rev_7 y o k).eval=some (.next (W.quo y (W.of .u32 256),W.add (W.mul (W.of .u32 256) o) (W.rem y (W.of .u32 256)),W.add k (W.of .i64 1),())):=fun y o k j hk h0 h4=>by
  simp only [B_ref03_Rev_7,ev_ite,ev_ret,W.lt_n,lit64 4 (by omega)]
  rw [if_pos (by omega)]
 have last:∀ (y o:W .u32) (k:W .i64),k.n=4→(B_ref03_Rev_7 y o k).eval=some (.out (o,())):=fun y o k hk=>by
  simp only [B_ref03_Rev_7,ev_ite,ev_ret,W.lt_n,lit64 4 (by omega)]
  rw [if_neg (by omega)]
 have n1:(W.add (W.of .i64 0) (W.of .i64 1)).n=1:=by rfl
 have n2:(W.add (W.add (W.of .i64 0) (W.of .i64 1)) (W.of .i64 1)).n=2:=by rfl
 have n3:(W.add (W.add (W.add (W.of .i64 0) (W.of .i64 1)) (W.of .i64 1)) (W.of .i64 1)).n=3:=by rfl
 have n4:(W.add (W.add (W.add (W.add (W.of .i64 0) (W.of .i64 1)) (W.of .i64 1)) (W.of .i64 1)) (W.of .i64 1)).n=4:=by rfl
 have q1:(W.quo x (W.of .u32 256)).v=b1+256*(b2+256*b3):=by rw [W.quo_v,k256,hx];omega
 have q2:(W.quo (W.quo x (W.of .u32 256)) (W.of .u32 256)).v=b2+256*b3:=by rw [W.quo_v,k256,q1];omega
 have q3:(W.quo (W.quo (W.quo x (W.of .u32 256)) (W.of .u32 256)) (W.of .u32 256)).v=b3:=by rw [W.quo_v,k256,q2];omega
 have s1:(W.add (W.mul (W.of .u32 256) (W.of .u32 0)) (W.rem x (W.of .u32 256))).v=b0:=by rw [W.add_v,W.mul_v,W.rem_v,k256,zero32,hx];exact rev_s (z:=0) (by omega) h0
 have s2:∀ o:W .u32,o.v=b0→(W.add (W.mul (W.of .u32 256) o) (W.rem (W.quo x (W.of .u32 256)) (W.of .u32 256))).v=b1+256*b0:=fun o ho=>by rw [W.add_v,W.mul_v,W.rem_v,k256,q1,ho];exact rev_s (by omega) h1
 have s3:∀ o:W .u32,o.v=b1+256*b0→(W.add (W.mul (W.of .u32 256) o) (W.rem (W.quo (W.quo x (W.of .u32 256)) (W.of .u32 256)) (W.of .u32 256))).v=b2+256*(b1+256*b0):=fun o ho=>by rw [W.add_v,W.mul_v,W.rem_v,k256,q2,ho];exact rev_s (by omega) h2
 have s4:∀ o:W .u32,o.v=b2+256*(b1+256*b0)→(W.add (W.mul (W.of .u32 256) o) (W.rem (W.quo (W.quo (W.quo x (W.of .u32 256)) (W.of .u32 256)) (W.of .u32 256)) (W.of .u32 256))).v=b3+256*(b2+256*(b1+256*b0)):=fun o ho=>by rw [W.add_v,W.mul_v,W.rem_v,k256,q3,ho];exact rev_s (x:=0) (by omega) h3
 have run:∃ o,L_ref03_Rev_7 (x,W.of .u32 0,W.of .i64 0,())=some o∧o.1.v=b3+256*(b2+256*(b1+256*b0)):=by
  refine ⟨(W.add (W.mul (W.of .u32 256) (W.add (W.mul (W.of .u32 256) (W.add (W.mul (W.of .u32 256) (W.add (W.mul (W.of .u32 256) (W.of .u32 0)) (W.rem x (W.of .u32 256)))) (W.rem (W.quo x (W.of .u32 256)) (W.of .u32 256)))) (W.rem (W.quo (W.quo x (W.of .u32 256)) (W.of .u32 256)) (W.of .u32 256)))) (W.rem (W.quo (W.quo (W.quo x (W.of .u32 256)) (W.of .u32 256)) (W.of .u32 256)) (W.of .u32 256)),()),?_,?_⟩
  ·unfold L_ref03_Rev_7
   rw [show fuel=1048571+5 by rfl]
   rw [iter_succ,step _ _ _ 0 (by rfl) (by omega) (by omega)]
   simp only []
   rw [iter_succ,step _ _ _ 1 n1 (by omega) (by omega)]
   simp only []
   rw [iter_succ,step _ _ _ 2 n2 (by omega) (by omega)]
   simp only []
   rw [iter_succ,step _ _ _ 3 n3 (by omega) (by omega)]
   simp only []
   rw [iter_succ,last _ _ _ n4]
  ·exact s4 _ (s3 _ (s2 _ s1))
 obtain ⟨o,g1,g2⟩:=run
 refine ⟨o.1,?_,?_⟩
 ·simp only [F_alu_Rev,T_alu_Rev,ev_ret]
  exact congrArg some (W.ext_v ((rev_prog x h0 h1 h2 h3 hx).trans g2.symm))
 ·simp only [F_ref03_Rev,T_ref03_Rev,ev_opt,ev_ret,g1,Option.bind_some]
theorem alu_eq (op:W .i64) (a b:W .u32):∃ r,F_alu_Do op a b=some r∧F_ref03_Do op a b=some r:=by
 obtain ⟨lo,hlo,hlv⟩:=low_v b
 obtain ⟨sa,hsa,hsan⟩:=signed_n a
 obtain ⟨sb,hsb,hsbn⟩:=signed_n b
 obtain ⟨ro,hro,hro'⟩:=rot_eq a b lo hlv
 obtain ⟨cl,hcl,hcl'⟩:=clz_eq a
 obtain ⟨po,hpo,hpo'⟩:=pop_eq a
 obtain ⟨re,hre,hre'⟩:=rev_eq a
 have hb31:F_ref03_bit a (W.of .i64 31)=some (W.of .u32 ((a.v / 2 ^ 31 % 2:Nat):Int)):=bit_eq (x:=a) (i:=W.of .i64 31) (by decide)
 have hone:∀ t,∃ y,F_alu_one t=some y:=fun t=>by cases t<;>exact ⟨_,rfl⟩
 obtain ⟨o1,ho1⟩:=hone (W.lt (W.conv .i32 a) (W.conv .i32 b))
 obtain ⟨o2,ho2⟩:=hone (W.lt a b)
 have lui:W.shl b (W.of .u64 14)=W.mul b (W.of .u32 16384):=by
  apply W.ext_v
  rw [W.shl_v,W.mul_v];rfl
 have mn:∀ (k:Option (W .u32×Bool)),k=some ((if W.lt sb sa=true then b else a),true)→k=some (W.conv .u32 (W.min (W.conv .i32 a) (W.conv .i32 b)),true):=fun k hk=>by
  rw [hk,lt_signed hsbn hsan]
  unfold W.min
  by_cases h:(W.conv .i32 b).n < (W.conv .i32 a).n
  ·rw [if_pos (W.lt_n.2 h),if_pos h,back_i32]
  ·rw [if_neg fun h'=>h (W.lt_n.1 h'),if_neg h,back_i32]
 have mx:∀ (k:Option (W .u32×Bool)),k=some ((if W.gt sb sa=true then b else a),true)→k=some (W.conv .u32 (W.max (W.conv .i32 a) (W.conv .i32 b)),true):=fun k hk=>by
  rw [hk]
  unfold W.max
  by_cases h:(W.conv .i32 b).n > (W.conv .i32 a).n
  ·rw [if_pos (W.gt_n.2 (by omega)),if_pos h,back_i32]
  ·rw [if_neg fun h'=>h (by have:=W.gt_n.1 h';omega),if_neg h,back_i32]
 have push:∀ {c:Prop} [Decidable c] (x y:W .u32),(if c then some (x,true) else some (y,true))=some ((if c then x else y),true):=fun {c} _ x y=>by split<;>rfl
 simp only [F_alu_Do,T_alu_Do,F_alu_logic,T_alu_logic,F_alu_single,T_alu_single,F_ref03_Do,T_ref03_Do,ev_ite,ev_ret,ev_opt,hlo,hsa,hsb,hro,hro',hcl,hcl',hpo,hpo',hre,hre',hb31,Option.bind_some,one_eq,lt_signed hsan hsbn,ho1,ho2,
  and_eq,or_eq,xor_eq,shl_eq a b lo hlv,shr_eq a b lo hlv,sar_eq a b lo hlv,lui,W.eq_n,
  lit64 1 (by omega),lit64 2 (by omega),lit64 3 (by omega),lit64 4 (by omega),lit64 5 (by omega),lit64 6 (by omega),lit64 7 (by omega),lit64 8 (by omega),lit64 9 (by omega),lit64 10 (by omega),lit64 18 (by omega),lit64 19 (by omega),lit64 20 (by omega),lit64 21 (by omega),lit64 22 (by omega),lit64 23 (by omega),lit64 25 (by omega),lit64 26 (by omega),lit64 27 (by omega),lit64 28 (by omega),lit64 29 (by omega),lit64 30 (by omega),lit64 31 (by omega),lit64 32 (by omega),lit64 33 (by omega)]
 generalize op.n=o
 by_cases c1:o=1
 ·subst c1;exact ⟨_,rfl,rfl⟩
 by_cases c2:o=2
 ·subst c2;exact ⟨_,rfl,rfl⟩
 by_cases c3:o=3
 ·subst c3;exact ⟨_,rfl,rfl⟩
 by_cases c4:o=4
 ·subst c4;exact ⟨_,rfl,rfl⟩
 by_cases c5:o=5
 ·subst c5;exact ⟨_,rfl,rfl⟩
 by_cases c6:o=6
 ·subst c6;exact ⟨_,rfl,rfl⟩
 by_cases c7:o=7
 ·subst c7;exact ⟨_,rfl,rfl⟩
 by_cases c8:o=8
 ·subst c8;exact ⟨_,rfl,rfl⟩
 by_cases c9:o=9
 ·subst c9;exact ⟨_,rfl,rfl⟩
 by_cases c10:o=10
 ·subst c10;exact ⟨_,rfl,rfl⟩
 by_cases c18:o=18
 ·subst c18;exact ⟨_,rfl,mn _ (push b a)⟩
 by_cases c19:o=19
 ·subst c19;exact ⟨_,rfl,mx _ (push b a)⟩
 by_cases c20:o=20
 ·subst c20;exact ⟨_,rfl,rfl⟩
 by_cases c21:o=21
 ·subst c21;exact ⟨_,rfl,rfl⟩
 by_cases c22:o=22
 ·subst c22;exact ⟨_,rfl,rfl⟩
 by_cases c23:o=23
 ·subst c23;exact ⟨_,rfl,rfl⟩
 by_cases c25:o=25
 ·subst c25;exact ⟨_,rfl,rfl⟩
 by_cases c26:o=26
 ·subst c26;exact ⟨_,rfl,rfl⟩
 by_cases c27:o=27
 ·subst c27;exact ⟨_,rfl,rfl⟩
 by_cases c28:o=28
 ·subst c28;exact ⟨_,rfl,rfl⟩
 by_cases c29:o=29
 ·subst c29;exact ⟨_,rfl,rfl⟩
 by_cases c30:o=30
 ·subst c30;exact ⟨_,rfl,rfl⟩
 by_cases c31:o=31
 ·subst c31;exact ⟨_,rfl,rfl⟩
 by_cases c32:o=32
 ·subst c32;exact ⟨_,rfl,rfl⟩
 by_cases c33:o=33
 ·subst c33;exact ⟨_,rfl,rfl⟩
 simp only [c1,c2,c3,c4,c5,c6,c7,c8,c9,c10,c18,c19,c20,c21,c22,c23,c25,c26,c27,c28,c29,c30,c31,c32,c33,if_false]
 exact ⟨_,rfl,rfl⟩
end Go.Proofs.YtijckobfnmkjdaaGreatDoor
