/- YtchpjkadpdajkaaGreatDoorTells0: numbers' low bits. No statement of the seat is proved here. -/
import Derived.Test.YtchpjkadpdajkaaGreatDoorTrees
import Derived.Test.YtchpjkadpdajkaaGreatDoorA2F
set_option linter.unusedSimpArgs false
set_option linter.unusedVariables false
namespace Go.Proofs.YtchpjkadpdajkaaGreatDoor
open Go Go.A2
theorem lit64 (n:Int) (h:-9223372036854775808≤n∧n < 9223372036854775808):(W.of .i64 n).n=n:=by rw [W.of_n,wrap_i64];omega
theorem litv32 (n:Nat) (h:n < 4294967296):(W.of .u32 (n:Int)).v=n:=by rw [W.uof rfl];exact Nat.mod_eq_of_lt h
theorem two:(W.of .u32 2).v=2:=by rfl
theorem one32:(W.of .u32 1).v=1:=by rfl
theorem zero32:(W.of .u32 0).v=0:=by rfl
theorem one64:(W.of .u64 1).v=1:=by rfl
theorem clamp_eq {n:W .i64} (h:0≤n.n∧n.n≤32):F_bits_clamp n (W.of .i64 0) (W.of .i64 32)=some n:=by
 simp only [F_bits_clamp,T_bits_clamp,ev_ret]
 have h0:(W.of .i64 0).n=0:=lit64 0 (by omega)
 have h1:(W.of .i64 32).n=32:=lit64 32 (by omega)
 have e1:W.max n (W.of .i64 0)=n:=by unfold W.max;rw [if_neg (by omega)]
 rw [e1]
 unfold W.min;rw [if_neg (by omega)]
theorem brought_eq {n:W .i64} (h:0≤n.n∧n.n≤32):F_ref01_brought n (W.of .i64 0) (W.of .i64 32)=some n:=by
 simp only [F_ref01_brought,T_ref01_brought,ev_ret,ev_ite,W.lt_n,W.gt_n]
 have h0:(W.of .i64 0).n=0:=lit64 0 (by omega)
 have h1:(W.of .i64 32).n=32:=lit64 32 (by omega)
 rw [if_neg (by omega),if_neg (by omega)]
theorem Zext_eq {x:W .u32} {n:W .i64} (h:0≤n.n∧n.n≤32):F_bits_Zext x n=some (W.of .u32 ((x.v % 2 ^ n.v:Nat):Int)):=by
 have hv:n.v≤32:=by unfold W.v;omega
 have h64:(W.of .u64 1).v=1:=one64
 simp only [F_bits_Zext,T_bits_Zext,ev_opt,ev_ret,clamp_eq h,Option.bind_some]
 simp only [F_bits_ones,T_bits_ones,ev_opt,ev_ret]
 have hsh:W.shl? (W.of .u64 1) n=some (W.shl (W.of .u64 1) n):=by unfold W.shl?;rw [if_neg (by omega)]
 simp only [hsh,Option.bind_some,Option.some.injEq]
 apply W.ext_v
 have hp:2 ^ n.v≤2 ^ 32:=Nat.pow_le_pow_right (by omega) hv
 have hp0:0 < 2 ^ n.v:=Nat.pow_pos (by omega)
 have hs:(W.shl (W.of .u64 1) n).v=2 ^ n.v:=by
  rw [W.ushl rfl,h64,Nat.one_mul];exact Nat.mod_eq_of_lt (Nat.lt_of_le_of_lt hp (by decide))
 have hm:(W.conv .u32 (W.sub (W.shl (W.of .u64 1) n) (W.of .u64 1))).v=2 ^ n.v - 1:=by
  have h1:(W.sub (W.shl (W.of .u64 1) n) (W.of .u64 1)).n=((2 ^ n.v - 1:Nat):Int):=by
   rw [W.sub_n,W.un rfl,W.un rfl (a:=W.of .u64 1),hs,h64,wrap_u64];omega
  rw [W.uconv rfl rfl]
  have h2:(W.sub (W.shl (W.of .u64 1) n) (W.of .u64 1)).v=2 ^ n.v - 1:=by unfold W.v;rw [h1];rfl
  rw [h2];exact Nat.mod_eq_of_lt (by have:(2:Nat) ^ 32=2 ^ IntKind.u32.bits:=rfl;omega)
 rw [W.uand rfl,hm,litv32 _ (Nat.lt_of_le_of_lt (Nat.mod_le _ _) x.v_lt),Nat.and_two_pow_sub_one_eq_mod]
theorem power_eq {n:W .i64} (h:0≤n.n∧n.n < 64):F_ref01_power n=some (W.of .u32 ((2 ^ n.v % 4294967296:Nat):Int)):=by
 have h0:(W.of .i64 0).n=0:=lit64 0 (by omega)
 have hone:(W.of .i64 1).n=1:=lit64 1 (by omega)
 have key:L_ref01_power_7 (n,W.of .u32 1,W.of .i64 0,())=some (W.of .u32 ((2 ^ n.v % 4294967296:Nat):Int),()):=by
  unfold L_ref01_power_7
  refine iter_eq (I:=fun a=>a.1=n∧0≤a.2.2.1.n∧a.2.2.1.n≤n.n∧a.2.1.v=2 ^ a.2.2.1.v % 4294967296) (μ:=fun a=>(n.n - a.2.2.1.n).toNat) _ ?_ ⟨rfl,?_,?_,?_⟩ ?_
  ·rintro ⟨n',x,i,u⟩ ⟨rfl,h1,h2,h3⟩
   simp only at h h1 h2 h3 ⊢
   simp only [B_ref01_power_7,ev_ite,ev_ret,W.lt_n]
   by_cases hi:i.n < n'.n
   ·left
    have hi1:(W.add i (W.of .i64 1)).n=i.n+1:=by rw [W.add_n,hone,wrap_i64];omega
    refine ⟨_,if_pos hi,⟨rfl,?_,?_,?_⟩,?_⟩
    ·show 0≤(W.add i (W.of .i64 1)).n;omega
    ·show (W.add i (W.of .i64 1)).n≤_;omega
    ·show (W.mul x (W.of .u32 2)).v=_
     have:(W.add i (W.of .i64 1)).v=i.v+1:=by unfold W.v;omega
     rw [W.mul_v,this,h3,two,Nat.pow_succ];omega
    ·show (n'.n - (W.add i (W.of .i64 1)).n).toNat < _;omega
   ·right
    have:i=n':=W.ext (by omega)
    subst this
    rw [if_neg hi]
    congr 3
    apply W.ext_v
    rw [h3,litv32 _ (Nat.mod_lt _ (by omega))]
  ·show 0≤(W.of .i64 0).n;omega
  ·show (W.of .i64 0).n≤_;omega
  ·show (W.of .u32 1).v=2 ^ (W.of .i64 0).v % 4294967296
   rw [one32]
   have:(W.of .i64 0).v=0:=by unfold W.v;rw [h0];rfl
   rw [this]
  ·show (n.n - (W.of .i64 0).n).toNat < fuel
   unfold fuel;omega
 simp only [F_ref01_power,T_ref01_power,ev_opt,ev_ret,key,Option.bind_some]
theorem bit01_eq {x:W .u32} {i:W .i64} (h:0≤i.n∧i.n < 32):F_ref01_bit x i=some (W.of .u32 ((x.v / 2 ^ i.v % 2:Nat):Int)):=by
 have hv:i.v < 32:=by unfold W.v;omega
 have hp:2 ^ i.v < 4294967296:=Nat.lt_of_lt_of_le (Nat.pow_lt_pow_right (a:=2) (by omega) hv) (by decide)
 have hp0:0 < 2 ^ i.v:=Nat.pow_pos (by omega)
 have hpv:(W.of .u32 ((2 ^ i.v % 4294967296:Nat):Int)).v=2 ^ i.v:=by
  rw [litv32 _ (Nat.mod_lt _ (by omega))];exact Nat.mod_eq_of_lt hp
 simp only [F_ref01_bit,T_ref01_bit,ev_opt,ev_ret,power_eq (n:=i) (by omega),Option.bind_some]
 have hq:W.quo? x (W.of .u32 ((2 ^ i.v % 4294967296:Nat):Int))=some (W.quo x (W.of .u32 ((2 ^ i.v % 4294967296:Nat):Int))):=by
  unfold W.quo?
  rw [if_neg (by rw [W.n_v,hpv];omega)]
 rw [hq,Option.bind_some]
 congr 1
 apply W.ext_v
 rw [W.rem_v,W.quo_v,hpv,two,litv32 _ (by omega)]
theorem mod_pow_succ (x n:Nat):x % 2 ^ (n+1)=x % 2 ^ n+x / 2 ^ n % 2*2 ^ n:=by
 rw [Nat.pow_succ,Nat.mod_mul];rw [Nat.mul_comm (2 ^ n)]
theorem Zext01_eq {x:W .u32} {n:W .i64} (h:0≤n.n∧n.n≤32):F_ref01_Zext x n=some (W.of .u32 ((x.v % 2 ^ n.v:Nat):Int)):=by
 have h0:(W.of .i64 0).n=0:=lit64 0 (by omega)
 have hone:(W.of .i64 1).n=1:=lit64 1 (by omega)
 have hx:=x.v_lt
 have key:L_ref01_Zext_9 (x,n,W.of .u32 0,W.of .i64 0,())=some (W.of .u32 ((x.v % 2 ^ n.v:Nat):Int),()):=by
  unfold L_ref01_Zext_9
  refine iter_eq (I:=fun a=>a.1=x∧a.2.1=n∧0≤a.2.2.2.1.n∧a.2.2.2.1.n≤n.n∧a.2.2.1.v=x.v % 2 ^ a.2.2.2.1.v) (μ:=fun a=>(n.n - a.2.2.2.1.n).toNat) _ ?_ ⟨rfl,rfl,?_,?_,?_⟩ ?_
  ·rintro ⟨x',n',out,i,u⟩ ⟨rfl,rfl,h1,h2,h3⟩
   simp only at h hx h1 h2 h3 ⊢
   simp only [B_ref01_Zext_9,ev_ite,ev_ret,ev_opt,W.lt_n]
   by_cases hi:i.n < n'.n
   ·left
    have hi1:(W.add i (W.of .i64 1)).n=i.n+1:=by rw [W.add_n,hone,wrap_i64];omega
    have hv:i.v < 32:=by unfold W.v;omega
    have hp:2 ^ i.v < 4294967296:=Nat.lt_of_lt_of_le (Nat.pow_lt_pow_right (a:=2) (by omega) hv) (by decide)
    rw [if_pos hi,bit01_eq (by omega),power_eq (by omega)]
    simp only [Option.bind_some]
    refine ⟨_,rfl,⟨rfl,rfl,?_,?_,?_⟩,?_⟩
    ·show 0≤(W.add i (W.of .i64 1)).n;omega
    ·show (W.add i (W.of .i64 1)).n≤_;omega
    ·show (W.add out (W.mul _ _)).v=x'.v % 2 ^ (W.add i (W.of .i64 1)).v
     have:(W.add i (W.of .i64 1)).v=i.v+1:=by unfold W.v;omega
     have hb:=Nat.mod_lt (x'.v / 2 ^ i.v) (show 0 < 2 by omega)
     rw [this,mod_pow_succ,W.add_v,W.mul_v,h3,litv32 _ (by omega),litv32 _ (Nat.mod_lt _ (by omega)),Nat.mod_eq_of_lt hp]
     have h5:x'.v % 2 ^ (i.v+1)≤x'.v:=Nat.mod_le _ _
     rw [mod_pow_succ] at h5
     rw [Nat.mod_eq_of_lt (a:=x'.v / 2 ^ i.v % 2*2 ^ i.v) (by omega),Nat.mod_eq_of_lt (by omega)]
    ·show (n'.n - (W.add i (W.of .i64 1)).n).toNat < _;omega
   ·right
    have:i=n':=W.ext (by omega)
    subst this
    rw [if_neg hi]
    congr 3
    apply W.ext_v
    rw [h3,litv32 _ (Nat.lt_of_le_of_lt (Nat.mod_le _ _) hx)]
  ·show 0≤(W.of .i64 0).n;omega
  ·show (W.of .i64 0).n≤_;omega
  ·show (W.of .u32 0).v=x.v % 2 ^ (W.of .i64 0).v
   rw [zero32]
   have:(W.of .i64 0).v=0:=by unfold W.v;rw [h0];rfl
   rw [this];omega
  ·show (n.n - (W.of .i64 0).n).toNat < fuel
   unfold fuel;omega
 simp only [F_ref01_Zext,T_ref01_Zext,ev_opt,ev_ret,brought_eq h,key,Option.bind_some]
theorem size_eq (op:W .i64):F_ref24_Size op=F_crack_Size op:=by kernel_rfl
theorem size_some (op:W .i64):∃ s,F_crack_Size op=some s∧0≤s.n∧s.n≤4:=by
 simp only [F_crack_Size,T_crack_Size,ev_ite,ev_ret]
 have ite:∀ {c:Prop} [Decidable c] {a b:Option (W .i64)},(∃ s,a=some s∧0≤s.n∧s.n≤4)→(∃ s,b=some s∧0≤s.n∧s.n≤4)→∃ s,(if c then a else b)=some s∧0≤s.n∧s.n≤4:=fun {c} _ {a b} ha hb=>by
  split
  ·exact ha
  ·exact hb
 repeat' apply ite
 all_goals (refine ⟨_,rfl,?_⟩;decide)
theorem between_eq (op a b:W .i64):F_exec_between op a b=some (decide (a.n≤op.n∧op.n≤b.n)):=by
 simp only [F_exec_between,T_exec_between,ev_ite,ev_ret,W.ge_n]
 by_cases h:a.n≤op.n
 ·rw [if_pos h]
  congr 1
  by_cases h2:op.n≤b.n
  ·rw [W.le_n.2 h2,decide_eq_true ⟨h,h2⟩]
  ·rw [Bool.eq_false_iff.2 fun h'=>h2 (W.le_n.1 h'),decide_eq_false fun h'=>h2 h'.2]
 ·rw [if_neg h,decide_eq_false fun h'=>h h'.1]
theorem data_eq (u:TUop) (i:Arr 3 (W .u32)):∃ r,F_exec_Data u i=some r∧F_ref32_Data u i=some r:=by
 obtain ⟨s,hs,h1,h2⟩:=size_some u.Inst.Op
 have h8:(W.of .i64 8).n=8:=lit64 8 (by omega)
 have hm:(W.mul (W.of .i64 8) s).n=8*s.n:=by rw [W.mul_n,h8,wrap_i64];omega
 simp only [F_ref32_Data,T_ref32_Data,F_exec_Data,T_exec_Data,ev_ite,ev_ret,ev_opt,between_eq,size_eq,hs,Option.bind_some,Zext_eq (n:=W.mul (W.of .i64 8) s) (by omega),Zext01_eq (n:=W.mul (W.of .i64 8) s) (by omega),
  W.lt_n,W.gt_n,lit64 40 (by omega),lit64 42 (by omega),Bool.not_eq_true',decide_eq_false_iff_not]
 generalize u.Inst.Op.n=o
 by_cases h:40≤o∧o≤42
 ·rw [if_neg (by omega),if_neg (by omega),if_neg (by omega)]
  exact ⟨_,rfl,rfl⟩
 ·rw [if_pos h]
  by_cases h3:o < 40
  ·rw [if_pos h3];exact ⟨_,rfl,rfl⟩
  ·rw [if_neg h3,if_pos (by omega)];exact ⟨_,rfl,rfl⟩
end Go.Proofs.YtchpjkadpdajkaaGreatDoor
