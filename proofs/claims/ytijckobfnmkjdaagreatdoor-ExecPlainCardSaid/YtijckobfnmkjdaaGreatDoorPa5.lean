/- YtijckobfnmkjdaaGreatDoorPa5: the part that reckons: the program's is the document's. No statement of the seat is proved here. -/
import Derived.Test.YtijckobfnmkjdaaGreatDoorPa4
set_option linter.unusedSimpArgs false
set_option linter.unusedVariables false
namespace Go.Proofs.YtijckobfnmkjdaaGreatDoor
open Go Go.A2
theorem of_v (w:W .u32):W.of .u32 (w.v:Int)=w:=by rw [←W.n_v,W.of_self]
theorem some_v {o:Option (W .u32)} {w:W .u32} (h:o=some (W.of .u32 (w.v:Int))):o=some w:=by rw [h,of_v]
theorem and_eq (a b:W .u32):F_ref03_logic a b (W.of .u32 2) (W.of .u32 2)=some (W.and a b):=some_v (logic_eq (W.v_lt _) fun i hi=>by
 rw [W.uand rfl,two,bit01,bit01,bit01,Nat.testBit_and]
 cases a.v.testBit i<;>cases b.v.testBit i<;>simp)
theorem or_eq (a b:W .u32):F_ref03_logic a b (W.of .u32 1) (W.of .u32 2)=some (W.or a b):=some_v (logic_eq (W.v_lt _) fun i hi=>by
 rw [W.uor rfl,two,one32,bit01,bit01,bit01,Nat.testBit_or]
 cases a.v.testBit i<;>cases b.v.testBit i<;>simp)
theorem xor_eq (a b:W .u32):F_ref03_logic a b (W.of .u32 1) (W.of .u32 1)=some (W.xor a b):=some_v (logic_eq (W.v_lt _) fun i hi=>by
 rw [W.uxor rfl,one32,bit01,bit01,bit01,Nat.testBit_xor]
 cases a.v.testBit i<;>cases b.v.testBit i<;>simp)
theorem low_v (b:W .u32):∃ r,F_alu_low b=some r∧r.v=b.v % 32:=⟨_,rfl,by rw [mask_and (k:=5) _ (by omega) (by rfl)]⟩
theorem rem32_v (b:W .u32):(W.rem b (W.of .u32 32)).v=b.v % 32:=by rw [W.rem_v];rfl
theorem rem32_n (b:W .u32):(W.conv .i64 (W.rem b (W.of .u32 32))).n=((b.v % 32:Nat):Int):=by rw [W.conv_i64_v,rem32_v]
theorem neg32_n (b:W .u32):(W.neg (W.conv .i64 (W.rem b (W.of .u32 32)))).n=-((b.v % 32:Nat):Int):=by rw [W.neg_n,rem32_n,wrap_i64];omega
theorem shl_eq (a b r:W .u32) (hr:r.v=b.v % 32):F_ref03_moved a (W.neg (W.conv .i64 (W.rem b (W.of .u32 32)))) (W.of .u32 0)=some (W.shl a r):=some_v (moved_eq (by rw [neg32_n];omega) (W.v_lt _) fun i hi=>by
 rw [W.shl_v,hr,neg32_n,zero32]
 have hs:b.v % 32 < 32:=Nat.mod_lt _ (by omega)
 generalize b.v % 32=s at hs ⊢
 rw [bit01,show (4294967296:Nat)=2 ^ 32 by rfl,Nat.testBit_mod_two_pow,Nat.mul_comm,Nat.testBit_two_pow_mul]
 by_cases h:s≤i
 ·rw [if_pos (by omega:0≤(i:Int)+-(s:Int)∧(i:Int)+-(s:Int) < 32),bit01,show ((i:Int)+-(s:Int)).toNat=i - s by omega]
  simp [h,hi]
 ·rw [if_neg (show ¬ (0≤(i:Int)+-(s:Int)∧(i:Int)+-(s:Int) < 32) by omega)]
  simp [h])
theorem shr_eq (a b r:W .u32) (hr:r.v=b.v % 32):F_ref03_moved a (W.conv .i64 (W.rem b (W.of .u32 32))) (W.of .u32 0)=some (W.shr a r):=some_v (moved_eq (by rw [rem32_n];omega) (W.v_lt _) fun i hi=>by
 rw [W.shr_v,hr,rem32_n,zero32]
 have hs:b.v % 32 < 32:=Nat.mod_lt _ (by omega)
 generalize b.v % 32=s at hs ⊢
 rw [bit01,Nat.testBit_div_two_pow]
 by_cases h:i+s < 32
 ·rw [if_pos (by omega:0≤(i:Int)+(s:Int)∧(i:Int)+(s:Int) < 32),bit01,show ((i:Int)+(s:Int)).toNat=i+s by omega]
 ·rw [if_neg (show ¬ (0≤(i:Int)+(s:Int)∧(i:Int)+(s:Int) < 32) by omega)]
  have:a.v.testBit (i+s)=false:=Nat.testBit_lt_two_pow (Nat.lt_of_lt_of_le a.v_lt (by
   have:2 ^ 32≤2 ^ (i+s):=Nat.pow_le_pow_right (by omega) (by omega)
   omega))
  simp [this])
theorem sar_v (a r:W .u32) (hr:r.v < 32):(W.conv .u32 (W.shr (W.conv .i32 a) r)).v=if a.v < 2147483648 then a.v / 2 ^ r.v else 2 ^ (32 - r.v)*(2 ^ r.v - 1)+a.v / 2 ^ r.v:=by
 have ha:=a.v_lt
 have hn:(W.conv .u32 (W.shr (W.conv .i32 a) r)).n=((W.conv .i32 a).n / ((2 ^ r.v:Nat):Int)) % 4294967296:=by rw [W.conv_n,sar_n _ _ (by omega),wrap_u32]
 rw [sgn] at hn
 generalize r.v=s at hr hn
 have hp0:0 < 2 ^ s:=Nat.pow_pos (by omega)
 have hp:2 ^ (32 - s)*2 ^ s=4294967296:=by rw [←Nat.pow_add,show 32 - s+s=32 by omega]
 have hle:a.v / 2 ^ s≤a.v:=Nat.div_le_self _ _
 show (W.conv .u32 (W.shr (W.conv .i32 a) r)).n.toNat=_
 rw [hn]
 by_cases h:a.v < 2147483648
 ·simp only [if_pos h]
  rw [←Int.natCast_ediv]
  clear hn
  generalize a.v / 2 ^ s=q at hle ⊢
  omega
 ·simp only [if_neg h]
  have e:((a.v:Int) - 4294967296) / ((2 ^ s:Nat):Int)=((a.v / 2 ^ s:Nat):Int) - ((2 ^ (32 - s):Nat):Int):=by
   have h4:((2 ^ (32 - s)*2 ^ s:Nat):Int)=4294967296:=by rw [hp];rfl
   rw [←h4,Int.natCast_mul,Int.sub_mul_ediv_right _ _ (by omega),Int.natCast_ediv]
  rw [e,Nat.mul_sub,hp,Nat.mul_one]
  have hlt:a.v / 2 ^ s < 2 ^ (32 - s):=by
   rw [Nat.div_lt_iff_lt_mul hp0,hp];exact ha
  have hle2:2 ^ (32 - s)≤4294967296:=by
   have:=Nat.le_mul_of_pos_right (2 ^ (32 - s)) hp0
   omega
  generalize a.v / 2 ^ s=q at hlt ⊢
  generalize 2 ^ (32 - s)=p at hlt hle2 ⊢
  omega
theorem sar_eq (a b r:W .u32) (hr:r.v=b.v % 32):F_ref03_moved a (W.conv .i64 (W.rem b (W.of .u32 32))) (W.of .u32 ((a.v / 2 ^ 31 % 2:Nat):Int))=some (W.conv .u32 (W.shr (W.conv .i32 a) r)):=some_v (moved_eq (by rw [rem32_n];omega) (W.v_lt _) fun i hi=>by
 have ha:=a.v_lt
 rw [sar_v a r (by omega),hr,rem32_n,litv32 _ (bit_lt _ _)]
 have hs:b.v % 32 < 32:=Nat.mod_lt _ (by omega)
 generalize b.v % 32=s at hs ⊢
 have hp0:0 < 2 ^ s:=Nat.pow_pos (by omega)
 have hp:2 ^ (32 - s)*2 ^ s=4294967296:=by rw [←Nat.pow_add,show 32 - s+s=32 by omega]
 have hlt:a.v / 2 ^ s < 2 ^ (32 - s):=by rw [Nat.div_lt_iff_lt_mul hp0,hp];exact ha
 have hidx:i+s < 32→(0≤(i:Int)+(s:Int)∧(i:Int)+(s:Int) < 32):=fun h=>by omega
 by_cases hb:a.v < 2147483648
 ·rw [if_pos hb,bit01,Nat.testBit_div_two_pow]
  by_cases h:i+s < 32
  ·rw [if_pos (hidx h),bit01,show ((i:Int)+(s:Int)).toNat=i+s by omega]
  ·rw [if_neg (show ¬ (0≤(i:Int)+(s:Int)∧(i:Int)+(s:Int) < 32) by omega)]
   have:a.v.testBit (i+s)=false:=Nat.testBit_lt_two_pow (Nat.lt_of_lt_of_le ha (by
    have:2 ^ 32≤2 ^ (i+s):=Nat.pow_le_pow_right (by omega) (by omega)
    omega))
   simp only [this,Bool.false_eq_true,if_false];omega
 ·rw [if_neg hb,bit01,Nat.testBit_two_pow_mul_add _ hlt]
  by_cases h:i+s < 32
  ·rw [if_pos (hidx h),if_pos (show i < 32 - s by omega),Nat.testBit_div_two_pow,bit01,show ((i:Int)+(s:Int)).toNat=i+s by omega]
  ·rw [if_neg (show ¬ (0≤(i:Int)+(s:Int)∧(i:Int)+(s:Int) < 32) by omega),if_neg (show ¬ i < 32 - s by omega),Nat.testBit_two_pow_sub_one]
   have:i - (32 - s) < s:=by omega
   simp only [this,decide_true,if_true];omega)
theorem rot_eq (a b r:W .u32) (hr:r.v=b.v % 32):∃ y,F_bits_Rot a (W.conv .i64 r)=some y∧F_ref03_turned a (W.conv .i64 (W.rem b (W.of .u32 32)))=some y:=by
 have ha:=a.v_lt
 have hs:b.v % 32 < 32:=Nat.mod_lt _ (by omega)
 have hk:(W.neg (W.rem (W.conv .i64 r) (W.of .i64 32))).n=-((b.v % 32:Nat):Int):=by
  rw [W.neg_n,W.rem_n,W.conv_i64_v,hr,i64_32,wrap_i64,wrap_i64,Int.tmod_eq_emod_of_nonneg (by omega)];omega
 have h31:(W.of .u64 31).v=31:=by rfl
 have h32:(W.of .u64 32).v=32:=by rfl
 have hc:(W.conv .u64 (W.neg (W.rem (W.conv .i64 r) (W.of .i64 32)))).v=(18446744073709551616 - b.v % 32) % 18446744073709551616:=by
  unfold W.v
  rw [W.conv_n,hk,wrap_u64];unfold W.v at hs ⊢;omega
 have ht:(W.and (W.conv .u64 (W.neg (W.rem (W.conv .i64 r) (W.of .i64 32)))) (W.of .u64 31)).v=(32 - b.v % 32) % 32:=by
  rw [W.uand rfl,hc,h31,show (31:Nat)=2 ^ 5 - 1 by rfl,Nat.and_two_pow_sub_one_eq_mod];omega
 have hu:(W.sub (W.of .u64 32) (W.and (W.conv .u64 (W.neg (W.rem (W.conv .i64 r) (W.of .i64 32)))) (W.of .u64 31))).v=32 - (32 - b.v % 32) % 32:=by
  have h1:=W.sub_n (W.of .u64 32) (W.and (W.conv .u64 (W.neg (W.rem (W.conv .i64 r) (W.of .i64 32)))) (W.of .u64 31))
  rw [W.un rfl (a:=W.of .u64 32),W.un rfl (a:=W.and _ _),h32,ht,wrap_u64] at h1
  show (W.sub _ _).n.toNat=_
  rw [h1];omega
 simp only [F_bits_Rot,T_bits_Rot,F_bits_RotateLeft32,T_bits_RotateLeft32,ev_opt,ev_ret,Option.bind_some]
 refine ⟨_,rfl,some_v (turned_eq (by rw [rem32_n];omega) (W.v_lt _) fun i hi=>?_)⟩
 have hv:(W.conv .i64 (W.rem b (W.of .u32 32))).v=b.v % 32:=by unfold W.v;rw [rem32_n];unfold W.v;omega
 rw [W.uor rfl,W.shl_v,W.shr_v,ht,hu,hv]
 generalize b.v % 32=s at hs ⊢
 rw [bit01,bit01,Nat.testBit_or,show (4294967296:Nat)=2 ^ 32 by rfl,Nat.testBit_mod_two_pow,Nat.mul_comm,Nat.testBit_two_pow_mul,Nat.testBit_div_two_pow]
 have big:∀ j,32≤j→a.v.testBit j=false:=fun j hj=>Nat.testBit_lt_two_pow (Nat.lt_of_lt_of_le ha (by
  have:2 ^ 32≤2 ^ j:=Nat.pow_le_pow_right (by omega) hj
  omega))
 by_cases hs0:s=0
 ·subst hs0
  simp [hi,big (i+32) (by omega),Nat.mod_eq_of_lt hi]
 ·rw [show (32 - s) % 32=32 - s by omega,show 32 - (32 - s)=s by omega]
  by_cases h:32 - s≤i
  ·rw [show (i+s) % 32=i - (32 - s) by omega,big (i+s) (by omega)]
   simp [h,hi]
  ·rw [show (i+s) % 32=i+s by omega]
   simp [h]
theorem signed_n (x:W .u32):∃ y,F_ref03_signed x=some y∧y.n=(W.conv .i32 x).n:=by
 have hx:=x.v_lt
 have h1:(W.of .u32 2147483648).v=2147483648:=by rfl
 have h2:(W.of .i64 4294967296).n=4294967296:=lit64 _ (by omega)
 simp only [F_ref03_signed,T_ref03_signed,ev_ite,ev_ret,W.ge_n,W.n_v,h1]
 rw [sgn]
 by_cases h:x.v < 2147483648
 ·rw [if_neg (by omega),if_pos h]
  exact ⟨_,rfl,W.conv_i64_v x⟩
 ·rw [if_pos (by omega),if_neg h]
  exact ⟨_,rfl,by rw [W.sub_n,W.conv_i64_v,h2,wrap_i64];omega⟩
theorem lt_signed {a b:W .u32} {x y:W .i64} (hx:x.n=(W.conv .i32 a).n) (hy:y.n=(W.conv .i32 b).n):W.lt x y=W.lt (W.conv .i32 a) (W.conv .i32 b):=by
 unfold W.lt;rw [hx,hy]
theorem ge_signed {a b:W .u32} {x y:W .i64} (hx:x.n=(W.conv .i32 a).n) (hy:y.n=(W.conv .i32 b).n):W.ge x y=W.ge (W.conv .i32 a) (W.conv .i32 b):=by
 unfold W.ge;rw [hx,hy]
theorem back_i32 (a:W .u32):W.conv .u32 (W.conv .i32 a)=a:=by
 apply W.ext
 have:=a.v_lt
 rw [W.conv_n,sgn,wrap_u32,W.n_v];split<;>omega
theorem one_eq (b:Bool):F_ref03_one b=F_alu_one b:=by kernel_rfl
theorem clz_prog (x:W .u32):∃ n:W .i64,F_alu_Clz x=some n∧0≤n.n∧n.n≤32∧x.v < 2 ^ (32 - n.v)∧(n.n < 32→2 ^ (31 - n.v)≤x.v):=by
 have hx:=x.v_lt
 have key:∃ o,L_alu_Clz_5 (x,W.of .i64 32,())=some o∧(0≤o.1.n∧o.1.n≤32∧x.v < 2 ^ (32 - o.1.v)∧(o.1.n < 32→2 ^ (31 - o.1.v)≤x.v)):=by
  unfold L_alu_Clz_5
  refine iter_inv (I:=fun t=>0≤t.2.1.n∧t.2.1.n≤32∧t.1.v=x.v / 2 ^ (32 - t.2.1.v)∧(t.2.1.n < 32→2 ^ (31 - t.2.1.v)≤x.v)) (μ:=fun t=>t.2.1.n.toNat) _ ?_ ⟨?_,?_,?_,?_⟩ ?_
  ·rintro ⟨y,n,u⟩ ⟨h1,h2,h3,h4⟩
   simp only at h1 h2 h3 h4 ⊢
   simp only [B_alu_Clz_5,ev_ite,ev_ret,W.ne_n,W.n_v,zero32]
   have hnv:n.v≤32:=by unfold W.v;omega
   have hp0:0 < 2 ^ (32 - n.v):=Nat.pow_pos (by omega)
   by_cases hy:y.v=0
   ·right
    rw [if_neg (by omega)]
    refine ⟨_,rfl,h1,h2,?_,h4⟩
    show x.v < 2 ^ (32 - n.v)
    have h5:x.v / 2 ^ (32 - n.v)=0:=by omega
    rcases Nat.div_eq_zero_iff.1 h5 with h | h
    ·omega
    ·exact h
   ·left
    have hge:2 ^ (32 - n.v)≤x.v:=by
     rcases Nat.lt_or_ge x.v (2 ^ (32 - n.v)) with h | h
     ·rw [Nat.div_eq_of_lt h] at h3;omega
     ·exact h
    have hn0:n.v ≠ 0:=fun h0=>by rw [h0] at hge;omega
    have hn1:0 < n.n:=by unfold W.v at hn0;omega
    have hm:=pred_n (i:=n) (by omega)
    have hmv:(W.sub n (W.of .i64 1)).v=n.v - 1:=by unfold W.v;omega
    rw [if_pos (by omega)]
    refine ⟨_,rfl,⟨?_,?_,?_,?_⟩,?_⟩
    ·show 0≤(W.sub n (W.of .i64 1)).n;omega
    ·show (W.sub n (W.of .i64 1)).n≤32;omega
    ·show (W.shr y (W.of .u64 1)).v=x.v / 2 ^ (32 - (W.sub n (W.of .i64 1)).v)
     rw [W.shr_v,one64,h3,hmv,Nat.div_div_eq_div_mul,←Nat.pow_add,show 32 - n.v+1=32 - (n.v - 1) by omega]
    ·intro _
     show 2 ^ (31 - (W.sub n (W.of .i64 1)).v)≤x.v
     rw [hmv,show 31 - (n.v - 1)=32 - n.v by omega];exact hge
    ·show (W.sub n (W.of .i64 1)).n.toNat < _;omega
  ·show 0≤(W.of .i64 32).n;rw [i64_32];omega
  ·show (W.of .i64 32).n≤32;rw [i64_32];omega
  ·show x.v=x.v / 2 ^ (32 - (W.of .i64 32).v)
   have:(W.of .i64 32).v=32:=by rfl
   rw [this,Nat.sub_self,Nat.pow_zero,Nat.div_one]
  ·intro h
   have h:(W.of .i64 32).n < 32:=h
   rw [i64_32] at h;omega
  ·show (W.of .i64 32).n.toNat < fuel
   rw [i64_32];unfold fuel;decide
 obtain ⟨o,h1,h2⟩:=key
 refine ⟨o.1,?_,h2⟩
 simp only [F_alu_Clz,T_alu_Clz,ev_opt,ev_ret,h1,Option.bind_some]
theorem clz_ref (x:W .u32):∃ n:W .i64,F_ref03_Clz x=some n∧0≤n.n∧n.n≤32∧x.v < 2 ^ (32 - n.v)∧(n.n < 32→2 ^ (31 - n.v)≤x.v):=by
 have hx:=x.v_lt
 have key:∃ o,L_ref03_Clz_5 (x,W.of .i64 0,())=some o∧(0≤o.1.n∧o.1.n≤32∧x.v < 2 ^ (32 - o.1.v)∧(o.1.n < 32→2 ^ (31 - o.1.v)≤x.v)):=by
  unfold L_ref03_Clz_5
  refine iter_inv (I:=fun t=>t.1=x∧0≤t.2.1.n∧t.2.1.n≤32∧x.v < 2 ^ (32 - t.2.1.v)) (μ:=fun t=>(32 - t.2.1.n).toNat) _ ?_ ⟨rfl,?_,?_,?_⟩ ?_
  ·rintro ⟨x',n,u⟩ ⟨h0,h1,h2,h3⟩
   simp only at h0 h1 h2 h3 ⊢
   subst h0
   simp only [B_ref03_Clz_5,ev_ite,ev_ret,ev_opt,W.lt_n,i64_32]
   have hnv:n.v≤32:=by unfold W.v;omega
   by_cases hn:n.n < 32
   ·have hs:(W.sub (W.of .i64 31) n).n=31 - n.n:=by rw [W.sub_n,lit64 31 (by omega),wrap_i64];omega
    have hsv:(W.sub (W.of .i64 31) n).v=31 - n.v:=by unfold W.v;omega
    have hnl:n.v < 32:=by unfold W.v;omega
    rw [if_pos hn,bit_eq (by omega),Option.bind_some]
    simp only [W.eq_n,W.n_v,zero32,litv32 _ (bit_lt _ _),hsv]
    have hpp:2 ^ (32 - n.v)=2 ^ (31 - n.v)*2:=by rw [←Nat.pow_succ];congr 1;omega
    have hp0:0 < 2 ^ (31 - n.v):=Nat.pow_pos (by omega)
    have hd:x'.v / 2 ^ (31 - n.v) < 2:=by rw [Nat.div_lt_iff_lt_mul hp0];omega
    by_cases hb:x'.v / 2 ^ (31 - n.v) % 2=0
    ·left
     rw [if_pos (by omega)]
     have ha:=succ_n (i:=n) (by omega)
     have hav:(W.add n (W.of .i64 1)).v=n.v+1:=by unfold W.v;omega
     refine ⟨_,rfl,⟨rfl,?_,?_,?_⟩,?_⟩
     ·show 0≤(W.add n (W.of .i64 1)).n;omega
     ·show (W.add n (W.of .i64 1)).n≤32;omega
     ·show x'.v < 2 ^ (32 - (W.add n (W.of .i64 1)).v)
      rw [hav,show 32 - (n.v+1)=31 - n.v by omega]
      have h5:x'.v / 2 ^ (31 - n.v)=0:=by
       generalize x'.v / 2 ^ (31 - n.v)=z at hd hb ⊢
       omega
      rcases Nat.div_eq_zero_iff.1 h5 with h | h
      ·omega
      ·exact h
     ·show (32 - (W.add n (W.of .i64 1)).n).toNat < _;omega
    ·right
     rw [if_neg (by omega)]
     refine ⟨_,rfl,h1,h2,h3,fun _=>?_⟩
     show 2 ^ (31 - n.v)≤x'.v
     rcases Nat.lt_or_ge x'.v (2 ^ (31 - n.v)) with h | h
     ·rw [Nat.div_eq_of_lt h] at hb;omega
     ·exact h
   ·right
    rw [if_neg hn]
    exact ⟨_,rfl,h1,h2,h3,fun h=>absurd h hn⟩
  ·show 0≤(W.of .i64 0).n;rw [i64_zero];omega
  ·show (W.of .i64 0).n≤32;rw [i64_zero];omega
  ·show x.v < 2 ^ (32 - (W.of .i64 0).v)
   have:(W.of .i64 0).v=0:=by rfl
   rw [this];exact hx
  ·show (32 - (W.of .i64 0).n).toNat < fuel
   rw [i64_zero];unfold fuel;decide
 obtain ⟨o,h1,h2⟩:=key
 refine ⟨o.1,?_,h2⟩
 simp only [F_ref03_Clz,T_ref03_Clz,ev_opt,ev_ret,h1,Option.bind_some]
theorem clz_eq (x:W .u32):∃ n,F_alu_Clz x=some n∧F_ref03_Clz x=some n:=by
 obtain ⟨n,h1,h2,h3,h4,h5⟩:=clz_prog x
 obtain ⟨m,k1,k2,k3,k4,k5⟩:=clz_ref x
 have:n=m:=by
  apply W.ext
  have hn:n.v=n.n.toNat:=rfl
  have hm:m.v=m.n.toNat:=rfl
  rcases Int.lt_trichotomy n.n m.n with h | h | h
  ·exfalso
   have h6:=h5 (by omega)
   have:2 ^ (32 - m.v)≤2 ^ (31 - n.v):=Nat.pow_le_pow_right (by omega) (by omega)
   omega
  ·exact h
  ·exfalso
   have h6:=k5 (by omega)
   have:2 ^ (32 - n.v)≤2 ^ (31 - m.v):=Nat.pow_le_pow_right (by omega) (by omega)
   omega
 subst this
 exact ⟨n,h1,k1⟩
end Go.Proofs.YtijckobfnmkjdaaGreatDoor
