/- YtijckobfnmkjdaaGreatDoorPa1: bits, brought to plain numbers. No statement of the seat is proved here. -/
import Derived.Test.YtijckobfnmkjdaaGreatDoorTrees2
import Derived.Test.YtijckobfnmkjdaaGreatDoorA2F
set_option linter.unusedSimpArgs false
set_option linter.unusedVariables false
namespace Go.Proofs.YtijckobfnmkjdaaGreatDoor
open Go Go.A2
theorem lit64 (n:Int) (h:-9223372036854775808≤n∧n < 9223372036854775808):(W.of .i64 n).n=n:=by rw [W.of_n,wrap_i64];omega
theorem litv32 (n:Nat) (h:n < 4294967296):(W.of .u32 (n:Int)).v=n:=by rw [W.uof rfl];exact Nat.mod_eq_of_lt h
theorem two:(W.of .u32 2).v=2:=by rfl
theorem one32:(W.of .u32 1).v=1:=by rfl
theorem zero32:(W.of .u32 0).v=0:=by rfl
theorem one64:(W.of .u64 1).v=1:=by rfl
theorem clamp_eq {n:W .i64} (h:0≤n.n∧n.n≤32):F_bits_clamp n (W.of .i64 0) (W.of .i64 32)=some n:=by
 simp only [F_bits_clamp,T_bits_clamp,ev_ret]
 have h0:(W.of .i64 0).n=0:=lit64 0 (by omega)
 have h1:(W.of .i64 32).n=32:=lit64 32 (by omega)
 have e1:W.max n (W.of .i64 0)=n:=by unfold W.max;rw [if_neg (by omega)]
 rw [e1]
 unfold W.min;rw [if_neg (by omega)]
theorem Zext_eq {x:W .u32} {n:W .i64} (h:0≤n.n∧n.n≤32):F_bits_Zext x n=some (W.of .u32 ((x.v % 2 ^ n.v:Nat):Int)):=by
 have hv:n.v≤32:=by unfold W.v;omega
 have h64:(W.of .u64 1).v=1:=one64
 simp only [F_bits_Zext,T_bits_Zext,ev_opt,ev_ret,clamp_eq h,Option.bind_some]
 simp only [F_bits_ones,T_bits_ones,ev_opt,ev_ret]
 have hsh:W.shl? (W.of .u64 1) n=some (W.shl (W.of .u64 1) n):=by unfold W.shl?;rw [if_neg (by omega)]
 simp only [hsh,Option.bind_some,Option.some.injEq]
 apply W.ext_v
 have hp:2 ^ n.v≤2 ^ 32:=Nat.pow_le_pow_right (by omega) hv
 have hp0:0 < 2 ^ n.v:=Nat.pow_pos (by omega)
 have hs:(W.shl (W.of .u64 1) n).v=2 ^ n.v:=by
  rw [W.ushl rfl,h64,Nat.one_mul];exact Nat.mod_eq_of_lt (Nat.lt_of_le_of_lt hp (by decide))
 have hm:(W.conv .u32 (W.sub (W.shl (W.of .u64 1) n) (W.of .u64 1))).v=2 ^ n.v - 1:=by
  have h1:(W.sub (W.shl (W.of .u64 1) n) (W.of .u64 1)).n=((2 ^ n.v - 1:Nat):Int):=by
   rw [W.sub_n,W.un rfl,W.un rfl (a:=W.of .u64 1),hs,h64,wrap_u64];omega
  rw [W.uconv rfl rfl]
  have h2:(W.sub (W.shl (W.of .u64 1) n) (W.of .u64 1)).v=2 ^ n.v - 1:=by unfold W.v;rw [h1];rfl
  rw [h2];exact Nat.mod_eq_of_lt (by have:(2:Nat) ^ 32=2 ^ IntKind.u32.bits:=rfl;omega)
 rw [W.uand rfl,hm,litv32 _ (Nat.lt_of_le_of_lt (Nat.mod_le _ _) x.v_lt),Nat.and_two_pow_sub_one_eq_mod]
theorem mod_pow_succ (x n:Nat):x % 2 ^ (n+1)=x % 2 ^ n+x / 2 ^ n % 2*2 ^ n:=by
 rw [Nat.pow_succ,Nat.mod_mul];rw [Nat.mul_comm (2 ^ n)]
def sext (x n:Nat):Nat:=if n=0 then 0 else if x / 2 ^ (n - 1) % 2=0 then x % 2 ^ n else x % 2 ^ n+(2 ^ 32 - 2 ^ n)
theorem sgn (y:W .u32):(W.conv .i32 y).n=if y.v < 2147483648 then (y.v:Int) else (y.v:Int) - 4294967296:=by
 have:=y.v_lt
 rw [W.conv_n,wrap_i32,W.n_v];split<;>omega
theorem sext_lo {x m:Nat} (hm:0 < m) (h:x % 2 ^ m < 2 ^ (m - 1)):sext x m=x % 2 ^ m:=by
 have hpm:2 ^ m=2 ^ (m - 1)*2:=by rw [←Nat.pow_succ];congr 1;omega
 have hbit:x / 2 ^ (m - 1) % 2=x % 2 ^ m / 2 ^ (m - 1):=by rw [hpm,Nat.mod_mul_right_div_self]
 unfold sext
 rw [if_neg (by omega),if_pos (by rw [hbit];exact Nat.div_eq_of_lt h)]
theorem sext_hi {x m:Nat} (hm:0 < m) (h:2 ^ (m - 1)≤x % 2 ^ m):sext x m=x % 2 ^ m+(2 ^ 32 - 2 ^ m):=by
 have hpm:2 ^ m=2 ^ (m - 1)*2:=by rw [←Nat.pow_succ];congr 1;omega
 have hlow:x % 2 ^ m < 2 ^ m:=Nat.mod_lt _ (Nat.pow_pos (by omega))
 have hbit:x / 2 ^ (m - 1) % 2=x % 2 ^ m / 2 ^ (m - 1):=by rw [hpm,Nat.mod_mul_right_div_self]
 have hdiv:x % 2 ^ m / 2 ^ (m - 1)=1:=by apply Nat.div_eq_of_lt_le<;>omega
 unfold sext
 rw [if_neg (by omega),if_neg (by rw [hbit,hdiv];omega)]
theorem sar_top {y m:Nat} (hm:0 < m∧m≤32) (hy:y < 2 ^ m):
  ((if y*2 ^ (32 - m) < 2147483648 then ((y*2 ^ (32 - m):Nat):Int) else ((y*2 ^ (32 - m):Nat):Int) - 4294967296) / ((2 ^ (32 - m):Nat):Int))=if y < 2 ^ (m - 1) then (y:Int) else (y:Int) - ((2 ^ m:Nat):Int):=by
 have hq0:0 < 2 ^ (32 - m):=Nat.pow_pos (by omega)
 have h3:2 ^ (m - 1)*2 ^ (32 - m)=2147483648:=by rw [←Nat.pow_add,show m - 1+(32 - m)=31 by omega]
 have h4:2 ^ m*2 ^ (32 - m)=4294967296:=by rw [←Nat.pow_add,show m+(32 - m)=32 by omega]
 by_cases h:y < 2 ^ (m - 1)
 ·have:=Nat.mul_lt_mul_of_pos_right h hq0
  rw [if_pos (by omega),if_pos h,←Int.natCast_ediv,Nat.mul_div_cancel _ hq0]
 ·have:=Nat.mul_le_mul_right (2 ^ (32 - m)) (show 2 ^ (m - 1)≤y by omega)
  rw [if_neg (by omega),if_neg h]
  have e:(((y*2 ^ (32 - m):Nat):Int) - 4294967296)=((y:Int) - ((2 ^ m:Nat):Int))*((2 ^ (32 - m):Nat):Int):=by
   rw [Int.sub_mul,←Int.natCast_mul,←Int.natCast_mul,h4];rfl
  rw [e,Int.mul_ediv_cancel _ (by omega)]
theorem sar_n {k:IntKind} (y:W .i32) (b:W k) (hb:b.v≤31):(W.shr y b).n=y.n / ((2 ^ b.v:Nat):Int):=by
 have e:Min.min b.n.toNat IntKind.i32.bits=b.v:=by
  show Min.min b.v 32=b.v;omega
 have hp:((2:Int) ^ b.v)=((2 ^ b.v:Nat):Int):=by simp
 have hp0:0 < 2 ^ b.v:=Nat.pow_pos (by omega)
 have hy:=y.r_i32
 have h1:-2147483648≤y.n / ((2 ^ b.v:Nat):Int):=by
  rw [Int.le_ediv_iff_mul_le (by omega)]
  have:(-2147483648:Int)*((2 ^ b.v:Nat):Int)≤-2147483648*1:=Int.mul_le_mul_of_nonpos_left (by omega) (by omega)
  omega
 have h2:y.n / ((2 ^ b.v:Nat):Int) < 2147483648:=by
  rw [Int.ediv_lt_iff_lt_mul (by omega)]
  have:(2147483648:Int)*1≤2147483648*((2 ^ b.v:Nat):Int):=Int.mul_le_mul_of_nonneg_left (by omega) (by omega)
  omega
 rw [W.shr_n,e,hp,Int.fdiv_eq_ediv_of_nonneg _ (Int.natCast_nonneg _),wrap_i32]
 omega
theorem Sext_eq {x:W .u32} {n:W .i64} (h:0 < n.n∧n.n≤32):F_bits_Sext x n=some (W.of .u32 ((sext x.v n.v:Nat):Int)):=by
 have h32:(W.of .i64 32).n=32:=lit64 32 (by omega)
 have hs:(W.sub (W.of .i64 32) n).n=32 - n.n:=by rw [W.sub_n,h32,wrap_i64];omega
 have hsv:(W.sub (W.of .i64 32) n).v=32 - n.v:=by unfold W.v;omega
 simp only [F_bits_Sext,T_bits_Sext,ev_opt,ev_ret,clamp_eq (n:=n) (by omega),Option.bind_some]
 have h1:W.shl? x (W.sub (W.of .i64 32) n)=some (W.shl x (W.sub (W.of .i64 32) n)):=by unfold W.shl?;rw [if_neg (by omega)]
 rw [h1]
 simp only [Option.bind_some]
 have h2:∀ y:W .i32,W.shr? y (W.sub (W.of .i64 32) n)=some (W.shr y (W.sub (W.of .i64 32) n)):=fun y=>by unfold W.shr?;rw [if_neg (by omega)]
 rw [h2]
 simp only [Option.bind_some,Option.some.injEq]
 have hn:0 < n.v∧n.v≤32:=by unfold W.v;omega
 generalize W.sub (W.of .i64 32) n=q at hsv
 generalize n.v=m at hsv hn
 have hpow:4294967296=2 ^ m*2 ^ (32 - m):=by rw [←Nat.pow_add,show m+(32 - m)=32 by omega]
 have hv:(W.shl x q).v=x.v % 2 ^ m*2 ^ (32 - m):=by
  rw [W.shl_v,hsv,hpow,Nat.mul_mod_mul_right]
 have hlow:x.v % 2 ^ m < 2 ^ m:=Nat.mod_lt _ (Nat.pow_pos (by omega))
 have hle:2 ^ m≤4294967296:=by
  have:2 ^ m≤2 ^ 32:=Nat.pow_le_pow_right (by omega) hn.2
  omega
 have hr:(W.shr (W.conv .i32 (W.shl x q)) q).n=if x.v % 2 ^ m < 2 ^ (m - 1) then ((x.v % 2 ^ m:Nat):Int) else ((x.v % 2 ^ m:Nat):Int) - ((2 ^ m:Nat):Int):=by
  rw [sar_n _ _ (by omega),sgn,hv,hsv]
  exact sar_top hn hlow
 apply W.ext
 rw [W.conv_n,hr,wrap_u32,W.of_n,wrap_u32]
 by_cases hy:x.v % 2 ^ m < 2 ^ (m - 1)
 ·rw [if_pos hy,sext_lo hn.1 hy]
 ·rw [if_neg hy,sext_hi hn.1 (by omega)]
  generalize x.v % 2 ^ m=y at hlow
  generalize 2 ^ m=p at hle hlow
  omega
section
variable (x y:W .u32) {m:W .u32} {k:Nat} (hk:k≤32) (hm:m.v=2 ^ k - 1)
include hk hm
theorem mask_and:(W.and x m).v=x.v % 2 ^ k:=by
 have _:=hk
 rw [W.uand rfl,hm,Nat.and_two_pow_sub_one_eq_mod]
end
theorem ne_self {k:IntKind} (a:W k):W.ne a a=false:=by unfold W.ne;exact bne_self_eq_false _
end Go.Proofs.YtijckobfnmkjdaaGreatDoor
