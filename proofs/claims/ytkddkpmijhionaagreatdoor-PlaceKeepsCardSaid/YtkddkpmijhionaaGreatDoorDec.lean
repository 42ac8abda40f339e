/- YtkddkpmijhionaaGreatDoorDec: a word as an instruction: the program's answer is the document's. No statement of the seat is proved here. -/
import Derived.Test.YtkddkpmijhionaaGreatDoorTrees2
import Derived.Test.YtkddkpmijhionaaGreatDoorA2F
set_option linter.unusedSimpArgs false
set_option linter.unusedVariables false
set_option maxRecDepth 100000
set_option maxHeartbeats 1000000
namespace Go.Proofs.YtkddkpmijhionaaGreatDoor
open Go Go.A2
theorem lit64 (n:Int) (h:-9223372036854775808≤n∧n < 9223372036854775808):(W.of .i64 n).n=n:=by rw [W.of_n,wrap_i64];omega
theorem litv32 (n:Nat) (h:n < 4294967296):(W.of .u32 (n:Int)).v=n:=by rw [W.uof rfl];exact Nat.mod_eq_of_lt h
theorem one64:(W.of .u64 1).v=1:=by rfl
theorem clamp_eq {n:W .i64} (h:0≤n.n∧n.n≤32):F_bits_clamp n (W.of .i64 0) (W.of .i64 32)=some n:=by
 simp only [F_bits_clamp,T_bits_clamp,ev_ret]
 have h0:(W.of .i64 0).n=0:=lit64 0 (by omega)
 have h1:(W.of .i64 32).n=32:=lit64 32 (by omega)
 have e1:W.max n (W.of .i64 0)=n:=by unfold W.max;rw [if_neg (by omega)]
 rw [e1]
 unfold W.min;rw [if_neg (by omega)]
theorem Zext_eq {x:W .u32} {n:W .i64} (h:0≤n.n∧n.n≤32):F_bits_Zext x n=some (W.of .u32 ((x.v % 2 ^ n.v:Nat):Int)):=by
 have hv:n.v≤32:=by unfold W.v;omega
 have h64:(W.of .u64 1).v=1:=one64
 simp only [F_bits_Zext,T_bits_Zext,ev_opt,ev_ret,clamp_eq h,Option.bind_some]
 simp only [F_bits_ones,T_bits_ones,ev_opt,ev_ret]
 have hsh:W.shl? (W.of .u64 1) n=some (W.shl (W.of .u64 1) n):=by unfold W.shl?;rw [if_neg (by omega)]
 simp only [hsh,Option.bind_some,Option.some.injEq]
 apply W.ext_v
 have hp:2 ^ n.v≤2 ^ 32:=Nat.pow_le_pow_right (by omega) hv
 have hp0:0 < 2 ^ n.v:=Nat.pow_pos (by omega)
 have hs:(W.shl (W.of .u64 1) n).v=2 ^ n.v:=by
  rw [W.ushl rfl,h64,Nat.one_mul];exact Nat.mod_eq_of_lt (Nat.lt_of_le_of_lt hp (by decide))
 have hm:(W.conv .u32 (W.sub (W.shl (W.of .u64 1) n) (W.of .u64 1))).v=2 ^ n.v - 1:=by
  have h1:(W.sub (W.shl (W.of .u64 1) n) (W.of .u64 1)).n=((2 ^ n.v - 1:Nat):Int):=by
   rw [W.sub_n,W.un rfl,W.un rfl (a:=W.of .u64 1),hs,h64,wrap_u64];omega
  rw [W.uconv rfl rfl]
  have h2:(W.sub (W.shl (W.of .u64 1) n) (W.of .u64 1)).v=2 ^ n.v - 1:=by unfold W.v;rw [h1];rfl
  rw [h2];exact Nat.mod_eq_of_lt (by have:(2:Nat) ^ 32=2 ^ IntKind.u32.bits:=rfl;omega)
 rw [W.uand rfl,hm,litv32 _ (Nat.lt_of_le_of_lt (Nat.mod_le _ _) x.v_lt),Nat.and_two_pow_sub_one_eq_mod]
def sext (x n:Nat):Nat:=if n=0 then 0 else if x / 2 ^ (n - 1) % 2=0 then x % 2 ^ n else x % 2 ^ n+(2 ^ 32 - 2 ^ n)
theorem sgn (y:W .u32):(W.conv .i32 y).n=if y.v < 2147483648 then (y.v:Int) else (y.v:Int) - 4294967296:=by
 have:=y.v_lt
 rw [W.conv_n,wrap_i32,W.n_v];split<;>omega
theorem sext_lo {x m:Nat} (hm:0 < m) (h:x % 2 ^ m < 2 ^ (m - 1)):sext x m=x % 2 ^ m:=by
 have hpm:2 ^ m=2 ^ (m - 1)*2:=by rw [←Nat.pow_succ];congr 1;omega
 have hbit:x / 2 ^ (m - 1) % 2=x % 2 ^ m / 2 ^ (m - 1):=by rw [hpm,Nat.mod_mul_right_div_self]
 unfold sext
 rw [if_neg (by omega),if_pos (by rw [hbit];exact Nat.div_eq_of_lt h)]
theorem sext_hi {x m:Nat} (hm:0 < m) (h:2 ^ (m - 1)≤x % 2 ^ m):sext x m=x % 2 ^ m+(2 ^ 32 - 2 ^ m):=by
 have hpm:2 ^ m=2 ^ (m - 1)*2:=by rw [←Nat.pow_succ];congr 1;omega
 have hlow:x % 2 ^ m < 2 ^ m:=Nat.mod_lt _ (Nat.pow_pos (by omega))
 have hbit:x / 2 ^ (m - 1) % 2=x % 2 ^ m / 2 ^ (m - 1):=by rw [hpm,Nat.mod_mul_right_div_self]
 have hdiv:x % 2 ^ m / 2 ^ (m - 1)=1:=by apply Nat.div_eq_of_lt_le<;>omega
 unfold sext
 rw [if_neg (by omega),if_neg (by rw [hbit,hdiv];omega)]
theorem sar_top {y m:Nat} (hm:0 < m∧m≤32) (hy:y < 2 ^ m):
  ((if y*2 ^ (32 - m) < 2147483648 then ((y*2 ^ (32 - m):Nat):Int) else ((y*2 ^ (32 - m):Nat):Int) - 4294967296) / ((2 ^ (32 - m):Nat):Int))=if y < 2 ^ (m - 1) then (y:Int) else (y:Int) - ((2 ^ m:Nat):Int):=by
 have hq0:0 < 2 ^ (32 - m):=Nat.pow_pos (by omega)
 have h3:2 ^ (m - 1)*2 ^ (32 - m)=2147483648:=by rw [←Nat.pow_add,show m - 1+(32 - m)=31 by omega]
 have h4:2 ^ m*2 ^ (32 - m)=4294967296:=by rw [←Nat.pow_add,show m+(32 - m)=32 by omega]
 by_cases h:y < 2 ^ (m - 1)
 ·have:=Nat.mul_lt_mul_of_pos_right h hq0
  rw [if_pos (by omega),if_pos h,←Int.natCast_ediv,Nat.mul_div_cancel _ hq0]
 ·have:=Nat.mul_le_mul_right (2 ^ (32 - m)) (show 2 ^ (m - 1)≤y by omega)
  rw [if_neg (by omega),if_neg h]
  have e:(((y*2 ^ (32 - m):Nat):Int) - 4294967296)=((y:Int) - ((2 ^ m:Nat):Int))*((2 ^ (32 - m):Nat):Int):=by
   rw [Int.sub_mul,←Int.natCast_mul,←Int.natCast_mul,h4];rfl
  rw [e,Int.mul_ediv_cancel _ (by omega)]
theorem sar_n {k:IntKind} (y:W .i32) (b:W k) (hb:b.v≤31):(W.shr y b).n=y.n / ((2 ^ b.v:Nat):Int):=by
 have e:Min.min b.n.toNat IntKind.i32.bits=b.v:=by
  show Min.min b.v 32=b.v;omega
 have hp:((2:Int) ^ b.v)=((2 ^ b.v:Nat):Int):=by simp
 have hp0:0 < 2 ^ b.v:=Nat.pow_pos (by omega)
 have hy:=y.r_i32
 have h1:-2147483648≤y.n / ((2 ^ b.v:Nat):Int):=by
  rw [Int.le_ediv_iff_mul_le (by omega)]
  have:(-2147483648:Int)*((2 ^ b.v:Nat):Int)≤-2147483648*1:=Int.mul_le_mul_of_nonpos_left (by omega) (by omega)
  omega
 have h2:y.n / ((2 ^ b.v:Nat):Int) < 2147483648:=by
  rw [Int.ediv_lt_iff_lt_mul (by omega)]
  have:(2147483648:Int)*1≤2147483648*((2 ^ b.v:Nat):Int):=Int.mul_le_mul_of_nonneg_left (by omega) (by omega)
  omega
 rw [W.shr_n,e,hp,Int.fdiv_eq_ediv_of_nonneg _ (Int.natCast_nonneg _),wrap_i32]
 omega
theorem Sext_eq {x:W .u32} {n:W .i64} (h:0 < n.n∧n.n≤32):F_bits_Sext x n=some (W.of .u32 ((sext x.v n.v:Nat):Int)):=by
 have h32:(W.of .i64 32).n=32:=lit64 32 (by omega)
 have hs:(W.sub (W.of .i64 32) n).n=32 - n.n:=by rw [W.sub_n,h32,wrap_i64];omega
 have hsv:(W.sub (W.of .i64 32) n).v=32 - n.v:=by unfold W.v;omega
 simp only [F_bits_Sext,T_bits_Sext,ev_opt,ev_ret,clamp_eq (n:=n) (by omega),Option.bind_some]
 have h1:W.shl? x (W.sub (W.of .i64 32) n)=some (W.shl x (W.sub (W.of .i64 32) n)):=by unfold W.shl?;rw [if_neg (by omega)]
 rw [h1]
 simp only [Option.bind_some]
 have h2:∀ y:W .i32,W.shr? y (W.sub (W.of .i64 32) n)=some (W.shr y (W.sub (W.of .i64 32) n)):=fun y=>by unfold W.shr?;rw [if_neg (by omega)]
 rw [h2]
 simp only [Option.bind_some,Option.some.injEq]
 have hn:0 < n.v∧n.v≤32:=by unfold W.v;omega
 generalize W.sub (W.of .i64 32) n=q at hsv
 generalize n.v=m at hsv hn
 have hpow:4294967296=2 ^ m*2 ^ (32 - m):=by rw [←Nat.pow_add,show m+(32 - m)=32 by omega]
 have hv:(W.shl x q).v=x.v % 2 ^ m*2 ^ (32 - m):=by
  rw [W.shl_v,hsv,hpow,Nat.mul_mod_mul_right]
 have hlow:x.v % 2 ^ m < 2 ^ m:=Nat.mod_lt _ (Nat.pow_pos (by omega))
 have hle:2 ^ m≤4294967296:=by
  have:2 ^ m≤2 ^ 32:=Nat.pow_le_pow_right (by omega) hn.2
  omega
 have hr:(W.shr (W.conv .i32 (W.shl x q)) q).n=if x.v % 2 ^ m < 2 ^ (m - 1) then ((x.v % 2 ^ m:Nat):Int) else ((x.v % 2 ^ m:Nat):Int) - ((2 ^ m:Nat):Int):=by
  rw [sar_n _ _ (by omega),sgn,hv,hsv]
  exact sar_top hn hlow
 apply W.ext
 rw [W.conv_n,hr,wrap_u32,W.of_n,wrap_u32]
 by_cases hy:x.v % 2 ^ m < 2 ^ (m - 1)
 ·rw [if_pos hy,sext_lo hn.1 hy]
 ·rw [if_neg hy,sext_hi hn.1 (by omega)]
  generalize x.v % 2 ^ m=y at hlow
  generalize 2 ^ m=p at hle hlow
  omega
section
variable (x y:W .u32) {m:W .u32} {k:Nat} (hk:k≤32) (hm:m.v=2 ^ k - 1)
include hk hm
end
theorem ne_self {k:IntKind} (a:W k):W.ne a a=false:=by unfold W.ne;exact bne_self_eq_false _
theorem and_bits (x m:W .u32) (i:Nat):(W.and x m).v.testBit i=(x.v.testBit i&&m.v.testBit i):=by rw [W.and_v,Nat.testBit_and]
theorem or_bits (x m:W .u32) (i:Nat):(W.or x m).v.testBit i=(x.v.testBit i || m.v.testBit i):=by rw [W.or_v,Nat.testBit_or]
theorem bit_high (x:W .u32) {i:Nat} (h:32≤i):x.v.testBit i=false:=
 Nat.testBit_lt_two_pow (Nat.lt_of_lt_of_le x.v_lt (by have:2 ^ 32≤2 ^ i:=Nat.pow_le_pow_right (by omega) h;omega))
theorem not_bits (x m:W .u32) (i:Nat):(W.andNot x m).v.testBit i=(x.v.testBit i&&!m.v.testBit i):=by
 rw [W.uandNot rfl]
 have hm:=m.v_lt
 by_cases hi:i < 32
 ·have e:2 ^ IntKind.u32.bits - 1 - m.v=2 ^ 32 - (m.v+1):=by rw [show IntKind.u32.bits=32 from rfl];omega
  rw [Nat.testBit_and,e,Nat.testBit_two_pow_sub_succ (by omega)]
  simp [hi]
 ·rw [Nat.testBit_and,bit_high x (by omega)];simp
def sz (s:W .i64):Prop:=s.n=1∨s.n=2∨s.n=4
instance (s : W .i64) : Decidable (sz s) := inferInstanceAs (Decidable (_ ∨ _ ∨ _))
theorem field_eq {hi lo:W .i64} {m:W .u32} {l w:Nat} (hm:F_bits_mask hi lo=some (m,W.of .i64 (l:Nat))) (hv:m.v=(2 ^ w - 1)*2 ^ l) (hl:l≤31) (x:W .u32):∃ y,F_bits_Field x hi lo=some y∧y.v=x.v / 2 ^ l % 2 ^ w:=by
 unfold F_bits_Field T_bits_Field
 have hn:(wi l).n=l:=wi_n (by unfold room;omega)
 have hsh:W.shr? (W.and x m) (W.of .i64 ((l:Nat):Int))=some (W.shr (W.and x m) (wi l)):=by
  unfold W.shr?;rw [if_neg (by rw [hn];omega)]
 simp only [ev_opt,ev_ret,hm,bind_some',hsh]
 refine ⟨_,rfl,?_⟩
 have hlv:(wi l).v=l:=by unfold W.v;rw [hn];rfl
 rw [W.shr_v,hlv,W.and_v,hv]
 refine Nat.eq_of_testBit_eq fun i=>?_
 rw [Nat.testBit_div_two_pow,Nat.testBit_and,Nat.testBit_mod_two_pow,Nat.testBit_div_two_pow,Nat.mul_comm,Nat.testBit_two_pow_mul,Nat.testBit_two_pow_sub_one]
 rw [show i+l - l=i by omega,show decide (i+l ≥ l)=true by simp]
 cases x.v.testBit (i+l)<;>simp
theorem conv64_v (x:W .u32):(W.conv .i64 x).n=x.v:=W.conv_i64_v x
theorem put_eq {hi lo:W .i64} {m:W .u32} {l w:Nat} (hm:F_bits_mask hi lo=some (m,W.of .i64 (l:Nat))) (hv:m.v=(2 ^ w - 1)*2 ^ l) (hl:l+w≤32) (x v:W .u32) (hx:x.v % 2 ^ (l+w)=0):∃ y,F_bits_Put x hi lo v=some y∧y.v=x.v+v.v % 2 ^ w*2 ^ l:=by
 unfold F_bits_Put T_bits_Put
 have hn:(wi l).n=l:=wi_n (by unfold room;omega)
 have hsh:W.shl? v (W.of .i64 ((l:Nat):Int))=some (W.shl v (wi l)):=by
  unfold W.shl?;rw [if_neg (by rw [hn];omega)]
 simp only [ev_opt,ev_ret,hm,bind_some',hsh]
 refine ⟨_,rfl,?_⟩
 have hlv:(wi l).v=l:=by unfold W.v;rw [hn];rfl
 have hlt:v.v % 2 ^ w*2 ^ l < 2 ^ (l+w):=by
  rw [Nat.add_comm,Nat.pow_add]
  exact (Nat.mul_lt_mul_right (Nat.pow_pos (by omega))).2 (Nat.mod_lt _ (Nat.pow_pos (by omega)))
 obtain ⟨q,hq⟩:∃ q,x.v=2 ^ (l+w)*q:=⟨x.v / 2 ^ (l+w),by have:=Nat.div_add_mod x.v (2 ^ (l+w));omega⟩
 have hmb:∀ i,m.v.testBit i=(decide (l≤i)&&decide (i < l+w)):=fun i=>by
  rw [hv,Nat.mul_comm,Nat.testBit_two_pow_mul,Nat.testBit_two_pow_sub_one]
  by_cases h1:l≤i
  ·simp only [h1,decide_true,Bool.true_and,ge_iff_le]
   exact decide_eq_decide.2 (by omega)
  ·simp [h1]
 refine Nat.eq_of_testBit_eq fun i=>?_
 rw [or_bits,not_bits,and_bits,hmb,W.shl_v,hlv]
 rw [show x.v+v.v % 2 ^ w*2 ^ l=2 ^ (l+w)*q+v.v % 2 ^ w*2 ^ l by omega,Nat.testBit_two_pow_mul_add _ hlt]
 have hxb:∀ i,x.v.testBit i=(decide (l+w≤i)&&q.testBit (i - (l+w))):=fun i=>by
  rw [hq,Nat.testBit_two_pow_mul]
 rw [hxb]
 by_cases h1:i < l+w
 ·rw [if_pos h1,Nat.mul_comm (v.v % 2 ^ w),Nat.testBit_two_pow_mul,Nat.testBit_mod_two_pow]
  rw [show (v.v*2 ^ l % 4294967296).testBit i=(v.v*2 ^ l).testBit i by
   rw [show (4294967296:Nat)=2 ^ 32 from rfl,Nat.testBit_mod_two_pow];simp;omega]
  rw [Nat.mul_comm v.v,Nat.testBit_two_pow_mul]
  have h2:¬ l+w≤i:=by omega
  by_cases h3:l≤i
  ·have h4:i - l < w:=by omega
   simp [h1,h2,h3,h4]
  ·simp [h1,h2,h3]
 ·rw [if_neg h1]
  have h2:l+w≤i:=by omega
  simp [h1,h2]
noncomputable def formN (k:Nat):Nat:=((F_inst_Form (wi k)).getD (W.of .i64 0)).v
noncomputable def hasN (k b:Nat):Bool:=(F_inst_has (wi k) (wi b)).getD false
def wdN (f:Nat):Nat:=if f=5 then 18 else 14
noncomputable def opRow (k:Nat):Bool:=
 decide (F_inst_Form (wi k)=some (wi (formN k)))&&decide (F_ref06_Form (wi k)=some (wi (formN k))) &&
 decide (F_inst_has (wi k) (wi 1)=some (hasN k 1))&&decide (F_inst_has (wi k) (wi 2)=some (hasN k 2))&&decide (F_inst_has (wi k) (wi 4)=some (hasN k 4))&&decide (F_inst_has (wi k) (wi 8)=some (hasN k 8)) &&
 decide (F_ref06_Has (wi (formN k)) (wi 1)=some (hasN k 1))&&decide (F_ref06_Has (wi (formN k)) (wi 2)=some (hasN k 2))&&decide (F_ref06_Has (wi (formN k)) (wi 3)=some (hasN k 4))&&decide (F_ref06_Has (wi (formN k)) (wi 4)=some (hasN k 8)) &&
 decide (F_inst_width (wi k)=some (wi (wdN (formN k))))&&(decide (k=0) || !decide (formN k=0))&&decide (formN k < 12)&&decide (formN 0=0) &&
 (!decide (formN k=5) || (!hasN k 4&&hasN k 8))&&(decide (formN k=5)==(decide (k=33) || decide (k=49)))
theorem opRow_all:(List.range 64).all opRow=true:=by kernel_rfl
structure OpOk (k:Nat):Prop where
 form:F_inst_Form (wi k)=some (wi (formN k))
 rform:F_ref06_Form (wi k)=some (wi (formN k))
 h1:F_inst_has (wi k) (wi 1)=some (hasN k 1)
 h2:F_inst_has (wi k) (wi 2)=some (hasN k 2)
 h4:F_inst_has (wi k) (wi 4)=some (hasN k 4)
 h8:F_inst_has (wi k) (wi 8)=some (hasN k 8)
 r1:F_ref06_Has (wi (formN k)) (wi 1)=some (hasN k 1)
 r2:F_ref06_Has (wi (formN k)) (wi 2)=some (hasN k 2)
 r3:F_ref06_Has (wi (formN k)) (wi 3)=some (hasN k 4)
 r4:F_ref06_Has (wi (formN k)) (wi 4)=some (hasN k 8)
 width:F_inst_width (wi k)=some (wi (wdN (formN k)))
 pos:k=0∨formN k ≠ 0
 lt:formN k < 12
 zero:formN 0=0
 five:formN k=5→hasN k 4=false∧hasN k 8=true
 five':formN k=5 ↔ (k=33∨k=49)
theorem op_ok {k:Nat} (h:k < 64):OpOk k:=by
 have:=all_lt opRow_all h
 unfold opRow at this
 simp only [Bool.and_eq_true,decide_eq_true_eq,Bool.or_eq_true,Bool.not_eq_true',decide_eq_false_iff_not,beq_iff_eq] at this
 obtain ⟨⟨⟨⟨⟨⟨⟨⟨⟨⟨⟨⟨⟨⟨⟨a1,a2⟩,a3⟩,a4⟩,a5⟩,a6⟩,a7⟩,a8⟩,a9⟩,a10⟩,a11⟩,a12⟩,a13⟩,a14⟩,a15⟩,a16⟩:=this
 refine ⟨a1,a2,a3,a4,a5,a6,a7,a8,a9,a10,a11,a12,a13,a14,fun h=>?_,?_⟩
 ·rcases a15 with h' | h'
  ·exact (h' h).elim
  ·exact h'
 ·have:(decide (formN k=5)=true) ↔ ((decide (k=33) || decide (k=49))=true):=by rw [a16]
  simpa using this
def immB (k:Nat) (n:Int):Bool:=
 if 30≤k∧k≤32 then decide (0≤n∧n≤31) else if k=33 then decide (0≤n∧n < 262144) else if k=49 then decide (-131072≤n∧n < 131072) else decide (-8192≤n∧n < 8192)
theorem eq_small {a b:Nat} (h:a≤1000) (h':b≤1000):W.eq (wi a) (wi b)=decide (a=b):=wi_eq (sm h) (sm h')
theorem two_dec {a b:Bool} {p q r:Prop} [Decidable r] (ha:a=true ↔ p) (hb:b=true ↔ q) (hr:r ↔ p∧q):(if a=true then some b else some false)=some (decide r):=by
 cases a with
 | true=>simp only [if_true];congr 1;exact iff_bool (hb.trans (by rw [decide_eq_true_eq,hr];exact ⟨fun h=>⟨ha.1 rfl,h⟩,fun h=>h.2⟩))
 | false=>
  simp only [Bool.false_eq_true,if_false];congr 1
  apply Eq.symm;rw [decide_eq_false_iff_not,hr]
  intro h;have:=ha.2 h.1;cases this
theorem within_p {k:Nat} (hk:k < 64) (n:W .i64):F_inst_within (wi k) n=some (immB k n.n):=by
 unfold F_inst_within T_inst_within immB
 simp only [ev_ite,ev_ret,show ∀ j:Nat,j≤1000→W.eq (wi k) (W.of .i64 (j:Nat))=decide (k=j) from fun j hj=>eq_small (by omega) hj]
 have e:∀ j:Nat,j≤1000→W.eq (wi k) (W.of .i64 (j:Int))=decide (k=j):=fun j hj=>eq_small (by omega) hj
 rw [show W.eq (wi k) (W.of .i64 30)=decide (k=30) from e 30 (by omega),show W.eq (wi k) (W.of .i64 31)=decide (k=31) from e 31 (by omega),show W.eq (wi k) (W.of .i64 32)=decide (k=32) from e 32 (by omega),show W.eq (wi k) (W.of .i64 33)=decide (k=33) from e 33 (by omega),show W.eq (wi k) (W.of .i64 49)=decide (k=49) from e 49 (by omega)]
 simp only [decide_eq_true_eq]
 have t1:(if W.ge n (W.of .i64 0)=true then some (W.le n (W.of .i64 31)) else some false)=some (decide (0≤n.n∧n.n≤31)):=two_dec W.ge_n W.le_n Iff.rfl
 have t2:(if W.ge n (W.of .i64 0)=true then some (W.lt n (W.of .i64 262144)) else some false)=some (decide (0≤n.n∧n.n < 262144)):=two_dec W.ge_n W.lt_n Iff.rfl
 have t3:(if W.ge n (W.of .i64 (-131072))=true then some (W.lt n (W.of .i64 131072)) else some false)=some (decide (-131072≤n.n∧n.n < 131072)):=two_dec W.ge_n W.lt_n Iff.rfl
 have t4:(if W.ge n (W.of .i64 (-8192))=true then some (W.lt n (W.of .i64 8192)) else some false)=some (decide (-8192≤n.n∧n.n < 8192)):=two_dec W.ge_n W.lt_n Iff.rfl
 rw [t1,t2,t3,t4]
 by_cases c:30≤k∧k≤32
 ·rw [if_pos c]
  by_cases c0:k=30
  ·rw [if_pos c0]
  ·rw [if_neg c0]
   by_cases c1:k=31
   ·rw [if_pos c1]
   ·rw [if_neg c1,if_pos (by omega)]
 ·rw [if_neg c,if_neg (by omega),if_neg (by omega),if_neg (by omega)]
  by_cases c3:k=33
  ·rw [if_pos c3,if_pos c3]
  ·rw [if_neg c3,if_neg c3]
   by_cases c4:k=49
   ·rw [if_pos c4,if_pos c4]
   ·rw [if_neg c4,if_neg c4]
theorem within_d {k:Nat} (hk:k < 64) (n:W .i64):F_ref06_imm (wi k) n=some (immB k n.n):=by
 unfold F_ref06_imm T_ref06_imm immB
 have e:∀ j:Nat,j≤1000→W.eq (wi k) (W.of .i64 (j:Int))=decide (k=j):=fun j hj=>eq_small (by omega) hj
 have g1:W.ge (wi k) (W.of .i64 30)=decide (30≤k):=by
  refine iff_bool ?_
  rw [W.ge_n,wi_n (sm (by omega)),show (W.of .i64 30).n=30 from rfl,decide_eq_true_eq];omega
 have g2:W.le (wi k) (W.of .i64 32)=decide (k≤32):=by
  refine iff_bool ?_
  rw [W.le_n,wi_n (sm (by omega)),show (W.of .i64 32).n=32 from rfl,decide_eq_true_eq];omega
 simp only [ev_ite,ev_ret]
 rw [show W.eq (wi k) (W.of .i64 33)=decide (k=33) from e 33 (by omega),show W.eq (wi k) (W.of .i64 49)=decide (k=49) from e 49 (by omega),g1,g2]
 simp only [decide_eq_true_eq]
 have t1:(if W.ge n (W.of .i64 0)=true then some (W.le n (W.of .i64 31)) else some false)=some (decide (0≤n.n∧n.n≤31)):=two_dec W.ge_n W.le_n Iff.rfl
 have t2:(if W.ge n (W.of .i64 0)=true then some (W.le n (W.of .i64 262143)) else some false)=some (decide (0≤n.n∧n.n < 262144)):=two_dec W.ge_n W.le_n (by rw [show (W.of .i64 0).n=0 from rfl,show (W.of .i64 262143).n=262143 from rfl];omega)
 have t3:(if W.ge n (W.of .i64 (-131072))=true then some (W.le n (W.of .i64 131071)) else some false)=some (decide (-131072≤n.n∧n.n < 131072)):=two_dec W.ge_n W.le_n (by rw [show (W.of .i64 (-131072)).n=-131072 from rfl,show (W.of .i64 131071).n=131071 from rfl];omega)
 have t4:(if W.ge n (W.of .i64 (-8192))=true then some (W.le n (W.of .i64 8191)) else some false)=some (decide (-8192≤n.n∧n.n < 8192)):=two_dec W.ge_n W.le_n (by rw [show (W.of .i64 (-8192)).n=-8192 from rfl,show (W.of .i64 8191).n=8191 from rfl];omega)
 rw [t1,t2,t3,t4]
 by_cases c:30≤k∧k≤32
 ·rw [if_pos c,if_pos c.1,if_pos c.2]
 ·rw [if_neg c]
  by_cases c1:30≤k
  ·rw [if_pos c1,if_neg (by omega)]
   by_cases c3:k=33
   ·rw [if_pos c3,if_pos c3]
   ·rw [if_neg c3,if_neg c3]
    by_cases c4:k=49
    ·rw [if_pos c4,if_pos c4]
    ·rw [if_neg c4,if_neg c4]
  ·rw [if_neg c1,if_neg (by omega),if_neg (by omega),if_neg (by omega),if_neg (by omega)]
def immOf (k wd w:Nat):Int:=if k=33 then ((w % 2 ^ 18:Nat):Int) else if w % 2 ^ wd < 2 ^ (wd - 1) then ((w % 2 ^ wd:Nat):Int) else ((w % 2 ^ wd:Nat):Int) - 2 ^ wd
theorem back_n {s:Nat} (hs:s < 4294967296):(W.conv .i64 (W.conv .i32 (W.of .u32 (s:Nat)))).n=if s < 2147483648 then (s:Int) else (s:Int) - 4294967296:=by
 have hv:(W.of .u32 (s:Nat)).v=s:=by rw [W.uof rfl];exact Nat.mod_eq_of_lt hs
 rw [W.conv_n,sgn,hv,wrap_i64]
 split<;>omega
theorem sext14 (x:Nat):W.conv .i64 (W.conv .i32 (W.of .u32 ((sext x 14:Nat):Int)))=W.of .i64 (if x % 2 ^ 14 < 2 ^ (14 - 1) then ((x % 2 ^ 14:Nat):Int) else ((x % 2 ^ 14:Nat):Int) - 2 ^ 14):=by
 have e1:(2:Nat) ^ 14=16384:=by decide
 have e2:(2:Nat) ^ (14 - 1)=8192:=by decide
 have e3:(2:Int) ^ 14=16384:=by decide
 have e4:(2:Nat) ^ 32=4294967296:=by decide
 have hm:=Nat.mod_lt x (show 0 < 16384 by decide)
 by_cases hs:x % 2 ^ 14 < 2 ^ (14 - 1)
 ·rw [sext_lo (by decide) hs,if_pos hs,e1]
  rw [e1,e2] at hs
  refine W.ext ?_
  rw [back_n (by omega),if_pos (by omega),W.of_n,wrap_i64];omega
 ·rw [sext_hi (by decide) (by omega),if_neg hs,e1,e3,e4]
  rw [e1,e2] at hs
  refine W.ext ?_
  rw [back_n (by omega),if_neg (by omega),W.of_n,wrap_i64];omega
theorem sext18 (x:Nat):W.conv .i64 (W.conv .i32 (W.of .u32 ((sext x 18:Nat):Int)))=W.of .i64 (if x % 2 ^ 18 < 2 ^ (18 - 1) then ((x % 2 ^ 18:Nat):Int) else ((x % 2 ^ 18:Nat):Int) - 2 ^ 18):=by
 have e1:(2:Nat) ^ 18=262144:=by decide
 have e2:(2:Nat) ^ (18 - 1)=131072:=by decide
 have e3:(2:Int) ^ 18=262144:=by decide
 have e4:(2:Nat) ^ 32=4294967296:=by decide
 have hm:=Nat.mod_lt x (show 0 < 262144 by decide)
 by_cases hs:x % 2 ^ 18 < 2 ^ (18 - 1)
 ·rw [sext_lo (by decide) hs,if_pos hs,e1]
  rw [e1,e2] at hs
  refine W.ext ?_
  rw [back_n (by omega),if_pos (by omega),W.of_n,wrap_i64];omega
 ·rw [sext_hi (by decide) (by omega),if_neg hs,e1,e3,e4]
  rw [e1,e2] at hs
  refine W.ext ?_
  rw [back_n (by omega),if_neg (by omega),W.of_n,wrap_i64];omega
theorem number_p {k wd:Nat} (hk:k < 64) (hw:F_inst_width (wi k)=some (wi wd)) (hwd:wd=14∨wd=18) (w:W .u32):F_inst_number (wi k) w=some (W.of .i64 (immOf k wd w.v)):=by
 unfold F_inst_number T_inst_number immOf
 rw [ev_ite,show W.eq (wi k) (W.of .i64 33)=decide (k=33) from eq_small (b:=33) (by omega) (by omega)]
 by_cases h:k=33
 ·rw [if_pos (by simpa using h),if_pos h,ev_opt,Zext_eq (n:=W.of .i64 18) ⟨by decide,by decide⟩,bind_some',ev_ret]
  congr 1
  refine W.ext ?_
  rw [conv64_v,W.uof rfl,W.of_n,wrap_i64,show (W.of .i64 18).v=18 from rfl]
  have:=Nat.mod_lt w.v (show 0 < 2 ^ 18 by decide)
  rw [Nat.mod_eq_of_lt (by show w.v % 2 ^ 18 < 4294967296;omega)]
  omega
 ·have hn:(wi wd).n=wd:=wi_n (sm (by omega))
  rw [if_neg (by simpa using h),if_neg h,ev_opt,hw,bind_some',ev_opt,Sext_eq (by rw [hn];omega),bind_some',ev_ret]
  have hv:(wi wd).v=wd:=by unfold W.v;rw [hn];rfl
  rw [hv]
  rcases hwd with rfl | rfl
  ·rw [sext14]
  ·rw [sext18]
theorem conv_wi {n:Nat} (h:n≤1000):(W.conv .u32 (wi n)).v=n:=by
 have:(W.conv .u32 (wi n)).n=n:=by rw [W.conv_n,wi_n (sm h),wrap_u32];omega
 unfold W.v;rw [this];rfl
theorem right_p {k:Nat} (hk:k < 64) (h0:k ≠ 0) {rd ra rb:Nat} (b1:rd < 16) (b2:ra < 16) (b3:rb < 16) (c1:hasN k 1=false→rd=0) (c2:hasN k 2=false→ra=0) (c3:hasN k 4=false→rb=0) (n:W .i64) (c4:hasN k 8=false→n=W.of .i64 0):
  F_inst_Right (TInst.mk (wi k) (wi rd) (wi ra) (wi rb) n)=some (if hasN k 8=true∧immB k n.n=false then W.of .i64 3 else W.of .i64 0):=by
 have ok:=op_ok hk
 have hform:W.eq (wi (formN k)) (W.of .i64 0)=false:=by
  rw [show W.eq (wi (formN k)) (W.of .i64 0)=decide (formN k=0) from eq_small (b:=0) (by have:=ok.lt;omega) (by omega)]
  have:=ok.pos;simp;omega
 have hL:L_inst_Right_11 (TInst.mk (wi k) (wi rd) (wi ra) (wi rb) n,(Arr.lit 3 [(TS214.mk (W.of .i64 1) (wi rd) (W.of .i64 15)),(TS214.mk (W.of .i64 2) (wi ra) (W.of .i64 15)),(TS214.mk (W.of .i64 4) (wi rb) (W.of .i64 15))] rfl:Arr 3 TS214),wi 0,())=some (.inr (TInst.mk (wi k) (wi rd) (wi ra) (wi rb) n,(),())):=by
  have step:∀ (j b r:Nat) (x:TS214),j < 3→r < 16→x=TS214.mk (wi b) (wi r) (W.of .i64 15)→F_inst_has (wi k) (wi b)=some (hasN k b)→(hasN k b=false→r=0)→Arr.get (Arr.lit 3 [(TS214.mk (W.of .i64 1) (wi rd) (W.of .i64 15)),(TS214.mk (W.of .i64 2) (wi ra) (W.of .i64 15)),(TS214.mk (W.of .i64 4) (wi rb) (W.of .i64 15))] rfl:Arr 3 TS214) j=x→
    (B_inst_Right_11 (TInst.mk (wi k) (wi rd) (wi ra) (wi rb) n) (Arr.lit 3 [(TS214.mk (W.of .i64 1) (wi rd) (W.of .i64 15)),(TS214.mk (W.of .i64 2) (wi ra) (W.of .i64 15)),(TS214.mk (W.of .i64 4) (wi rb) (W.of .i64 15))] rfl) (wi j)).eval=some (.next (TInst.mk (wi k) (wi rd) (wi ra) (wi rb) n,Arr.lit 3 [(TS214.mk (W.of .i64 1) (wi rd) (W.of .i64 15)),(TS214.mk (W.of .i64 2) (wi ra) (W.of .i64 15)),(TS214.mk (W.of .i64 4) (wi rb) (W.of .i64 15))] rfl,wi (j+1),())):=by
   rintro j b r x hj hr rfl hh hc hg
   have hlt:W.lt (wi j) (W.of .i64 3)=true:=(lt_small (m:=3) (by omega) (by omega)).trans (by simpa using hj)
   have e1:W.lt (wi r) (W.of .i64 0)=false:=(lt_small (m:=0) (by omega) (by omega)).trans (by simp)
   have e2:W.gt (wi r) (W.of .i64 15)=false:=by rw [W.gt_lt];exact (lt_small (n:=15) (by omega) (by omega)).trans (by simp;omega)
   simp only [B_inst_Right_11,ev_ite,ev_opt,ev_ret,hlt,if_true,wi_idx (sm (show j≤1000 by omega)),hj,bind_some',hg,e1,e2,Bool.false_eq_true,if_false,hh,add_small (show j < 1000 by omega)]
   cases hb:hasN k b with
   | true=>rfl
   | false=>rw [hc hb];rfl
  unfold L_inst_Right_11 fuel
  rw [iter_succ,step 0 1 rd _ (by decide) b1 rfl ok.h1 c1 rfl]
  dsimp only
  rw [iter_succ,step 1 2 ra _ (by decide) b2 rfl ok.h2 c2 rfl]
  dsimp only
  rw [iter_succ,step 2 4 rb _ (by decide) b3 rfl ok.h4 c3 rfl]
  dsimp only
  rw [iter_succ]
  rfl
 unfold F_inst_Right T_inst_Right
 simp only [ev_opt,ev_ite,ev_ret,ok.form,bind_some',hform,Bool.false_eq_true,if_false,show L_inst_Right_11 (TInst.mk (wi k) (wi rd) (wi ra) (wi rb) n,_,W.of .i64 0,())=_ from hL,ev_sum,Sum.elim_inr,show F_inst_has (wi k) (W.of .i64 8)=_ from ok.h8,within_p hk]
 cases h8:hasN k 8 with
 | true=>
  simp only [Bool.not_true,Bool.false_eq_true,if_false,if_true,true_and]
  cases immB k n.n<;>rfl
 | false=>
  rw [c4 h8]
  simp [W.ne_self]
theorem enc_p {k:Nat} (hk:k < 64) (h0:k ≠ 0) {rd ra rb:Nat} (b1:rd < 16) (b2:ra < 16) (b3:rb < 16) (c1:hasN k 1=false→rd=0) (c2:hasN k 2=false→ra=0) (c3:hasN k 4=false→rb=0) (n:W .i64) (c4:hasN k 8=false→n=W.of .i64 0):
  (hasN k 8=true∧immB k n.n=false∧F_inst_Enc (TInst.mk (wi k) (wi rd) (wi ra) (wi rb) n)=some (W.of .u32 0,W.of .i64 3)) ∨
  (¬ (hasN k 8=true∧immB k n.n=false)∧∃ x,F_inst_Enc (TInst.mk (wi k) (wi rd) (wi ra) (wi rb) n)=some (x,W.of .i64 0)∧x.v=k*67108864+rd*4194304+ra*262144+rb*16384+if hasN k 8=true then (W.conv .u32 n).v % 2 ^ wdN (formN k) else 0):=by
 have ok:=op_ok hk
 have hr:=right_p hk h0 b1 b2 b3 c1 c2 c3 n c4
 unfold F_inst_Enc T_inst_Enc
 rw [ev_opt,hr,bind_some',ev_ite]
 by_cases hc:hasN k 8=true∧immB k n.n=false
 ·rw [if_pos hc];exact .inl ⟨hc.1,hc.2,rfl⟩
 ·rw [if_neg hc]
  refine .inr ⟨hc,?_⟩
  obtain ⟨y2,p2,q2⟩:=put_eq (hi:=W.of .i64 31) (lo:=W.of .i64 26) (m:=W.of .u32 4227858432) (l:=26) (w:=6) (by kernel_rfl) (by rfl) (by omega) (W.of .u32 0) (W.conv .u32 (wi k)) rfl
  rw [conv_wi (by omega),show (W.of .u32 0).v=0 from rfl,show (2:Nat) ^ 6=64 from rfl,show (2:Nat) ^ 26=67108864 from rfl] at q2
  obtain ⟨y3,p3,q3⟩:=put_eq (hi:=W.of .i64 25) (lo:=W.of .i64 22) (m:=W.of .u32 62914560) (l:=22) (w:=4) (by kernel_rfl) (by rfl) (by omega) y2 (W.conv .u32 (wi rd)) (by rw [q2];show _ % 67108864=0;omega)
  rw [conv_wi (by omega),q2,show (2:Nat) ^ 4=16 from rfl,show (2:Nat) ^ 22=4194304 from rfl] at q3
  obtain ⟨y4,p4,q4⟩:=put_eq (hi:=W.of .i64 21) (lo:=W.of .i64 18) (m:=W.of .u32 3932160) (l:=18) (w:=4) (by kernel_rfl) (by rfl) (by omega) y3 (W.conv .u32 (wi ra)) (by rw [q3];show _ % 4194304=0;omega)
  rw [conv_wi (by omega),q3,show (2:Nat) ^ 4=16 from rfl,show (2:Nat) ^ 18=262144 from rfl] at q4
  obtain ⟨y5,p5,q5⟩:=put_eq (hi:=W.of .i64 17) (lo:=W.of .i64 14) (m:=W.of .u32 245760) (l:=14) (w:=4) (by kernel_rfl) (by rfl) (by omega) y4 (W.conv .u32 (wi rb)) (by rw [q4];show _ % 262144=0;omega)
  rw [conv_wi (by omega),q4,show (2:Nat) ^ 4=16 from rfl,show (2:Nat) ^ 14=16384 from rfl] at q5
  simp only [W.ne_self,Bool.false_eq_true,if_false,ev_opt,p2,p3,p4,p5,bind_some',show F_inst_has (wi k) (W.of .i64 8)=_ from ok.h8,ev_ite,ev_ret,ok.width]
  cases h8:hasN k 8 with
  | false=>exact ⟨_,rfl,by rw [q5];simp;omega⟩
  | true=>
   by_cases h5:formN k=5
   ·have hrb:=c3 (ok.five h5).1
    have hw:wdN (formN k)=18:=by unfold wdN;rw [if_pos h5]
    obtain ⟨y6,p6,q6⟩:=put_eq (hi:=W.of .i64 17) (lo:=W.of .i64 0) (m:=W.of .u32 262143) (l:=0) (w:=18) (by kernel_rfl) (by rfl) (by omega) y5 (W.conv .u32 n) (by rw [q5];show _ % 262144=0;omega)
    rw [hw]
    simp only [if_true,bind_some',show W.sub (wi 18) (W.of .i64 1)=W.of .i64 17 from rfl,p6]
    exact ⟨_,rfl,by rw [q6,q5];simp;omega⟩
   ·have hw:wdN (formN k)=14:=by unfold wdN;rw [if_neg h5]
    obtain ⟨y6,p6,q6⟩:=put_eq (hi:=W.of .i64 13) (lo:=W.of .i64 0) (m:=W.of .u32 16383) (l:=0) (w:=14) (by kernel_rfl) (by rfl) (by omega) y5 (W.conv .u32 n) (by rw [q5];show _ % 16384=0;omega)
    rw [hw]
    simp only [if_true,bind_some',show W.sub (wi 14) (W.of .i64 1)=W.of .i64 13 from rfl,p6]
    exact ⟨_,rfl,by rw [q6,q5];simp;omega⟩
theorem reg_d (h:Bool) {r:Nat} (hr:r < 16):F_ref06_reg h (wi r)=some (decide (r=0) || h):=by
 unfold F_ref06_reg T_ref06_reg
 rw [ev_ite,show W.eq (wi r) (W.of .i64 0)=decide (r=0) from eq_small (b:=0) (by omega) (by omega)]
 by_cases h0:r=0
 ·subst h0;rfl
 ·have e1:W.gt (wi r) (W.of .i64 0)=true:=by rw [W.gt_lt];exact (lt_small (n:=0) (by omega) (by omega)).trans (by simp;omega)
  have e2:W.lt (wi r) (W.of .i64 16)=true:=(lt_small (m:=16) (by omega) (by omega)).trans (by simpa using hr)
  simp only [h0,decide_false,Bool.false_eq_true,if_false,ev_ite,ev_ret,e1,e2,if_true,Bool.false_or]
  cases h<;>rfl
theorem right_d {k:Nat} (hk:k < 64) (h0:k ≠ 0) {rd ra rb:Nat} (b1:rd < 16) (b2:ra < 16) (b3:rb < 16) (n:W .i64):
  ∃ e,F_ref06_Right (TInst.mk (wi k) (wi rd) (wi ra) (wi rb) n)=some e∧(W.ne e (W.of .i64 0)=false ↔ (rd=0∨hasN k 1=true)∧(ra=0∨hasN k 2=true)∧(rb=0∨hasN k 4=true)∧(n=W.of .i64 0∨hasN k 8=true)∧(hasN k 8=true→immB k n.n=true)):=by
 have ok:=op_ok hk
 have hform:W.eq (wi (formN k)) (W.of .i64 0)=false:=by
  rw [show W.eq (wi (formN k)) (W.of .i64 0)=decide (formN k=0) from eq_small (b:=0) (by have:=ok.lt;omega) (by omega)]
  have:=ok.pos;simp;omega
 unfold F_ref06_Right T_ref06_Right
 simp only [ev_opt,ev_ite,ev_ret,ok.rform,bind_some',hform,Bool.false_eq_true,if_false,show F_ref06_Has (wi (formN k)) (W.of .i64 1)=_ from ok.r1,show F_ref06_Has (wi (formN k)) (W.of .i64 2)=_ from ok.r2,show F_ref06_Has (wi (formN k)) (W.of .i64 3)=_ from ok.r3,show F_ref06_Has (wi (formN k)) (W.of .i64 4)=_ from ok.r4,reg_d _ b1,reg_d _ b2,reg_d _ b3,within_d hk]
 have z1:W.ne (W.of .i64 1) (W.of .i64 0)=true:=rfl
 have z3:W.ne (W.of .i64 3) (W.of .i64 0)=true:=rfl
 have z0:W.ne (W.of .i64 0) (W.of .i64 0)=false:=rfl
 cases g1:(decide (rd=0) || hasN k 1) with
 | false=>exact ⟨_,rfl,fun h=>(by rw [z1] at h;cases h),fun h=>by
   rw [Bool.or_eq_false_iff,decide_eq_false_iff_not] at g1
   rcases h.1 with h | h
   ·exact (g1.1 h).elim
   ·rw [g1.2] at h;cases h⟩
 | true=>
  cases g2:(decide (ra=0) || hasN k 2) with
  | false=>exact ⟨_,rfl,fun h=>(by rw [z1] at h;cases h),fun h=>by
    rw [Bool.or_eq_false_iff,decide_eq_false_iff_not] at g2
    rcases h.2.1 with h | h
    ·exact (g2.1 h).elim
    ·rw [g2.2] at h;cases h⟩
  | true=>
   cases g3:(decide (rb=0) || hasN k 4) with
   | false=>exact ⟨_,rfl,fun h=>(by rw [z1] at h;cases h),fun h=>by
     rw [Bool.or_eq_false_iff,decide_eq_false_iff_not] at g3
     rcases h.2.2.1 with h | h
     ·exact (g3.1 h).elim
     ·rw [g3.2] at h;cases h⟩
   | true=>
    rw [Bool.or_eq_true,decide_eq_true_eq] at g1 g2 g3
    simp only [Bool.not_true,Bool.false_eq_true,if_false]
    cases h8:hasN k 8 with
    | true=>
     simp only [Bool.not_true,Bool.false_eq_true,if_false,if_true]
     cases hi:immB k n.n with
     | true=>exact ⟨_,rfl,fun _=>⟨g1,g2,g3,.inr trivial,fun _=>by trivial⟩,fun _=>z0⟩
     | false=>exact ⟨_,rfl,fun h=>(by rw [z3] at h;cases h),fun h=>(by have:=h.2.2.2.2 trivial;cases this)⟩
    | false=>
     simp only [Bool.not_false,if_true,Bool.false_eq_true,if_false,W.ne_eq,W.eq_dec]
     by_cases hn:n=W.of .i64 0
     ·simp only [hn,decide_true,Bool.not_true,Bool.false_eq_true,if_false]
      exact ⟨_,rfl,fun _=>⟨g1,g2,g3,.inl trivial,fun h=>(by cases h)⟩,fun _=>rfl⟩
     ·simp only [hn,decide_false,Bool.not_false,if_true]
      exact ⟨_,rfl,fun h=>(by cases h),fun h=>(by rcases h.2.2.2.1 with h | h<;>first | exact h.elim | cases h)⟩
def zeroI:TInst:=TInst.mk (W.of .i64 0) (W.of .i64 0) (W.of .i64 0) (W.of .i64 0) (W.of .i64 0)
structure InstOk (i:TInst):Prop where
 op0:1≤i.Op.n
 op1:i.Op.n < 64
 rd0:0≤i.Rd.n
 rd1:i.Rd.n < 16
 ra0:0≤i.Ra.n
 ra1:i.Ra.n < 16
 rb0:0≤i.Rb.n
 rb1:i.Rb.n < 16
theorem conv_nat {x:W .u32}:W.conv .i64 x=wi x.v:=by
 have:=x.v_lt
 refine W.ext ?_
 rw [conv64_v,wi_n (by unfold room;omega)]
theorem dec_p {w:W .u32} {k rd ra rb:Nat} (hk64:k < 64) (h0:k ≠ 0) {yk yd ya yb:W .u32} {n:W .i64} (k1:F_bits_Field w (W.of .i64 31) (W.of .i64 26)=some yk) (d1:F_bits_Field w (W.of .i64 25) (W.of .i64 22)=some yd) (a1:F_bits_Field w (W.of .i64 21) (W.of .i64 18)=some ya) (b1:F_bits_Field w (W.of .i64 17) (W.of .i64 14)=some yb)
  (vk:W.conv .i64 yk=wi k) (vd:W.conv .i64 yd=wi rd) (va:W.conv .i64 ya=wi ra) (vb:W.conv .i64 yb=wi rb) (hnum:F_inst_number (wi k) w=some n):
  F_inst_Dec w=(F_inst_Enc (TInst.mk (wi k) (wi (if hasN k 1=true then rd else 0)) (wi (if hasN k 2=true then ra else 0)) (wi (if hasN k 4=true then rb else 0)) (if hasN k 8=true then n else W.of .i64 0))).bind fun r=>if W.ne r.2 (W.of .i64 0)=true then some (zeroI,W.of .i64 2) else if W.ne r.1 w=true then some (zeroI,W.of .i64 2) else some (TInst.mk (wi k) (wi (if hasN k 1=true then rd else 0)) (wi (if hasN k 2=true then ra else 0)) (wi (if hasN k 4=true then rb else 0)) (if hasN k 8=true then n else W.of .i64 0),W.of .i64 0):=by
 have ok:=op_ok hk64
 have heqk:W.eq (wi k) (W.of .i64 0)=decide (k=0):=eq_small (b:=0) (by omega) (by omega)
 have q1:F_inst_has (wi k) (W.of .i64 1)=some (hasN k 1):=ok.h1
 have q2:F_inst_has (wi k) (W.of .i64 2)=some (hasN k 2):=ok.h2
 have q4:F_inst_has (wi k) (W.of .i64 4)=some (hasN k 4):=ok.h4
 have q8:F_inst_has (wi k) (W.of .i64 8)=some (hasN k 8):=ok.h8
 have z0:(wi 0:W .i64)=W.of .i64 0:=rfl
 clear ok
 generalize hasN k 1=g1 at q1 ⊢
 generalize hasN k 2=g2 at q2 ⊢
 generalize hasN k 4=g4 at q4 ⊢
 generalize hasN k 8=g8 at q8 ⊢
 unfold F_inst_Dec T_inst_Dec zeroI
 rw [ev_opt,k1,bind_some',ev_ite,vk,heqk,if_neg (by simpa using h0)]
 cases g1<;>cases g2<;>cases g4<;>cases g8 <;>
  simp only [↓ev_opt,↓ev_ite,q1,q2,q4,q8,bind_some',Bool.false_eq_true,if_false,if_true,d1,a1,b1,vd,va,vb,hnum,ev_ret,z0]
theorem word14 {k rd ra rb im:Nat} (h1:rd < 16) (h2:ra < 16) (h3:rb < 16) (h4:im < 16384) (g1 g2 g4 g8:Bool):
  (k*67108864+(if g1=true then rd else 0)*4194304+(if g2=true then ra else 0)*262144+(if g4=true then rb else 0)*16384+(if g8=true then im else 0)=k*67108864+rd*4194304+ra*262144+rb*16384+im) ↔ (rd=0∨g1=true)∧(ra=0∨g2=true)∧(rb=0∨g4=true)∧(im=0∨g8=true):=by
 cases g1<;>cases g2<;>cases g4<;>cases g8<;>simp only [Bool.false_eq_true,if_false,if_true,or_false,or_true,true_and,and_true]<;>omega
theorem word18 {k rd ra im:Nat} (h1:rd < 16) (h2:ra < 16) (h4:im < 262144) (g1 g2:Bool):
  (k*67108864+(if g1=true then rd else 0)*4194304+(if g2=true then ra else 0)*262144+0*16384+im=k*67108864+rd*4194304+ra*262144+im) ↔ (rd=0∨g1=true)∧(ra=0∨g2=true):=by
 rw [Nat.zero_mul,Nat.add_zero]
 cases g1<;>cases g2<;>simp only [Bool.false_eq_true,if_false,if_true,or_false,or_true,true_and,and_true]<;>omega
theorem dec18 {v k rd ra rb a b:Nat} (hd:v=k*67108864+rd*4194304+ra*262144+rb*16384+a) (h:b=rb*16384+a):v=k*67108864+rd*4194304+ra*262144+b:=by rw [hd,h,Nat.add_assoc _ (rb*16384) a]
theorem instOk_mk {k rd ra rb:Nat} {n:W .i64} (h0:k ≠ 0) (hk:k < 64) (h1:rd < 16) (h2:ra < 16) (h3:rb < 16):InstOk (TInst.mk (wi k) (wi rd) (wi ra) (wi rb) n):=by
 have w1:∀ a,a < 1000→(wi a).n=a:=fun a h=>wi_n (sm (by omega))
 have e0:=w1 k (by omega)
 have e1:=w1 rd (by omega)
 have e2:=w1 ra (by omega)
 have e3:=w1 rb (by omega)
 constructor<;>simp only [e0,e1,e2,e3]<;>omega
theorem dec_eq (w:W .u32):∃ r,F_inst_Dec w=some r∧F_ref06_Dec w=some r∧(W.ne r.2 (W.of .i64 0)=false→InstOk r.1):=by
 have hw:=w.v_lt
 obtain ⟨yk,k1,k2⟩:=field_eq (hi:=W.of .i64 31) (lo:=W.of .i64 26) (m:=W.of .u32 4227858432) (l:=26) (w:=6) (by kernel_rfl) (by rfl) (by omega) w
 obtain ⟨yd,d1,d2⟩:=field_eq (hi:=W.of .i64 25) (lo:=W.of .i64 22) (m:=W.of .u32 62914560) (l:=22) (w:=4) (by kernel_rfl) (by rfl) (by omega) w
 obtain ⟨ya,a1,a2⟩:=field_eq (hi:=W.of .i64 21) (lo:=W.of .i64 18) (m:=W.of .u32 3932160) (l:=18) (w:=4) (by kernel_rfl) (by rfl) (by omega) w
 obtain ⟨yb,b1,b2⟩:=field_eq (hi:=W.of .i64 17) (lo:=W.of .i64 14) (m:=W.of .u32 245760) (l:=14) (w:=4) (by kernel_rfl) (by rfl) (by omega) w
 rw [show (2:Nat) ^ 26=67108864 from rfl,show (2:Nat) ^ 6=64 from rfl] at k2
 rw [show (2:Nat) ^ 22=4194304 from rfl,show (2:Nat) ^ 4=16 from rfl] at d2
 rw [show (2:Nat) ^ 18=262144 from rfl,show (2:Nat) ^ 4=16 from rfl] at a2
 rw [show (2:Nat) ^ 14=16384 from rfl,show (2:Nat) ^ 4=16 from rfl] at b2
 obtain ⟨k,hk⟩:∃ k,k=w.v / 67108864:=⟨_,rfl⟩
 obtain ⟨rd,hrd⟩:∃ k,k=w.v / 4194304 % 16:=⟨_,rfl⟩
 obtain ⟨ra,hra⟩:∃ k,k=w.v / 262144 % 16:=⟨_,rfl⟩
 obtain ⟨rb,hrb⟩:∃ k,k=w.v / 16384 % 16:=⟨_,rfl⟩
 have hk64:k < 64:=by omega
 have hrd16:rd < 16:=by omega
 have hra16:ra < 16:=by omega
 have hrb16:rb < 16:=by omega
 have ok:=op_ok hk64
 have vk:W.conv .i64 yk=wi k:=by rw [conv_nat,k2];congr 2;omega
 have vd:W.conv .i64 yd=wi rd:=by rw [conv_nat,d2,hrd]
 have va:W.conv .i64 ya=wi ra:=by rw [conv_nat,a2,hra]
 have vb:W.conv .i64 yb=wi rb:=by rw [conv_nat,b2,hrb]
 have wk:W.conv .i64 (W.quo w (W.of .u32 67108864))=wi k:=by rw [conv_nat,W.quo_v,hk];rfl
 have wd':W.conv .i64 (W.rem (W.quo w (W.of .u32 4194304)) (W.of .u32 16))=wi rd:=by rw [conv_nat,W.rem_v,W.quo_v,hrd];rfl
 have wa:W.conv .i64 (W.rem (W.quo w (W.of .u32 262144)) (W.of .u32 16))=wi ra:=by rw [conv_nat,W.rem_v,W.quo_v,hra];rfl
 have wb:W.conv .i64 (W.rem (W.quo w (W.of .u32 16384)) (W.of .u32 16))=wi rb:=by rw [conv_nat,W.rem_v,W.quo_v,hrb];rfl
 have w18:W.conv .i64 (W.rem w (W.of .u32 262144))=wi (w.v % 262144):=by rw [conv_nat,W.rem_v];rfl
 have w14:W.conv .i64 (W.rem w (W.of .u32 16384))=wi (w.v % 16384):=by rw [conv_nat,W.rem_v];rfl
 have heqk:W.eq (wi k) (W.of .i64 0)=decide (k=0):=eq_small (b:=0) (by omega) (by omega)
 have hlt:=ok.lt
 have heqf:W.eq (wi (formN k)) (W.of .i64 0)=decide (formN k=0):=eq_small (b:=0) (by omega) (by omega)
 have heq5:W.eq (wi (formN k)) (W.of .i64 5)=decide (formN k=5):=eq_small (b:=5) (by omega) (by omega)
 have heq49:W.eq (wi k) (W.of .i64 49)=decide (k=49):=eq_small (b:=49) (by omega) (by omega)
 by_cases h0:k=0
 ·have e1:F_inst_Dec w=some (zeroI,W.of .i64 9):=by
   unfold F_inst_Dec T_inst_Dec
   rw [ev_opt,k1,bind_some',ev_ite,vk,heqk,if_pos (by simpa using h0)]
   rfl
  have e2:F_ref06_Dec w=some (zeroI,W.of .i64 9):=by
   unfold F_ref06_Dec T_ref06_Dec
   rw [ev_opt,wk,ok.rform,bind_some',ev_ite,heqf,h0,ok.zero]
   rfl
  exact ⟨_,e1,e2,fun h=>by cases h⟩
 have hf0:formN k ≠ 0:=by have:=ok.pos;omega
 have hwdd:wdN (formN k)=14∨wdN (formN k)=18:=by unfold wdN;split<;>simp
 have hnum:=number_p hk64 ok.width hwdd w
 obtain ⟨n,hn⟩:∃ n,n=W.of .i64 (immOf k (wdN (formN k)) w.v):=⟨_,rfl⟩
 rw [←hn] at hnum
 have hdoc:(if formN k=5 then (if k=49 then (if W.ge (wi (w.v % 262144)) (W.of .i64 131072)=true then W.sub (wi (w.v % 262144)) (W.of .i64 262144) else wi (w.v % 262144)) else wi (w.v % 262144)) else (if W.ge (wi (w.v % 16384)) (W.of .i64 8192)=true then W.sub (wi (w.v % 16384)) (W.of .i64 16384) else wi (w.v % 16384)))=n:=by
  have g:∀ a b:Nat,a < 1000000→b < 1000000→W.ge (wi a) (W.of .i64 (b:Nat))=decide (b≤a):=fun a b ha hb=>by
   refine iff_bool ?_
   rw [W.ge_n,wi_n (by unfold room;omega),wi_n (by unfold room;omega),decide_eq_true_eq];omega
  have s:∀ a b:Nat,a < 1000000→b < 1000000→W.sub (wi a) (W.of .i64 (b:Nat))=W.of .i64 ((a:Int) - b):=fun a b ha hb=>W.ext (by
   rw [W.sub_n,wi_n (by unfold room;omega),wi_n (by unfold room;omega),W.of_n])
  rw [show W.ge (wi (w.v % 262144)) (W.of .i64 131072)=_ from g _ 131072 (by omega) (by omega),show W.ge (wi (w.v % 16384)) (W.of .i64 8192)=_ from g _ 8192 (by omega) (by omega),show W.sub (wi (w.v % 262144)) (W.of .i64 262144)=_ from s _ 262144 (by omega) (by omega),show W.sub (wi (w.v % 16384)) (W.of .i64 16384)=_ from s _ 16384 (by omega) (by omega),hn]
  unfold immOf wdN
  have e18:(2:Nat) ^ 18=262144:=by decide
  have e17:(2:Nat) ^ (18 - 1)=131072:=by decide
  have e14:(2:Nat) ^ 14=16384:=by decide
  have e13:(2:Nat) ^ (14 - 1)=8192:=by decide
  have i18:(2:Int) ^ 18=262144:=by decide
  have i14:(2:Int) ^ 14=16384:=by decide
  by_cases h5:formN k=5
  ·rw [if_pos h5,if_pos h5,e18,e17,i18]
   have:=ok.five'.1 h5
   by_cases h49:k=49
   ·rw [if_pos h49,if_neg (show ¬ k=33 by omega)]
    by_cases hl:w.v % 262144 < 131072
    ·rw [if_neg (by simp;omega),if_pos hl]
    ·rw [if_pos (by simp;omega),if_neg hl];rfl
   ·rw [if_neg h49,if_pos (show k=33 by omega)]
  ·rw [if_neg h5,if_neg h5,e14,e13,i14]
   have:¬ k=33:=fun h=>h5 (ok.five'.2 (.inl h))
   rw [if_neg this]
   by_cases hl:w.v % 16384 < 8192
   ·rw [if_neg (by simp;omega),if_pos hl]
   ·rw [if_pos (by simp;omega),if_neg hl];rfl
 have hlow:(W.conv .u32 n).v % 2 ^ wdN (formN k)=w.v % 2 ^ wdN (formN k):=by
  have hr:(W.conv .u32 n).n=n.n % 4294967296:=by rw [W.conv_n,wrap_u32]
  have hnn:n.n=immOf k (wdN (formN k)) w.v∧(immOf k (wdN (formN k)) w.v) % 2 ^ wdN (formN k)=((w.v % 2 ^ wdN (formN k):Nat):Int):=by
   have h33:k=33→wdN (formN k)=18:=fun h=>by unfold wdN;rw [if_pos (ok.five'.2 (.inl h))]
   have hp:wdN (formN k)=14∧2 ^ wdN (formN k)=16384∧2 ^ (wdN (formN k) - 1)=8192∧(2:Int) ^ wdN (formN k)=16384∨wdN (formN k)=18∧2 ^ wdN (formN k)=262144∧2 ^ (wdN (formN k) - 1)=131072∧(2:Int) ^ wdN (formN k)=262144:=by
    rcases hwdd with h | h<;>rw [h]
    ·exact .inl ⟨rfl,rfl,rfl,rfl⟩
    ·exact .inr ⟨rfl,rfl,rfl,rfl⟩
   have e18:(2:Nat) ^ 18=262144:=by decide
   rw [hn,W.of_n,wrap_i64]
   unfold immOf
   rcases hp with ⟨q0,q1,q2,q3⟩ | ⟨q0,q1,q2,q3⟩<;>rw [q1,q2,q3,e18]<;>by_cases h:k=33
   ·have:=h33 h;omega
   ·rw [if_neg h];split<;>omega
   ·rw [if_pos h];omega
   ·rw [if_neg h];split<;>omega
  have hv:((W.conv .u32 n).v:Int)=n.n % 4294967296:=by rw [←W.n_v];exact hr
  rw [hnn.1] at hv
  have h2:=hnn.2
  rcases hwdd with h | h<;>rw [h] at h2 hv ⊢
  ·rw [show (2:Nat) ^ 14=16384 from rfl] at h2 ⊢
   rw [show (2:Int) ^ 14=16384 from rfl] at h2
   omega
  ·rw [show (2:Nat) ^ 18=262144 from rfl] at h2 ⊢
   rw [show (2:Int) ^ 18=262144 from rfl] at h2
   omega
 have P:=dec_p hk64 h0 k1 d1 a1 b1 vk vd va vb hnum
 have D:F_ref06_Dec w=(F_ref06_Right (TInst.mk (wi k) (wi rd) (wi ra) (wi (if formN k=5 then 0 else rb)) n)).bind fun e=>if W.ne e (W.of .i64 0)=true then some (zeroI,W.of .i64 2) else some (TInst.mk (wi k) (wi rd) (wi ra) (wi (if formN k=5 then 0 else rb)) n,W.of .i64 0):=by
  unfold F_ref06_Dec T_ref06_Dec
  rw [ev_opt,wk,ok.rform,bind_some',ev_ite,heqf,if_neg (by simpa using hf0),←hdoc]
  simp only [ev_opt,ev_ite,ev_ret,heq5,heq49,wd',wa,wb,w18,w14,decide_eq_true_eq]
  by_cases h5:formN k=5
  ·simp only [h5,if_true]
   by_cases h49:k=49
   ·simp only [h49,if_true]
    cases W.ge (wi (w.v % 262144)) (W.of .i64 131072)<;>rfl
   ·simp only [h49,if_false]
    rfl
  ·simp only [h5,if_false]
   cases W.ge (wi (w.v % 16384)) (W.of .i64 8192)<;>rfl
 have hE:=enc_p hk64 h0 (rd:=if hasN k 1=true then rd else 0) (ra:=if hasN k 2=true then ra else 0) (rb:=if hasN k 4=true then rb else 0) (by split<;>omega) (by split<;>omega) (by split<;>omega) (fun h=>by rw [h];rfl) (fun h=>by rw [h];rfl) (fun h=>by rw [h];rfl) (if hasN k 8=true then n else W.of .i64 0) (fun h=>by rw [h];rfl)
 obtain ⟨e,r1,r2⟩:=right_d hk64 h0 hrd16 hra16 (rb:=if formN k=5 then 0 else rb) (by split<;>omega) n
 have hz:n=W.of .i64 0∨hasN k 8=true ↔ (w.v % 2 ^ wdN (formN k)=0∨hasN k 8=true):=by
  by_cases g8:hasN k 8=true
  ·simp [g8]
  ·have h5:¬ formN k=5:=fun h=>g8 (ok.five h).2
   have hwd:wdN (formN k)=14:=by unfold wdN;rw [if_neg h5]
   have h33:¬ k=33:=fun h=>h5 (ok.five'.2 (.inl h))
   rw [hwd] at hn hlow ⊢
   unfold immOf at hn
   rw [if_neg h33] at hn
   have e14:(2:Nat) ^ 14=16384:=by decide
   have e13:(2:Nat) ^ (14 - 1)=8192:=by decide
   have i14:(2:Int) ^ 14=16384:=by decide
   rw [e14] at hlow ⊢
   rw [e14,e13,i14] at hn
   constructor
   ·rintro (h | h)
    ·rw [h] at hlow
     have:(W.conv .u32 (W.of .i64 0)).v=0:=rfl
     rw [this] at hlow;exact .inl (by omega)
    ·exact (g8 h).elim
   ·rintro (h | h)
    ·rw [hn,h];exact .inl rfl
    ·exact (g8 h).elim
 rw [P,D,r1,bind_some']
 have hdecomp:w.v=k*67108864+rd*4194304+ra*262144+rb*16384+w.v % 16384:=by omega
 have h18:w.v % 262144=rb*16384+w.v % 16384:=by omega
 rcases hE with ⟨m1,m2,m3⟩ | ⟨m1,x,m3,m4⟩
 ·rw [m3]
  rw [m1,if_pos rfl] at m2
  have:W.ne e (W.of .i64 0)=true:=by
   cases hne:W.ne e (W.of .i64 0) with
   | true=>rfl
   | false=>have:=(r2.1 hne).2.2.2.2 m1;rw [m2] at this;cases this
  rw [this,bind_some',if_pos rfl]
  have z3:W.ne (W.of .i64 3) (W.of .i64 0)=true:=rfl
  dsimp only
  rw [z3,if_pos rfl]
  exact ⟨_,rfl,rfl,fun h=>by cases h⟩
 ·rw [m3,bind_some']
  dsimp only
  rw [W.ne_self,if_neg (by simp)]
  have hx:W.ne x w=false ↔ x.v=w.v:=by
   rw [W.ne_eq,Bool.not_eq_false',W.eq_n,W.n_v,W.n_v];omega
  have key:W.ne x w=false ↔ W.ne e (W.of .i64 0)=false:=by
   rw [hx,r2,hz]
   have him:hasN k 8=true→immB k n.n=true:=fun h=>by
    cases hi:immB k n.n with
    | true=>rfl
    | false=>exact (m1 ⟨h,by rw [if_pos h];exact hi⟩).elim
   have e14:(2:Nat) ^ 14=16384:=by decide
   have e18:(2:Nat) ^ 18=262144:=by decide
   have hlast:(if hasN k 8=true then (W.conv .u32 (if hasN k 8=true then n else W.of .i64 0)).v % 2 ^ wdN (formN k) else 0)=if hasN k 8=true then w.v % 2 ^ wdN (formN k) else 0:=by
    by_cases g8:hasN k 8=true
    ·rw [if_pos g8,if_pos g8,if_pos g8,hlow]
    ·rw [if_neg g8,if_neg g8]
   rw [m4,hlast]
   by_cases h5:formN k=5
   ·have hwd:wdN (formN k)=18:=by unfold wdN;rw [if_pos h5]
    obtain ⟨g4,g8⟩:=ok.five h5
    have t:=word18 (k:=k) hrd16 hra16 (Nat.mod_lt w.v (show 0 < 262144 by decide)) (hasN k 1) (hasN k 2)
    have hwv:w.v=k*67108864+rd*4194304+ra*262144+w.v % 262144:=dec18 hdecomp h18
    rw [←hwv] at t
    have q4:(if hasN k 4=true then rb else 0)=0:=by rw [g4];rfl
    have q8:(if hasN k 8=true then w.v % 2 ^ wdN (formN k) else 0)=w.v % 262144:=by rw [if_pos g8,hwd,e18]
    have q5:(if formN k=5 then 0 else rb)=0:=if_pos h5
    rw [q4,q8,q5]
    exact t.trans ⟨fun h=>⟨h.1,h.2,.inl rfl,.inr g8,him⟩,fun h=>⟨h.1,h.2.1⟩⟩
   ·have hwd:wdN (formN k)=14:=by unfold wdN;rw [if_neg h5]
    have t:=word14 (k:=k) hrd16 hra16 hrb16 (Nat.mod_lt w.v (show 0 < 16384 by decide)) (hasN k 1) (hasN k 2) (hasN k 4) (hasN k 8)
    rw [←hdecomp] at t
    have q8:(if hasN k 8=true then w.v % 2 ^ wdN (formN k) else 0)=if hasN k 8=true then w.v % 16384 else 0:=by rw [hwd,e14]
    have q5:(if formN k=5 then 0 else rb)=rb:=if_neg h5
    rw [q8,q5,hwd,e14]
    exact t.trans ⟨fun h=>⟨h.1,h.2.1,h.2.2.1,h.2.2.2,him⟩,fun h=>⟨h.1,h.2.1,h.2.2.1,h.2.2.2.1⟩⟩
  cases hxe:W.ne x w with
  | true=>
   have:W.ne e (W.of .i64 0)=true:=by
    cases hne:W.ne e (W.of .i64 0) with
    | true=>rfl
    | false=>have:=key.2 hne;rw [hxe] at this;cases this
   simp only [this,hxe,if_true]
   exact ⟨_,rfl,rfl,fun h=>by cases h⟩
  | false=>
   have he:=key.1 hxe
   simp only [he,hxe,Bool.false_eq_true,if_false]
   obtain ⟨o1,o2,o3,o4,o5⟩:=r2.1 he
   have s1:(if hasN k 1=true then rd else 0)=rd:=by
    by_cases g:hasN k 1=true
    ·rw [if_pos g]
    ·rw [if_neg g]
     rcases o1 with h | h
     ·exact h.symm
     ·exact (g h).elim
   have s2:(if hasN k 2=true then ra else 0)=ra:=by
    by_cases g:hasN k 2=true
    ·rw [if_pos g]
    ·rw [if_neg g]
     rcases o2 with h | h
     ·exact h.symm
     ·exact (g h).elim
   have s3:(if hasN k 4=true then rb else 0)=(if formN k=5 then 0 else rb):=by
    by_cases h5:formN k=5
    ·rw [if_pos h5,(ok.five h5).1];rfl
    ·rw [if_neg h5] at o3 ⊢
     by_cases g:hasN k 4=true
     ·rw [if_pos g]
     ·rw [if_neg g]
      rcases o3 with h | h
      ·exact h.symm
      ·exact (g h).elim
   have s4:(if hasN k 8=true then n else W.of .i64 0)=n:=by
    split
    ·rfl
    ·rename_i h;rcases o4 with h' | h'
     ·exact h'.symm
     ·exact (h h').elim
   rw [s1,s2,s3,s4]
   have hb16:(if formN k=5 then 0 else rb) < 16:=by split<;>omega
   exact ⟨_,rfl,rfl,fun _=>instOk_mk h0 hk64 hrd16 hra16 hb16⟩
end Go.Proofs.YtkddkpmijhionaaGreatDoor
