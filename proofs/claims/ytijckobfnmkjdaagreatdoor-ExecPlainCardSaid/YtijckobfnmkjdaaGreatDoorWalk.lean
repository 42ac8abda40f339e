/- YtijckobfnmkjdaaGreatDoorWalk: tables of pages, and where an access goes: the program's are the document's. No statement of the seat is proved here. -/
import Derived.Test.YtijckobfnmkjdaaGreatDoorMem
set_option linter.unusedSimpArgs false
set_option linter.unusedVariables false
set_option maxRecDepth 100000
namespace Go.Proofs.YtijckobfnmkjdaaGreatDoor
open Go Go.A2
theorem field_eq {hi lo:W .i64} {m:W .u32} {l w:Nat} (hm:F_bits_mask hi lo=some (m,W.of .i64 (l:Nat))) (hv:m.v=(2 ^ w - 1)*2 ^ l) (hl:l≤31) (x:W .u32):∃ y,F_bits_Field x hi lo=some y∧y.v=x.v / 2 ^ l % 2 ^ w:=by
 unfold F_bits_Field T_bits_Field
 have hn:(wi l).n=l:=wi_n (by unfold room;omega)
 have hsh:W.shr? (W.and x m) (W.of .i64 ((l:Nat):Int))=some (W.shr (W.and x m) (wi l)):=by
  unfold W.shr?;rw [if_neg (by rw [hn];omega)]
 simp only [ev_opt,ev_ret,hm,bind_some',hsh]
 refine ⟨_,rfl,?_⟩
 have hlv:(wi l).v=l:=by unfold W.v;rw [hn];rfl
 rw [W.shr_v,hlv,W.and_v,hv]
 refine Nat.eq_of_testBit_eq fun i=>?_
 rw [Nat.testBit_div_two_pow,Nat.testBit_and,Nat.testBit_mod_two_pow,Nat.testBit_div_two_pow,Nat.mul_comm,Nat.testBit_two_pow_mul,Nat.testBit_two_pow_sub_one]
 rw [show i+l - l=i by omega,show decide (i+l ≥ l)=true by simp]
 cases x.v.testBit (i+l)<;>simp
theorem conv64_v (x:W .u32):(W.conv .i64 x).n=x.v:=W.conv_i64_v x
end Go.Proofs.YtijckobfnmkjdaaGreatDoor
