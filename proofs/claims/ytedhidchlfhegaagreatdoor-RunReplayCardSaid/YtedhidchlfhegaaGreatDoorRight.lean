/- YtedhidchlfhegaaGreatDoorRight: a machine that may be, may be behind a step too. No statement of the seat is proved here. -/
import Derived.Test.YtedhidchlfhegaaGreatDoorKind
set_option linter.unusedSimpArgs false
set_option linter.unusedVariables false
set_option maxRecDepth 100000
namespace Go.Proofs.YtedhidchlfhegaaGreatDoor
open Go Go.A2
def maskW:Nat→W .u32
 | 0=>W.of .u32 63
 | 1=>W.of .u32 31
 | 5=>W.of .u32 4294967232
 | 9=>W.of .u32 7
 | 10=>W.of .u32 7
 | _=>W.of .u32 4294967295
def MK (C:Arr 12 (W .u32)):Prop:=∀ i,i < 12→W.and (C.get i) (maskW i)=C.get i
theorem mk_set {C:Arr 12 (W .u32)} {n:Nat} {v:W .u32} (h:MK C) (hn:n < 12) (hv:W.and v (maskW n)=v):MK (C.set n v):=fun i hi=>by
 by_cases e:n=i
 ·subst e;rw [Arr.get_same _ _ hn];exact hv
 ·rw [Arr.get_ne _ _ e];exact h i hi
theorem and_ones (v:W .u32):W.and v (W.of .u32 4294967295)=v:=bits_ext fun i hi=>by
 rw [and_bits,show (W.of .u32 4294967295).v=2 ^ 32 - 1 from rfl,Nat.testBit_two_pow_sub_one];simp [hi]
theorem and_twice (v k:W .u32):W.and (W.and v k) k=W.and v k:=bits_ext fun i hi=>by
 rw [and_bits,and_bits];cases v.v.testBit i<;>cases k.v.testBit i<;>rfl
theorem and63 {v:W .u32}:W.and v (W.of .u32 63)=v ↔ ∀ i,6≤i→v.v.testBit i=false:=by
 have e:∀ i,(W.of .u32 63).v.testBit i=decide (i < 6):=fun i=>by rw [show (W.of .u32 63).v=2 ^ 6 - 1 from rfl,Nat.testBit_two_pow_sub_one]
 constructor
 ·intro h i hi
  have h1:(W.and v (W.of .u32 63)).v.testBit i=false:=by rw [and_bits,e];simp;omega
  rwa [h] at h1
 ·intro h
  refine bits_ext fun i _=>?_
  rw [and_bits,e]
  by_cases hi:i < 6
  ·simp [hi]
  ·simp [hi,h i (by omega)]
theorem mv63 {s m:W .u32} {on:Bool} (hm:m.v < 64) (hs:W.and s (W.of .u32 63)=s):W.and (mv s m on) (W.of .u32 63)=mv s m on:=by
 refine and63.2 fun i hi=>?_
 have h64:(2:Nat) ^ 6≤2 ^ i:=Nat.pow_le_pow_right (by omega) hi
 rw [mv_bits,Nat.testBit_lt_two_pow (Nat.lt_of_lt_of_le hm h64),if_neg (by simp)]
 exact and63.1 hs i hi
theorem take_facts {a b:TArch} {cause:W .i64} {val epc:W .u32} (h:F_trap_Take a cause val epc=some b):b.R=a.R∧b.Halt=a.Halt∧b.C.get 3=epc∧b.C.get 7=a.C.get 7∧b.PC=a.C.get 4∧(MK a.C→MK b.C):=by
 unfold F_trap_Take T_trap_Take at h
 simp only [ev_opt,ev_ret,show F_csr_Masked (W.of .i64 1)=some (W.of .u32 31) from by kernel_rfl,moved_p _ _ _ v1,moved_p _ _ _ v2,bind_some'] at h
 cases h
 refine ⟨rfl,rfl,?_,?_,?_,fun hk=>?_⟩
 ·dsimp only
  rw [Arr.get_ne _ _ (by decide),Arr.get_same _ _ (by decide)]
 ·dsimp only
  rw [Arr.get_ne _ _ (by decide),Arr.get_ne _ _ (by decide),Arr.get_ne _ _ (by decide),Arr.get_ne _ _ (by decide)]
 ·dsimp only
  rw [Arr.get_ne _ _ (by decide),Arr.get_ne _ _ (by decide),Arr.get_ne _ _ (by decide),Arr.get_ne _ _ (by decide)]
 ·dsimp only
  have h0:=hk 0 (by decide)
  refine mk_set (mk_set (mk_set (mk_set hk (by decide) (and_twice _ _)) (by decide) (and_ones _)) (by decide) (and_ones _)) (by decide) ?_
  rw [Arr.get_ne _ _ (by decide),Arr.get_ne _ _ (by decide),Arr.get_ne _ _ (by decide)]
  exact mv63 (m:=W.of .u32 2) (on:=false) (by decide) (mv63 (m:=W.of .u32 1) (on:=true) (by decide) (mv63 (by decide) (mv63 (by decide) h0)))
theorem count_facts {a r:TArch} (h:F_csr_Count a=some r):r.R=a.R∧r.Halt=a.Halt∧(MK a.C→MK r.C):=by
 have key:MK a.C→MK (a.C.set 7 (W.add (a.C.get 7) (W.of .u32 1))):=fun hk=>mk_set hk (by decide) (and_ones _)
 have key2:MK a.C→MK ((a.C.set 7 (W.add (a.C.get 7) (W.of .u32 1))).set 10 (W.or ((a.C.set 7 (W.add (a.C.get 7) (W.of .u32 1))).get 10) (W.of .u32 4))):=fun hk=>by
  refine mk_set (key hk) (by decide) ?_
  have h1:=key hk 10 (by decide)
  refine bits_ext fun i hi=>?_
  have h2:=congrArg (fun w=>w.v.testBit i) h1
  simp only [and_bits] at h2
  rw [and_bits,or_bits]
  have h7:(maskW 10).v.testBit i=decide (i < 3):=by rw [show (maskW 10).v=2 ^ 3 - 1 from rfl,Nat.testBit_two_pow_sub_one]
  have h4:(W.of .u32 4).v.testBit i=decide (2=i):=by rw [show (W.of .u32 4).v=2 ^ 2 from rfl,Nat.testBit_two_pow]
  rw [h7] at h2 ⊢
  rw [h4]
  by_cases hi:i < 3
  ·simp [hi]
  ·rw [←h2]
   have:¬ (2=i):=by omega
   simp [hi,this]
 unfold F_csr_Count T_csr_Count at h
 simp only [ev_ite,ev_ret] at h
 repeat' split at h
 all_goals (cases h;first | exact ⟨rfl,rfl,key⟩ | exact ⟨rfl,rfl,key2⟩)
end Go.Proofs.YtedhidchlfhegaaGreatDoor
