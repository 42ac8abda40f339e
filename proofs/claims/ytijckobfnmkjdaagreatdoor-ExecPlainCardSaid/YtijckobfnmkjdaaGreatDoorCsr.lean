/- YtijckobfnmkjdaaGreatDoorCsr: control registers and traps: the program's are the document's. No statement of the seat is proved here. -/
import Derived.Test.YtijckobfnmkjdaaGreatDoorPa9
import Derived.Test.YtijckobfnmkjdaaGreatDoorA2F
set_option linter.unusedSimpArgs false
set_option linter.unusedVariables false
set_option maxRecDepth 100000
namespace Go.Proofs.YtijckobfnmkjdaaGreatDoor
open Go Go.A2
theorem and_bits (x m:W .u32) (i:Nat):(W.and x m).v.testBit i=(x.v.testBit i&&m.v.testBit i):=by rw [W.and_v,Nat.testBit_and]
theorem or_bits (x m:W .u32) (i:Nat):(W.or x m).v.testBit i=(x.v.testBit i || m.v.testBit i):=by rw [W.or_v,Nat.testBit_or]
theorem bit_high (x:W .u32) {i:Nat} (h:32≤i):x.v.testBit i=false:=
 Nat.testBit_lt_two_pow (Nat.lt_of_lt_of_le x.v_lt (by have:2 ^ 32≤2 ^ i:=Nat.pow_le_pow_right (by omega) h;omega))
theorem not_bits (x m:W .u32) (i:Nat):(W.andNot x m).v.testBit i=(x.v.testBit i&&!m.v.testBit i):=by
 rw [W.uandNot rfl]
 have hm:=m.v_lt
 by_cases hi:i < 32
 ·have e:2 ^ IntKind.u32.bits - 1 - m.v=2 ^ 32 - (m.v+1):=by rw [show IntKind.u32.bits=32 from rfl];omega
  rw [Nat.testBit_and,e,Nat.testBit_two_pow_sub_succ (by omega)]
  simp [hi]
 ·rw [Nat.testBit_and,bit_high x (by omega)];simp
def kern (a:TArch):Bool:=(a.C.get 0).v.testBit 0
def mv (s m:W .u32) (on:Bool):W .u32:=if on=true then W.or s m else W.andNot s m
theorem Arr.get_same {α:Type} [Inhabited α] {n:Nat} (a:Arr n α) {i:Nat} (x:α) (h:i < n):(a.set i x).get i=x:=by rw [Arr.get_set h,if_pos rfl]
theorem v1:(W.of .u32 1).v=2 ^ 0:=rfl
theorem v2:(W.of .u32 2).v=2 ^ 1:=rfl
end Go.Proofs.YtijckobfnmkjdaaGreatDoor
