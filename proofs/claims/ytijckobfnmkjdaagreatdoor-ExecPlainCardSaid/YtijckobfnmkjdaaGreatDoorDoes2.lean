/- YtijckobfnmkjdaaGreatDoorDoes2: what an instruction does, class by class. No statement of the seat is proved here. -/
import Derived.Test.YtijckobfnmkjdaaGreatDoorDoes
set_option linter.unusedSimpArgs false
set_option linter.unusedVariables false
set_option maxRecDepth 100000
set_option maxHeartbeats 1000000
namespace Go.Proofs.YtijckobfnmkjdaaGreatDoor
open Go Go.A2
theorem idx16 {r:W .i64} (h0:0≤r.n) (h:r.n < 16):idx? 16 r=some r.n.toNat:=idx?_some (n:=16) (i:=r) (by omega)
theorem n_k (k:Nat) (h:k≤1000):(W.of .i64 (k:Int)).n=k:=wi_n (sm h)
section cond
variable {op:W .i64}
theorem ge_k {k:Nat} (hk:k≤1000):W.ge op (W.of .i64 (k:Int))=decide ((k:Int)≤op.n):=iff_bool (by rw [W.ge_n,n_k k hk,decide_eq_true_eq])
theorem le_k {k:Nat} (hk:k≤1000):W.le op (W.of .i64 (k:Int))=decide (op.n≤(k:Int)):=iff_bool (by rw [W.le_n,n_k k hk,decide_eq_true_eq])
theorem eq_k {k:Nat} (hk:k≤1000):W.eq op (W.of .i64 (k:Int))=decide (op.n=(k:Int)):=iff_bool (by rw [W.eq_n,n_k k hk,decide_eq_true_eq])
end cond
end Go.Proofs.YtijckobfnmkjdaaGreatDoor
