/- YtijckobfnmkjdaaGreatDoorStep: the plain machine's step is the document's. No statement of the seat is proved here. -/
import Derived.Test.YtijckobfnmkjdaaGreatDoorDoes5
set_option linter.unusedSimpArgs false
set_option linter.unusedVariables false
set_option maxRecDepth 100000
set_option maxHeartbeats 1000000
namespace Go.Proofs.YtijckobfnmkjdaaGreatDoor
open Go Go.A2
def zeroE:TEvent:=TEvent.mk (W.of .u32 0) (W.of .u32 0) (W.of .i64 0) (W.of .u32 0) (W.of .i64 0) (W.of .u32 0) (W.of .i64 0) (W.of .u32 0) (W.of .u32 0) (W.of .i64 0) (W.of .u32 0) (W.of .u32 0)
inductive Kind (m:TMach):TMach×TEvent×Bool→Prop
 | halted (h:m.A.Halt=true):Kind m (m,zeroE,false)
 | trap (h:m.A.Halt=false) {word:W .u32} {cause:W .i64} {val:W .u32} {a:TArch} (ht:F_trap_Take m.A cause val m.A.PC=some a):Kind m ({ m with A:=a },TEvent.mk m.A.PC word (W.of .i64 (-1)) (W.of .u32 0) (W.of .i64 (-1)) (W.of .u32 0) (W.of .i64 0) (W.of .u32 0) (W.of .u32 0) cause val a.PC,true)
 | done (h:m.A.Halt=false) {word:W .u32} {w:TWork} {ct:TArch} (he:Eff m word w) (hc:F_csr_Count { w.m.A with PC:=w.next_ }=some ct):Kind m ({ w.m with A:=ct },{ w.ev with Next:=ct.PC },true)
 | single (h:m.A.Halt=false) {word:W .u32} {w:TWork} {ct a:TArch} (he:Eff m word w) (hc:F_csr_Count { w.m.A with PC:=w.next_ }=some ct) (ht:F_trap_Take ct (W.of .i64 10) (W.of .u32 0) ct.PC=some a):Kind m ({ w.m with A:=a },{ w.ev with Cause:=W.of .i64 10,Next:=a.PC },true)
end Go.Proofs.YtijckobfnmkjdaaGreatDoor
