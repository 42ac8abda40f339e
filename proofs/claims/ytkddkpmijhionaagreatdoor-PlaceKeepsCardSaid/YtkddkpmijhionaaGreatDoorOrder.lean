/- YtkddkpmijhionaaGreatDoorOrder: the stage that renames, and puts, in a core that keeps its rules. No statement of the seat is proved here. -/
import Derived.Test.YtkddkpmijhionaaGreatDoorStage
import Derived.Test.YtkddkpmijhionaaGreatDoorBrok
set_option linter.unusedSimpArgs false
set_option linter.unusedVariables false
set_option maxRecDepth 100000
namespace Go.Proofs.YtkddkpmijhionaaGreatDoor
open Go Go.A2
structure Grow4 (c d:TCore):Prop where
 iq:d.Iq.l.length≤c.Iq.l.length+1
 lq:d.Lq.l.length≤c.Lq.l.length+1
 sq:d.Sq.l.length≤c.Sq.l.length+1
 queue:d.Queue=c.Queue
 conf:d.Conf=c.Conf
def freeN (f:TFree):Nat:=if ringB f=true then f.N.n.toNat else 0
def EntOk (s:W .u64) (P:List TUop) (es:List TRob):Prop:=es.length=P.length∧∀ k,k < P.length→(nth es k).Ren.Uop=nth P k∧(nth es k).Done=false∧(nth es k).Ren.Seq=W.add s (W.conv .u64 (wi k))
structure Ord (c d:TCore) (P:List TUop) (ns:Sl 32 TNote):Prop where
 es:∃ es,d.Rob.l=c.Rob.l++es∧EntOk c.Names.Seq P es
 seq:d.Names.Seq=W.add c.Names.Seq (W.conv .u64 (wi P.length))
 notes:ns.l.length=P.length
 conf:d.Conf=c.Conf
 iq:d.Iq.l.length≤c.Iq.l.length+P.length
 lq:d.Lq.l.length≤c.Lq.l.length+P.length
 sq:d.Sq.l.length≤c.Sq.l.length+P.length
theorem nth_app1 {α:Type} [Inhabited α] {a b:List α} {k:Nat} (h:k < a.length):nth (a++b) k=nth a k:=by
 rw [nth_elem (by rw [List.length_append];omega),nth_elem h,List.getElem_append_left h]
theorem nth_app2 {α:Type} [Inhabited α] {a b:List α} {k:Nat} (h:k < b.length):nth (a++b) (a.length+k)=nth b k:=by
 rw [nth_elem (by rw [List.length_append];omega),nth_elem h,List.getElem_append_right (by omega)]
 congr 1;omega
end Go.Proofs.YtkddkpmijhionaaGreatDoor
