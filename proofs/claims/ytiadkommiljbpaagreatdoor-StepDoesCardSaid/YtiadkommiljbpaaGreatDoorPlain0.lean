/- YtiadkommiljbpaaGreatDoorPureDoes: the law StepDoes in plain terms. No statement of the seat is proved here. -/
import Derived.Test.YtiadkommiljbpaaGreatDoorKind
set_option linter.unusedSimpArgs false
set_option linter.unusedVariables false
set_option maxRecDepth 100000
namespace Go.Proofs.YtiadkommiljbpaaGreatDoor
open Go Go.A2
theorem stepDoes (m:TMach):F_law15_StepDoes m=some true:=by
 obtain ⟨b,h1,h2⟩:=light15 m
 unfold F_law15_StepDoes T_law15_StepDoes
 simp only [ev_opt,ev_ite,ev_ret,h1,bind_some',awake15]
 cases b with
 | false=>rfl
 | true=>
  have hl:=h2.1 rfl
  obtain ⟨r,r1,r2,r3⟩:=step_eq m (by have:=hl.out;omega)
  obtain ⟨f,f1,f2⟩:=fetch_eq m
  have e1:Tab.eq tab (.named .TEvent) r.2.1 r.2.1=true:=(eq_iff (X:=tab) tabOk (by rfl)).2 rfl
  simp only [Bool.not_true,Bool.false_eq_true,if_false,r1,r2,f1,f2,bind_some',kind_same hl r3,if_true,e1,beqB_self,W.eq_self]
end Go.Proofs.YtiadkommiljbpaaGreatDoor
