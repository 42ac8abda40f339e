/- YtkddkpmijhionaaDoorPurePlaceFits: whether there is room for any parts. No statement of the seat is proved here. -/
import Derived.Test.YtkddkpmijhionaaDoorFits
set_option linter.unusedSimpArgs false
set_option linter.unusedVariables false
set_option maxRecDepth 100000
namespace Go.Proofs.YtkddkpmijhionaaDoor
open Go Go.A2
theorem awake45:F_law45_awake=some true:=by kernel_rfl
theorem placeFits (c:TCore) (l:Sl 168 TUop):F_law45_PlaceFits c l=some true:=by
 obtain ⟨b,hL,_⟩:=light45 c
 have hg:W.gt (Sl.len l) (W.of .i64 200)=decide (200 < l.l.length):=len_gt (n:=200) (sm (by omega))
 unfold F_law45_PlaceFits T_law45_PlaceFits
 simp only [ev_opt,ev_ite,ev_ret,hL,bind_some',awake45,hg,decide_eq_true_eq]
 cases b with
 | false=>rfl
 | true=>
  simp only [Bool.not_true,Bool.false_eq_true,if_false]
  by_cases c1:200 < l.l.length
  ·rw [if_pos c1]
  ·rw [if_neg c1]
   obtain ⟨x,x1,x2⟩:=fits_eq c l (by omega)
   rw [x1,x2]
   cases x<;>rfl
end Go.Proofs.YtkddkpmijhionaaDoor
