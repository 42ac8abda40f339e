/- YtchpjkadpdajkaaGreatDoorRetire02: the row, by what is lifted. -/
import Derived.Test.YtchpjkadpdajkaaGreatDoorRetire01
set_option linter.unusedSimpArgs false
set_option linter.unusedVariables false
set_option maxRecDepth 100000
namespace Go.Proofs.YtchpjkadpdajkaaGreatDoor
open Go Go.A2
open Go.ChangeShapes Go.WideShapes Go.ChangeAt Go.RowKit
theorem retireTells_card:Rows.RetireTellsCardSaid:=
 Claim7.holds_tied_plain_at .later [] [.data] true (true, "f3deca6bbc9c4c78a8f85b1fea5d297aa8a1420c08ba033e12fbd575bd410f55") false
  retireTells_holds (fun _ h=>by cases h) (by as_aux_lemma=>kernel_rfl) (fun _ h=>by cases h) retireTells_row_tie rfl ⟨rfl,rfl⟩ (by as_aux_lemma=>kernel_rfl) rfl
  (fun f fn hf hfn=>by
   obtain rfl:f=4:=Option.some.inj ((show Tryz.prog.funcNamed "cotterel/cotterellaw48.RetireTells"=some 4 by as_aux_lemma=>kernel_rfl).symm.trans hf) |>.symm
   obtain rfl:fn=Tryz.f4:=(Option.some.inj (Tryz.func4.symm.trans hfn)).symm
   exact ⟨by as_aux_lemma=>kernel_rfl,fun j t ht=>by
    have hm:t∈[47,28]:=by
     have h:=Array.mem_of_getElem? ht
     have e:Tryz.f4.params=#[47,28]:=rfl
     rw [e] at h
     simpa using h
    have hall:([47,28].all fun u=>!Tryz.prog.wantsStandIn u)=true:=by as_aux_lemma=>kernel_rfl
    exact (show Tryz.prog.wantsStandIn t=false by simpa using List.all_eq_true.1 hall t hm)⟩)
  (by as_aux_lemma=>kernel_rfl)
end Go.Proofs.YtchpjkadpdajkaaGreatDoor
