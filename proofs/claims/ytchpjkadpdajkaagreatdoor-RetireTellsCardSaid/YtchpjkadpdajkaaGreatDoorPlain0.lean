/- YtchpjkadpdajkaaGreatDoorPureRetireTells: the event of any entries. No statement of the seat is proved here. -/
import Derived.Test.YtchpjkadpdajkaaGreatDoorTells1
import Derived.Test.YtchpjkadpdajkaaGreatDoorAwake
set_option linter.unusedSimpArgs false
set_option linter.unusedVariables false
namespace Go.Proofs.YtchpjkadpdajkaaGreatDoor
open Go Go.A2
theorem retireTells (l:Sl 248 TRob) (a:TArch):F_law48_RetireTells l a=some true:=by
 obtain ⟨v,v1,v2⟩:=event_same l a
 have hv:Tab.eq tab (.named .TEvent) v v=true:=(eq_iff (X:=tab) tabOk (by rfl)).2 rfl
 unfold F_law48_RetireTells T_law48_RetireTells
 simp only [ev_ite,ev_opt,ev_ret,awake48,v1,v2,bind_some',hv,if_true]
 split<;>rfl
end Go.Proofs.YtchpjkadpdajkaaGreatDoor
