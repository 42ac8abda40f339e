/- YtkddkpmijhionaaGreatDoorPurePlaceStage: what any core has behind the stage that renames, and puts. No statement of the seat is proved here. -/
import Derived.Test.YtkddkpmijhionaaGreatDoorStage
import Derived.Test.YtkddkpmijhionaaGreatDoorSame
set_option linter.unusedSimpArgs false
set_option linter.unusedVariables false
set_option maxRecDepth 100000
namespace Go.Proofs.YtkddkpmijhionaaGreatDoor
open Go Go.A2
theorem awake45:F_law45_awake=some true:=by kernel_rfl
theorem len_fuel {b:Nat} {α:Type} (s:Sl b α):s.l.length < fuel:=by
 have:=s.h.2
 unfold room at this
 show _ < 281474976710656
 omega
theorem same_core (a:TCore):F_same_Core a a=some true:=by
 have e1:Tab.eq tab (.named .TConf) a.Conf a.Conf=true:=(eq_iff (X:=tab) tabOk (by rfl)).2 rfl
 have e2:Tab.eq tab (.named .TArch) a.A a.A=true:=(eq_iff (X:=tab) tabOk (by rfl)).2 rfl
 have e3:Tab.eq tab (.arr 16 (.int .i64)) a.Names.Map a.Names.Map=true:=(eq_iff (X:=tab) tabOk (by rfl)).2 rfl
 have e4:Tab.eq tab (.arr 16 (.int .i64)) a.Names.Done a.Names.Done=true:=(eq_iff (X:=tab) tabOk (by rfl)).2 rfl
 unfold F_same_Core T_same_Core F_same_Pred T_same_Pred F_same_Rename T_same_Rename F_same_Free T_same_Free F_same_Phys T_same_Phys
 simp only [ev_opt,ev_ite,ev_ret,e1,e2,e3,e4,W.ne_self,W.eq_self,beqB_self,Bool.not_true,Bool.false_eq_true,if_false,if_true,bind_some',self_same_Bytes _ (len_fuel _),self_same_Words _ (len_fuel _),self_same_Btbs _ (len_fuel _),self_same_Tlbs _ (len_fuel _),self_same_Slots _ (len_fuel _),self_same_Ints _ (len_fuel _),self_same_Bools _ (len_fuel _),
  self_same_Robs _ (len_fuel _),self_same_Iqs _ (len_fuel _),self_same_Lqs _ (len_fuel _),self_same_Sqs _ (len_fuel _),self_same_Sbs _ (len_fuel _),self_same_Flights _ (len_fuel _)]
theorem placeStage (c:TCore) (t:TTick):F_law45_PlaceStage c t=some true:=by
 obtain ⟨b,hL,hl⟩:=light45 c
 unfold F_law45_PlaceStage T_law45_PlaceStage
 simp only [ev_opt,ev_ite,ev_ret,hL,bind_some',awake45]
 cases b with
 | false=>rfl
 | true=>
  obtain ⟨d,ns,ns',s1,s2,s3⟩:=stage_eq c t (hl rfl)
  obtain rfl:ns=ns':=Sl.ext s3
  simp only [Bool.not_true,Bool.false_eq_true,if_false,s1,s2,bind_some',same_core,self_same_Notes _ (len_fuel _),if_true]
end Go.Proofs.YtkddkpmijhionaaGreatDoor
