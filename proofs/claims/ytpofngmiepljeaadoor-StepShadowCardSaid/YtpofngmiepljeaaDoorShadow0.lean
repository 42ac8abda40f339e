/- Of any machine, what is fetched hangs on the shadow alone. -/
import Derived.Test.YtpofngmiepljeaaDoorOk
import Derived.Test.YtpofngmiepljeaaDoorRows
import Derived.Test.YtpofngmiepljeaaDoorCards
import Derived.Test.YtpofngmiepljeaaDoorTie
import Derived.Test.YtpofngmiepljeaaDoorPlain0
import Derived.Test.YtpofngmiepljeaaDoorA2E
import Derived.LaidMore
import Derived.Stop.Joined
import Derived.SevenTiedAt
set_option linter.unusedSimpArgs false
set_option linter.unusedVariables false
set_option maxRecDepth 100000
namespace Go.Proofs.YtpofngmiepljeaaDoor
open Go Go.A2
open Go.ChangeShapes Go.WideShapes Go.ChangeAt Go.RowKit
theorem stepShadow_own:ownKnob Tryd.prog.godebug=none:=by kernel_rfl
theorem stepShadow_laid:laidOutB Tryd.prog=true:=by kernel_rfl
theorem stepShadow_fit:fitAll Tryd.prog cx Tryd.f4.params.toList N_law15_StepShadow.sk=true:=by kernel_rfl
abbrev laidL:List (String×DataW Unit):=[("cotterel/inst.fields",Rows.laid_cotterel_inst_fields)]
theorem stepShadow_door (os:Os) (args:Array Value):laidMetH Tryd.prog laidL ((World.doorLaid Tryd.prog 400 os).forCall (fun _ _=>0) ⟨#[],args,[]⟩).memory:=
 laidMetH_of_parts3 (fuel:=8) (laidMet_of_run' 8 (by kernel_rfl) (by kernel_rfl)) (by kernel_rfl) (by kernel_rfl)
theorem stepShadow_gl {W:World} (h:laidMetH Tryd.prog laidL W):GlobIn cx.X (· < W.heap.size) W:=fun q hq=>by
 have hq':=List.mem_singleton.1 hq
 subst hq'
 obtain ⟨h1,h2⟩:=glob_arr (P:=Tryd.prog) (name := "cotterel/inst.fields") (g:=0) (t:=93) (e:=3) (n:=12) (k:=.i64) (ks:=[0,7,11,14,14,9,7,9,10,2,0,3]) (by kernel_rfl) (by kernel_rfl) (by kernel_rfl) (by kernel_rfl) (by kernel_rfl) rfl (by decide) h (by kernel_rfl)
 exact ⟨h1,h1,fun j u hj=>by rw [Nat.zero_add];exact h2 j u hj⟩
theorem stepShadow_lifted (os:Os) (started:os.Started) (H:Type) (enc:TypeId×Value→H):
  ReturnsInHanded {} Tryd.checked os 4 .any (fun w args=>(Rows.stepShadowSpec.pre enc Tryd.prog Tryd.f4 [] false w args∧laidMetH Tryd.prog laidL w)∧sizedMet enc Tryd.prog Tryd.f4 (OpenSpec.ofChange Rows.stepShadowSpec) false w args) (Rows.stepShadowSpec.post enc Tryd.prog Tryd.f4 false true false false):=by
 refine returnsInHanded_of_change_and (C:=Tryd.checked) (X:=fun w _=>laidMetH Tryd.prog laidL w) (fun _ _ _ hh h=>h.of_heap hh) stepShadow_own started (by kernel_rfl) Tryd.func4
  (ChangeSpec.witness_shaped (enc:=enc) (C:=Tryd.checked) (os:=os) (X:=fun w _=>laidMetH Tryd.prog laidL w) false (World.doorLaid Tryd.prog 400 os) #[.agg #[.int .u32 0,.int .u32 0,.int .u32 0,.int .u32 0,.int .u32 0,.int .u32 0,.int .u32 0,.int .u32 0,.int .u32 0,.int .u32 0,.int .u32 0,.int .u32 0,.int .u32 0,.int .u32 0,.int .u32 0,.int .u32 0,.int .u32 0,.int .u32 0,.int .u32 0,.int .u32 0,.int .u32 0,.int .u32 0,.int .u32 0,.int .u32 0,.int .u32 0,.int .u32 0,.int .u32 0,.int .u32 0,.int .u32 0,.bool false,.slice none 0 0,.slice none 0 0,.slice none 0 0],.slice none 0 0] 8 rfl (World.shaped_of_RefB (by kernel_rfl) (by kernel_rfl)) (by kernel_rfl) (by kernel_rfl) (by kernel_rfl) (stepShadow_door os _)) ?_
 intro W base args ds gs before hval hW _ hz hL _
 exact lift_law (C:=Tryd.checked) tabOk stepShadow_laid rfl (fun H ds hd=>match ds,hd with | [_,_],_=>rfl) rfl (by kernel_rfl) (by kernel_rfl) stepShadow_fit s_law15_StepShadow (fun d=>⟨true,stepShadow _ _,rfl⟩) hval hW hz (stepShadow_gl hL)
theorem stepShadow_holds:Rows.StepShadowSaid:=
 OpenClaim.holds_of_wide 4 Tryd.f4 rfl rfl rfl rfl rfl rfl rfl ⟨rfl,rfl,rfl,rfl,rfl⟩ rfl rfl rfl rfl rfl (by kernel_rfl) Tryd.func4 (by kernel_rfl)
  (of_decide_eq_true (by kernel_rfl)) (by unfold Func.isWrapper;first | (rw [if_pos (by decide +kernel)];kernel_rfl) | (rw [if_neg (by decide +kernel)];exact ⟨rfl,rfl⟩))
  (fun os started H enc _=>stepShadow_lifted os started H enc)
theorem stepShadow_card:Rows.StepShadowCardSaid:=
 Claim7.holds_tied_plain_at .later [] [.data] true (true, "814c6e333e56da3e1be3c093d99ff35346a9c6e39bad1085986ccdc4bef1567d") false
  stepShadow_holds (fun _ h=>by cases h) (by kernel_rfl) (fun _ h=>by cases h) stepShadow_row_tie rfl ⟨rfl,rfl⟩ (by kernel_rfl) rfl
  (fun f fn hf hfn=>by
   obtain rfl:f=4:=Option.some.inj ((show Tryd.prog.funcNamed "cotterel/cotterellaw15.StepShadow"=some 4 by kernel_rfl).symm.trans hf) |>.symm
   obtain rfl:fn=Tryd.f4:=(Option.some.inj (Tryd.func4.symm.trans hfn)).symm
   exact ⟨by kernel_rfl,fun j t ht=>by
    have hm:t∈[30,27]:=by
     have h:=Array.mem_of_getElem? ht
     have e:Tryd.f4.params=#[30,27]:=rfl
     rw [e] at h
     simpa using h
    have hall:([30,27].all fun u=>!Tryd.prog.wantsStandIn u)=true:=by kernel_rfl
    exact (show Tryd.prog.wantsStandIn t=false by simpa using List.all_eq_true.1 hall t hm)⟩)
  (by kernel_rfl)
end Go.Proofs.YtpofngmiepljeaaDoor
