/- Of any core that keeps all rules and any tick, the rules hold behind the stage that renames and puts, which leaves alone what retired, the stores, the units and all that guesses. -/
import Derived.Test.YtkddkpmijhionaaGreatDoorOk
import Derived.Test.YtkddkpmijhionaaGreatDoorRows
import Derived.Test.YtkddkpmijhionaaGreatDoorCards
import Derived.Test.YtkddkpmijhionaaGreatDoorTie
import Derived.Test.YtkddkpmijhionaaGreatDoorPlain0
import Derived.Test.YtkddkpmijhionaaGreatDoorA2E
import Derived.LaidMore
import Derived.Stop.Joined
import Derived.SevenTiedAt
set_option linter.unusedSimpArgs false
set_option linter.unusedVariables false
set_option maxRecDepth 100000
namespace Go.Proofs.YtkddkpmijhionaaGreatDoor
open Go Go.A2
open Go.ChangeShapes Go.WideShapes Go.ChangeAt Go.RowKit
theorem placeKeeps_own:ownKnob Tryz.prog.godebug=none:=by kernel_rfl
theorem placeKeeps_laid:laidOutB Tryz.prog=true:=by kernel_rfl
theorem placeKeeps_fit:fitAll Tryz.prog cx Tryz.f5.params.toList N_law45_PlaceKeeps.sk=true:=by kernel_rfl
abbrev laidL:List (String×DataW Unit):=[("cotterel/inst.fields",Rows.laid_cotterel_inst_fields)]
theorem placeKeeps_door (os:Os) (args:Array Value):laidMetH Tryz.prog laidL ((World.doorLaid Tryz.prog 400 os).forCall (fun _ _=>0) ⟨#[],args,[]⟩).memory:=
 laidMetH_of_parts3 (fuel:=8) (laidMet_of_run' 8 (by kernel_rfl) (by kernel_rfl)) (by kernel_rfl) (by kernel_rfl)
theorem placeKeeps_gl {W:World} (h:laidMetH Tryz.prog laidL W):GlobIn cx.X (· < W.heap.size) W:=fun q hq=>by
 have hq':=List.mem_singleton.1 hq
 subst hq'
 obtain ⟨h1,h2⟩:=glob_arr (P:=Tryz.prog) (name := "cotterel/inst.fields") (g:=0) (t:=218) (e:=3) (n:=12) (k:=.i64) (ks:=[0,7,11,14,14,9,7,9,10,2,0,3]) (by kernel_rfl) (by kernel_rfl) (by kernel_rfl) (by kernel_rfl) (by kernel_rfl) rfl (by decide) h (by kernel_rfl)
 exact ⟨h1,h1,fun j u hj=>by rw [Nat.zero_add];exact h2 j u hj⟩
theorem placeKeeps_lifted (os:Os) (started:os.Started) (H:Type) (enc:TypeId×Value→H):
  ReturnsInHanded {} Tryz.checked os 5 .any (fun w args=>(Rows.placeKeepsSpec.pre enc Tryz.prog Tryz.f5 [] false w args∧laidMetH Tryz.prog laidL w)∧sizedMet enc Tryz.prog Tryz.f5 (OpenSpec.ofChange Rows.placeKeepsSpec) false w args) (Rows.placeKeepsSpec.post enc Tryz.prog Tryz.f5 false true false false):=by
 refine returnsInHanded_of_change_and (C:=Tryz.checked) (X:=fun w _=>laidMetH Tryz.prog laidL w) (fun _ _ _ hh h=>h.of_heap hh) placeKeeps_own started (by kernel_rfl) Tryz.func5
  (ChangeSpec.witness_shaped (enc:=enc) (C:=Tryz.checked) (os:=os) (X:=fun w _=>laidMetH Tryz.prog laidL w) false (World.doorLaid Tryz.prog 400 os) #[.agg #[.int .i64 0,.int .i64 0,.int .i64 0,.int .i64 0,.int .i64 0,.int .i64 0,.int .i64 0,.int .i64 0,.int .i64 0,.int .i64 0,.int .i64 0,.int .i64 0,.int .i64 0,.int .i64 0,.int .i64 0,.int .i64 0,.int .i64 0,.int .i64 0,.int .i64 0,.int .i64 0,.int .i64 0,.bool false,.int .u32 0,.int .u32 0,.int .u32 0,.int .u32 0,.int .u32 0,.int .u32 0,.int .u32 0,.int .u32 0,.int .u32 0,.int .u32 0,.int .u32 0,.int .u32 0,.int .u32 0,.int .u32 0,.int .u32 0,.int .u32 0,.int .u32 0,.int .u32 0,.int .u32 0,.int .u32 0,.int .u32 0,.int .u32 0,.int .u32 0,.int .u32 0,.int .u32 0,.int .u32 0,.int .u32 0,.int .u32 0,.int .u32 0,.bool false,.slice none 0 0,.slice none 0 0,.int .u32 0,.bool false,.int .u32 0,.slice none 0 0,.slice none 0 0,.int .i64 0,.slice none 0 0,.int .i64 0,.slice none 0 0,.int .i64 0,.slice none 0 0,.int .i64 0,.int .i64 0,.int .i64 0,.int .i64 0,.int .i64 0,.int .i64 0,.int .i64 0,.int .i64 0,.int .i64 0,.int .i64 0,.int .i64 0,.int .i64 0,.int .i64 0,.int .i64 0,.int .i64 0,.int .i64 0,.int .i64 0,.int .i64 0,.int .i64 0,.int .i64 0,.int .i64 0,.int .i64 0,.int .i64 0,.int .i64 0,.int .i64 0,.int .i64 0,.int .i64 0,.int .i64 0,.int .i64 0,.int .i64 0,.int .i64 0,.int .i64 0,.slice none 0 0,.int .i64 0,.int .i64 0,.int .u64 0,.slice none 0 0,.slice none 0 0,.slice none 0 0,.slice none 0 0,.slice none 0 0,.slice none 0 0,.slice none 0 0,.slice none 0 0,.slice none 0 0,.int .i64 0,.int .i64 0],.agg #[.int .u32 0,.int .u32 0,.int .i64 0,.bool false,.int .i64 0]] 8 rfl (World.shaped_of_RefB (by kernel_rfl) (by kernel_rfl)) (by kernel_rfl) (by kernel_rfl) (by kernel_rfl) (placeKeeps_door os _)) ?_
 intro W base args ds gs before hval hW _ hz hL _
 exact lift_law (C:=Tryz.checked) tabOk placeKeeps_laid rfl (fun H ds hd=>match ds,hd with | [_,_],_=>rfl) rfl (by kernel_rfl) (by kernel_rfl) placeKeeps_fit s_law45_PlaceKeeps (fun d=>⟨true,placeKeeps _ _,rfl⟩) hval hW hz (placeKeeps_gl hL)
theorem placeKeeps_holds:Rows.PlaceKeepsSaid:=
 OpenClaim.holds_of_wide 5 Tryz.f5 rfl rfl rfl rfl rfl rfl rfl ⟨rfl,rfl,rfl,rfl,rfl⟩ rfl rfl rfl rfl rfl (by kernel_rfl) Tryz.func5 (by kernel_rfl)
  (of_decide_eq_true (by kernel_rfl)) (by unfold Func.isWrapper;first | (rw [if_pos (by decide +kernel)];kernel_rfl) | (rw [if_neg (by decide +kernel)];exact ⟨rfl,rfl⟩))
  (fun os started H enc _=>placeKeeps_lifted os started H enc)
theorem placeKeeps_card:Rows.PlaceKeepsCardSaid:=
 Claim7.holds_tied_plain_at .later [] [.data] true (true, "d79055b58fcab8e45ca7f2931bebe3d0096271ed6932a40516a459ebbea6c31e") false
  placeKeeps_holds (fun _ h=>by cases h) (by kernel_rfl) (fun _ h=>by cases h) placeKeeps_row_tie rfl ⟨rfl,rfl⟩ (by kernel_rfl) rfl
  (fun f fn hf hfn=>by
   obtain rfl:f=5:=Option.some.inj ((show Tryz.prog.funcNamed "cotterel/cotterellaw45.PlaceKeeps"=some 5 by kernel_rfl).symm.trans hf) |>.symm
   obtain rfl:fn=Tryz.f5:=(Option.some.inj (Tryz.func5.symm.trans hfn)).symm
   exact ⟨by kernel_rfl,fun j t ht=>by
    have hm:t∈[54,56]:=by
     have h:=Array.mem_of_getElem? ht
     have e:Tryz.f5.params=#[54,56]:=rfl
     rw [e] at h
     simpa using h
    have hall:([54,56].all fun u=>!Tryz.prog.wantsStandIn u)=true:=by kernel_rfl
    exact (show Tryz.prog.wantsStandIn t=false by simpa using List.all_eq_true.1 hall t hm)⟩)
  (by kernel_rfl)
end Go.Proofs.YtkddkpmijhionaaGreatDoor
