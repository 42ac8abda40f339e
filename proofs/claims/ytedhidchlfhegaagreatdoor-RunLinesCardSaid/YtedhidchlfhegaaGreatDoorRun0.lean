/- Of any event, the line is the document's; two events are the same if they are equal; and where lists of events part is where the document says. -/
import Derived.Test.YtedhidchlfhegaaGreatDoorOk
import Derived.Test.YtedhidchlfhegaaGreatDoorRows
import Derived.Test.YtedhidchlfhegaaGreatDoorCards
import Derived.Test.YtedhidchlfhegaaGreatDoorTie
import Derived.Test.YtedhidchlfhegaaGreatDoorPlain0
import Derived.Test.YtedhidchlfhegaaGreatDoorA2E
import Derived.LaidMore
import Derived.Stop.Joined
import Derived.SevenTiedAt
set_option linter.unusedSimpArgs false
set_option linter.unusedVariables false
set_option maxRecDepth 100000
namespace Go.Proofs.YtedhidchlfhegaaGreatDoor
open Go Go.A2
open Go.ChangeShapes Go.WideShapes Go.ChangeAt Go.RowKit
theorem runLines_own:ownKnob Tryz.prog.godebug=none:=by kernel_rfl
theorem runLines_laid:laidOutB Tryz.prog=true:=by kernel_rfl
theorem runLines_fit:fitAll Tryz.prog cx Tryz.f4.params.toList N_law16_RunLines.sk=true:=by kernel_rfl
abbrev laidL:List (String×DataW Unit):=[("cotterel/inst.fields",Rows.laid_cotterel_inst_fields)]
theorem runLines_door (os:Os) (args:Array Value):laidMetH Tryz.prog laidL ((World.doorLaid Tryz.prog 400 os).forCall (fun _ _=>0) ⟨#[],args,[]⟩).memory:=
 laidMetH_of_parts3 (fuel:=8) (laidMet_of_run' 8 (by kernel_rfl) (by kernel_rfl)) (by kernel_rfl) (by kernel_rfl)
theorem runLines_gl {W:World} (h:laidMetH Tryz.prog laidL W):GlobIn cx.X (· < W.heap.size) W:=fun q hq=>by
 have hq':=List.mem_singleton.1 hq
 subst hq'
 obtain ⟨h1,h2⟩:=glob_arr (P:=Tryz.prog) (name := "cotterel/inst.fields") (g:=0) (t:=118) (e:=3) (n:=12) (k:=.i64) (ks:=[0,7,11,14,14,9,7,9,10,2,0,3]) (by kernel_rfl) (by kernel_rfl) (by kernel_rfl) (by kernel_rfl) (by kernel_rfl) rfl (by decide) h (by kernel_rfl)
 exact ⟨h1,h1,fun j u hj=>by rw [Nat.zero_add];exact h2 j u hj⟩
theorem runLines_lifted (os:Os) (started:os.Started) (H:Type) (enc:TypeId×Value→H):
  ReturnsInHanded {} Tryz.checked os 4 .any (fun w args=>(Rows.runLinesSpec.pre enc Tryz.prog Tryz.f4 [] false w args∧laidMetH Tryz.prog laidL w)∧sizedMet enc Tryz.prog Tryz.f4 (OpenSpec.ofChange Rows.runLinesSpec) false w args) (Rows.runLinesSpec.post enc Tryz.prog Tryz.f4 false true false false):=by
 refine returnsInHanded_of_change_and (C:=Tryz.checked) (X:=fun w _=>laidMetH Tryz.prog laidL w) (fun _ _ _ hh h=>h.of_heap hh) runLines_own started (by kernel_rfl) Tryz.func4
  (ChangeSpec.witness_shaped (enc:=enc) (C:=Tryz.checked) (os:=os) (X:=fun w _=>laidMetH Tryz.prog laidL w) false (World.doorLaid Tryz.prog 400 os) #[.agg #[.int .u32 0,.int .u32 0,.int .i64 0,.int .u32 0,.int .i64 0,.int .u32 0,.int .i64 0,.int .u32 0,.int .u32 0,.int .i64 0,.int .u32 0,.int .u32 0],.agg #[.int .u32 0,.int .u32 0,.int .i64 0,.int .u32 0,.int .i64 0,.int .u32 0,.int .i64 0,.int .u32 0,.int .u32 0,.int .i64 0,.int .u32 0,.int .u32 0],.slice none 0 0] 8 rfl (World.shaped_of_RefB (by kernel_rfl) (by kernel_rfl)) (by kernel_rfl) (by kernel_rfl) (by kernel_rfl) (runLines_door os _)) ?_
 intro W base args ds gs before hval hW _ hz hL _
 exact lift_law (C:=Tryz.checked) tabOk runLines_laid rfl (fun H ds hd=>match ds,hd with | [_,_,_],_=>rfl) rfl (by kernel_rfl) (by kernel_rfl) runLines_fit s_law16_RunLines (fun d=>⟨true,runLines _ _ _,rfl⟩) hval hW hz (runLines_gl hL)
theorem runLines_holds:Rows.RunLinesSaid:=
 OpenClaim.holds_of_wide 4 Tryz.f4 rfl rfl rfl rfl rfl rfl rfl ⟨rfl,rfl,rfl,rfl,rfl⟩ rfl rfl rfl rfl rfl (by kernel_rfl) Tryz.func4 (by kernel_rfl)
  (of_decide_eq_true (by kernel_rfl)) (by unfold Func.isWrapper;first | (rw [if_pos (by decide +kernel)];kernel_rfl) | (rw [if_neg (by decide +kernel)];exact ⟨rfl,rfl⟩))
  (fun os started H enc _=>runLines_lifted os started H enc)
theorem runLines_card:Rows.RunLinesCardSaid:=
 Claim7.holds_tied_plain_at .later [] [.data] true (true, "7584ab9972c6d7b723d0c7743e5a5789871bb8469b39d9715066f09ec015f1d4") false
  runLines_holds (fun _ h=>by cases h) (by kernel_rfl) (fun _ h=>by cases h) runLines_row_tie rfl ⟨rfl,rfl⟩ (by kernel_rfl) rfl
  (fun f fn hf hfn=>by
   obtain rfl:f=4:=Option.some.inj ((show Tryz.prog.funcNamed "cotterel/cotterellaw16.RunLines"=some 4 by kernel_rfl).symm.trans hf) |>.symm
   obtain rfl:fn=Tryz.f4:=(Option.some.inj (Tryz.func4.symm.trans hfn)).symm
   exact ⟨by kernel_rfl,fun j t ht=>by
    have hm:t∈[42,42,35]:=by
     have h:=Array.mem_of_getElem? ht
     have e:Tryz.f4.params=#[42,42,35]:=rfl
     rw [e] at h
     simpa using h
    have hall:([42,42,35].all fun u=>!Tryz.prog.wantsStandIn u)=true:=by kernel_rfl
    exact (show Tryz.prog.wantsStandIn t=false by simpa using List.all_eq_true.1 hall t hm)⟩)
  (by kernel_rfl)
end Go.Proofs.YtedhidchlfhegaaGreatDoor
