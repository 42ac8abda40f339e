/- Of any core and any parts, whether there is room for them is what the document says. -/
import Derived.Test.YtkddkpmijhionaaDoorOk
import Derived.Test.YtkddkpmijhionaaDoorRows
import Derived.Test.YtkddkpmijhionaaDoorCards
import Derived.Test.YtkddkpmijhionaaDoorTie
import Derived.Test.YtkddkpmijhionaaDoorPlain0
import Derived.Test.YtkddkpmijhionaaDoorA2E
import Derived.LaidMore
import Derived.Stop.Joined
import Derived.SevenTiedAt
set_option linter.unusedSimpArgs false
set_option linter.unusedVariables false
set_option maxRecDepth 100000
namespace Go.Proofs.YtkddkpmijhionaaDoor
open Go Go.A2
open Go.ChangeShapes Go.WideShapes Go.ChangeAt Go.RowKit
theorem placeFits_own:ownKnob Tryd.prog.godebug=none:=by kernel_rfl
theorem placeFits_laid:laidOutB Tryd.prog=true:=by kernel_rfl
theorem placeFits_fit:fitAll Tryd.prog cx Tryd.f3.params.toList N_law45_PlaceFits.sk=true:=by kernel_rfl
abbrev laidL:List (String×DataW Unit):=[("cotterel/inst.fields",Rows.laid_cotterel_inst_fields)]
theorem placeFits_door (os:Os) (args:Array Value):laidMetH Tryd.prog laidL ((World.doorLaid Tryd.prog 400 os).forCall (fun _ _=>0) ⟨#[],args,[]⟩).memory:=
 laidMetH_of_parts3 (fuel:=8) (laidMet_of_run' 8 (by kernel_rfl) (by kernel_rfl)) (by kernel_rfl) (by kernel_rfl)
theorem placeFits_gl {W:World} (h:laidMetH Tryd.prog laidL W):GlobIn cx.X (· < W.heap.size) W:=fun q hq=>by
 have hq':=List.mem_singleton.1 hq
 subst hq'
 obtain ⟨h1,h2⟩:=glob_arr (P:=Tryd.prog) (name := "cotterel/inst.fields") (g:=0) (t:=128) (e:=3) (n:=12) (k:=.i64) (ks:=[0,7,11,14,14,9,7,9,10,2,0,3]) (by kernel_rfl) (by kernel_rfl) (by kernel_rfl) (by kernel_rfl) (by kernel_rfl) rfl (by decide) h (by kernel_rfl)
 exact ⟨h1,h1,fun j u hj=>by rw [Nat.zero_add];exact h2 j u hj⟩
theorem placeFits_lifted (os:Os) (started:os.Started) (H:Type) (enc:TypeId×Value→H):
  ReturnsInHanded {} Tryd.checked os 3 .any (fun w args=>(Rows.placeFitsSpec.pre enc Tryd.prog Tryd.f3 [] false w args∧laidMetH Tryd.prog laidL w)∧sizedMet enc Tryd.prog Tryd.f3 (OpenSpec.ofChange Rows.placeFitsSpec) false w args) (Rows.placeFitsSpec.post enc Tryd.prog Tryd.f3 false true false false):=by
 refine returnsInHanded_of_change_and (C:=Tryd.checked) (X:=fun w _=>laidMetH Tryd.prog laidL w) (fun _ _ _ hh h=>h.of_heap hh) placeFits_own started (by kernel_rfl) Tryd.func3
  (ChangeSpec.witness_shaped (enc:=enc) (C:=Tryd.checked) (os:=os) (X:=fun w _=>laidMetH Tryd.prog laidL w) false (World.doorLaid Tryd.prog 400 os) #[.agg #[.int .i64 0,.int .i64 0,.int .i64 0,.int .i64 0,.int .i64 0,.int .i64 0,.int .i64 0,.int .i64 0,.int .i64 0,.int .i64 0,.int .i64 0,.int .i64 0,.int .i64 0,.int .i64 0,.int .i64 0,.int .i64 0,.int .i64 0,.int .i64 0,.int .i64 0,.int .i64 0,.int .i64 0,.bool false,.int .u32 0,.int .u32 0,.int .u32 0,.int .u32 0,.int .u32 0,.int .u32 0,.int .u32 0,.int .u32 0,.int .u32 0,.int .u32 0,.int .u32 0,.int .u32 0,.int .u32 0,.int .u32 0,.int .u32 0,.int .u32 0,.int .u32 0,.int .u32 0,.int .u32 0,.int .u32 0,.int .u32 0,.int .u32 0,.int .u32 0,.int .u32 0,.int .u32 0,.int .u32 0,.int .u32 0,.int .u32 0,.int .u32 0,.bool false,.slice none 0 0,.slice none 0 0,.int .u32 0,.bool false,.int .u32 0,.slice none 0 0,.slice none 0 0,.int .i64 0,.slice none 0 0,.int .i64 0,.slice none 0 0,.int .i64 0,.slice none 0 0,.int .i64 0,.int .i64 0,.int .i64 0,.int .i64 0,.int .i64 0,.int .i64 0,.int .i64 0,.int .i64 0,.int .i64 0,.int .i64 0,.int .i64 0,.int .i64 0,.int .i64 0,.int .i64 0,.int .i64 0,.int .i64 0,.int .i64 0,.int .i64 0,.int .i64 0,.int .i64 0,.int .i64 0,.int .i64 0,.int .i64 0,.int .i64 0,.int .i64 0,.int .i64 0,.int .i64 0,.int .i64 0,.int .i64 0,.int .i64 0,.int .i64 0,.int .i64 0,.slice none 0 0,.int .i64 0,.int .i64 0,.int .u64 0,.slice none 0 0,.slice none 0 0,.slice none 0 0,.slice none 0 0,.slice none 0 0,.slice none 0 0,.slice none 0 0,.slice none 0 0,.slice none 0 0,.int .i64 0,.int .i64 0],.slice none 0 0] 8 rfl (World.shaped_of_RefB (by kernel_rfl) (by kernel_rfl)) (by kernel_rfl) (by kernel_rfl) (by kernel_rfl) (placeFits_door os _)) ?_
 intro W base args ds gs before hval hW _ hz hL _
 exact lift_law (C:=Tryd.checked) tabOk placeFits_laid rfl (fun H ds hd=>match ds,hd with | [_,_],_=>rfl) rfl (by kernel_rfl) (by kernel_rfl) placeFits_fit s_law45_PlaceFits (fun d=>⟨true,placeFits _ _,rfl⟩) hval hW hz (placeFits_gl hL)
theorem placeFits_holds:Rows.PlaceFitsSaid:=
 OpenClaim.holds_of_wide 3 Tryd.f3 rfl rfl rfl rfl rfl rfl rfl ⟨rfl,rfl,rfl,rfl,rfl⟩ rfl rfl rfl rfl rfl (by kernel_rfl) Tryd.func3 (by kernel_rfl)
  (of_decide_eq_true (by kernel_rfl)) (by unfold Func.isWrapper;first | (rw [if_pos (by decide +kernel)];kernel_rfl) | (rw [if_neg (by decide +kernel)];exact ⟨rfl,rfl⟩))
  (fun os started H enc _=>placeFits_lifted os started H enc)
theorem placeFits_card:Rows.PlaceFitsCardSaid:=
 Claim7.holds_tied_plain_at .later [] [.data] true (true, "96b6eed54b9d9c91ddde414dc5e758f34c9fd3e376119ebc7119c189330cd325") false
  placeFits_holds (fun _ h=>by cases h) (by kernel_rfl) (fun _ h=>by cases h) placeFits_row_tie rfl ⟨rfl,rfl⟩ (by kernel_rfl) rfl
  (fun f fn hf hfn=>by
   obtain rfl:f=3:=Option.some.inj ((show Tryd.prog.funcNamed "cotterel/cotterellaw45.PlaceFits"=some 3 by kernel_rfl).symm.trans hf) |>.symm
   obtain rfl:fn=Tryd.f3:=(Option.some.inj (Tryd.func3.symm.trans hfn)).symm
   exact ⟨by kernel_rfl,fun j t ht=>by
    have hm:t∈[54,55]:=by
     have h:=Array.mem_of_getElem? ht
     have e:Tryd.f3.params=#[54,55]:=rfl
     rw [e] at h
     simpa using h
    have hall:([54,55].all fun u=>!Tryd.prog.wantsStandIn u)=true:=by kernel_rfl
    exact (show Tryd.prog.wantsStandIn t=false by simpa using List.all_eq_true.1 hall t hm)⟩)
  (by kernel_rfl)
end Go.Proofs.YtkddkpmijhionaaDoor
