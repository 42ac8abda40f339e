/- The event of any entries: the program tells what the document tells. -/
import Derived.Test.YtchpjkadpdajkaaGreatDoorOk
import Derived.Test.YtchpjkadpdajkaaGreatDoorRows
import Derived.Test.YtchpjkadpdajkaaGreatDoorCards
import Derived.Test.YtchpjkadpdajkaaGreatDoorTie
import Derived.Test.YtchpjkadpdajkaaGreatDoorPlain0
import Derived.Test.YtchpjkadpdajkaaGreatDoorA2E
import Derived.LaidMore
import Derived.Stop.Joined
import Derived.SevenTiedAt
set_option linter.unusedSimpArgs false
set_option linter.unusedVariables false
set_option maxRecDepth 100000
namespace Go.Proofs.YtchpjkadpdajkaaGreatDoor
open Go Go.A2
open Go.ChangeShapes Go.WideShapes Go.ChangeAt Go.RowKit
theorem retireTells_own:ownKnob Tryz.prog.godebug=none:=by kernel_rfl
theorem retireTells_laid:laidOutB Tryz.prog=true:=by kernel_rfl
theorem retireTells_fit:fitAll Tryz.prog cx Tryz.f4.params.toList N_law48_RetireTells.sk=true:=by kernel_rfl
abbrev laidL:List (String×DataW Unit):=[("cotterel/inst.fields",Rows.laid_cotterel_inst_fields)]
theorem retireTells_door (os:Os) (args:Array Value):laidMetH Tryz.prog laidL ((World.doorLaid Tryz.prog 400 os).forCall (fun _ _=>0) ⟨#[],args,[]⟩).memory:=
 laidMetH_of_parts3 (fuel:=8) (laidMet_of_run' 8 (by kernel_rfl) (by kernel_rfl)) (by kernel_rfl) (by kernel_rfl)
theorem retireTells_gl {W:World} (h:laidMetH Tryz.prog laidL W):GlobIn cx.X (· < W.heap.size) W:=fun q hq=>by
 have hq':=List.mem_singleton.1 hq
 subst hq'
 obtain ⟨h1,h2⟩:=glob_arr (P:=Tryz.prog) (name := "cotterel/inst.fields") (g:=0) (t:=278) (e:=3) (n:=12) (k:=.i64) (ks:=[0,7,11,14,14,9,7,9,10,2,0,3]) (by kernel_rfl) (by kernel_rfl) (by kernel_rfl) (by kernel_rfl) (by kernel_rfl) rfl (by decide) h (by kernel_rfl)
 exact ⟨h1,h1,fun j u hj=>by rw [Nat.zero_add];exact h2 j u hj⟩
theorem retireTells_lifted (os:Os) (started:os.Started) (H:Type) (enc:TypeId×Value→H):
  ReturnsInHanded {} Tryz.checked os 4 .any (fun w args=>(Rows.retireTellsSpec.pre enc Tryz.prog Tryz.f4 [] false w args∧laidMetH Tryz.prog laidL w)∧sizedMet enc Tryz.prog Tryz.f4 (OpenSpec.ofChange Rows.retireTellsSpec) false w args) (Rows.retireTellsSpec.post enc Tryz.prog Tryz.f4 false true false false):=by
 refine returnsInHanded_of_change_and (C:=Tryz.checked) (X:=fun w _=>laidMetH Tryz.prog laidL w) (fun _ _ _ hh h=>h.of_heap hh) retireTells_own started (by kernel_rfl) Tryz.func4
  (ChangeSpec.witness_shaped (enc:=enc) (C:=Tryz.checked) (os:=os) (X:=fun w _=>laidMetH Tryz.prog laidL w) false (World.doorLaid Tryz.prog 400 os) #[.slice none 0 0,.agg #[.int .u32 0,.int .u32 0,.int .u32 0,.int .u32 0,.int .u32 0,.int .u32 0,.int .u32 0,.int .u32 0,.int .u32 0,.int .u32 0,.int .u32 0,.int .u32 0,.int .u32 0,.int .u32 0,.int .u32 0,.int .u32 0,.int .u32 0,.int .u32 0,.int .u32 0,.int .u32 0,.int .u32 0,.int .u32 0,.int .u32 0,.int .u32 0,.int .u32 0,.int .u32 0,.int .u32 0,.int .u32 0,.int .u32 0,.bool false]] 8 rfl (World.shaped_of_RefB (by kernel_rfl) (by kernel_rfl)) (by kernel_rfl) (by kernel_rfl) (by kernel_rfl) (retireTells_door os _)) ?_
 intro W base args ds gs before hval hW _ hz hL _
 exact lift_law (C:=Tryz.checked) tabOk retireTells_laid rfl (fun H ds hd=>match ds,hd with | [_,_],_=>rfl) rfl (by kernel_rfl) (by kernel_rfl) retireTells_fit s_law48_RetireTells (fun d=>⟨true,retireTells _ _,rfl⟩) hval hW hz (retireTells_gl hL)
end Go.Proofs.YtchpjkadpdajkaaGreatDoor
