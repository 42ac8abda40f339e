/-
  NARROWER THAN 'FOR EVERY INPUT', by the rows' own cells (each row's printed sentence says how): RetireStage: laid · RetireTells: laid · RetireAlone: laid · RetireEnds: laid · RetireReplays: laid.
  DERIVED. THE GIVEN ROWS OF THIS SEAT. 5 by the template 'for every input the law returns true; each argument reads behind the call as it read before'; 0 by the template 'total and deterministic' (their statements: YtchpjkadpdajkaaGreatDoorTotals.lean).
  GIVEN WITH THE SEED: the statements are not yours to turn. If you find one false, say at which input.
  Laid BY PROGRAM, IN A SANDBOX (cutbox-rows.mjs): the forced cells as the released guide's own fill.sh prints them over the translation de4acf568e7d1327… (all of the seat's roots in one cut). By AI agents, Wed Nov 11 2026. No macro, syntax, notation, axiom, sorry.
-/
import Derived.Test.YtchpjkadpdajkaaGreatDoorChecked
import GoSem.Claim
import GoSem.ClaimJoined
import GoSem.ClaimMapViews
import Derived.JoinedTies
import Derived.KernelRfl
namespace Go.Proofs.YtchpjkadpdajkaaGreatDoor
/- THE CELL 'sum', in the pinned program and in every row, IS THE sha256 OF THE DUMP (.gsa) THAT YtchpjkadpdajkaaGreatDoorProg.lean LOADS. Nothing in Lean hashes anything: it is a label: what it is worth is what the hold of that sum in a sandbox is worth. -/
noncomputable def Tryz.pinned : Pinned := { name := "ytchpjkadpdajkaagreatdoor", sum := "de4acf568e7d132781970cceb708ed348b05fbcb2273fb0ceb0157c8dd715d9a", checked := Tryz.checked }
namespace Rows
def none {H : Type} : Left H := { results := [], args := [] }

/- WHAT THE LISTED PACKAGE-LEVEL VARIABLES READ AS WHEN THE CALL BEGINS. Each datum BY PROGRAM (the guide's laid-datum.mjs) off the statement by which the dump's own 'gosem.cut.vars' lays the variable. In a bare row this is a premise. The card (YtchpjkadpdajkaaGreatDoorCards.lean) ties it to the program's text. -/
def laid_cotterel_inst_fields {H : Type} : DataW H := .agg [.lit (.int .i64 0), .lit (.int .i64 7), .lit (.int .i64 11), .lit (.int .i64 14), .lit (.int .i64 14), .lit (.int .i64 9), .lit (.int .i64 7), .lit (.int .i64 9), .lit (.int .i64 10), .lit (.int .i64 2), .lit (.int .i64 0), .lit (.int .i64 3)]

/-- 'cotterellaw48.RetireStage': WHATEVER THE INPUT: true; the input reads as it did. -/
def retireStageSpec : ChangeSpec := { name := "retireStage", fn := fun _ => fun
  | [d1, d2, d3] => { results := [.lit (.bool true)], args := [d1, d2, d3] }
  | _ => none }
def retireStageRow : OpenClaim := { program := "ytchpjkadpdajkaagreatdoor", sum := "de4acf568e7d132781970cceb708ed348b05fbcb2273fb0ceb0157c8dd715d9a", func := "cotterel/cotterellaw48.RetireStage", spec := "retireStage", unfollowed := true, recurses := true, named := ["cotterel/inst.fields"], apart := false, laid := [("cotterel/inst.fields", laid_cotterel_inst_fields)] }
def RetireStageSaid : Prop := retireStageRow.holds Tryz.pinned (OpenSpec.ofChange retireStageSpec)

/-- ITS FALSE NEIGHBOUR: 'it returns false'. Refute it at one input. -/
def retireStageWrong : ChangeSpec := { name := "retireStage", fn := fun _ => fun
  | [d1, d2, d3] => { results := [.lit (.bool false)], args := [d1, d2, d3] }
  | _ => none }
def RetireStageWrongFalsely : Prop := retireStageRow.holds Tryz.pinned (OpenSpec.ofChange retireStageWrong)

/-- 'cotterellaw48.RetireTells': WHATEVER THE INPUT: true; the input reads as it did. -/
def retireTellsSpec : ChangeSpec := { name := "retireTells", fn := fun _ => fun
  | [d1, d2] => { results := [.lit (.bool true)], args := [d1, d2] }
  | _ => none }
def retireTellsRow : OpenClaim := { program := "ytchpjkadpdajkaagreatdoor", sum := "de4acf568e7d132781970cceb708ed348b05fbcb2273fb0ceb0157c8dd715d9a", func := "cotterel/cotterellaw48.RetireTells", spec := "retireTells", unfollowed := true, recurses := true, named := ["cotterel/inst.fields"], apart := false, laid := [("cotterel/inst.fields", laid_cotterel_inst_fields)] }
def RetireTellsSaid : Prop := retireTellsRow.holds Tryz.pinned (OpenSpec.ofChange retireTellsSpec)

/-- ITS FALSE NEIGHBOUR: 'it returns false'. Refute it at one input. -/
def retireTellsWrong : ChangeSpec := { name := "retireTells", fn := fun _ => fun
  | [d1, d2] => { results := [.lit (.bool false)], args := [d1, d2] }
  | _ => none }
def RetireTellsWrongFalsely : Prop := retireTellsRow.holds Tryz.pinned (OpenSpec.ofChange retireTellsWrong)

/-- 'cotterellaw48.RetireAlone': WHATEVER THE INPUT: true; the input reads as it did. -/
def retireAloneSpec : ChangeSpec := { name := "retireAlone", fn := fun _ => fun
  | [d1, d2, d3] => { results := [.lit (.bool true)], args := [d1, d2, d3] }
  | _ => none }
def retireAloneRow : OpenClaim := { program := "ytchpjkadpdajkaagreatdoor", sum := "de4acf568e7d132781970cceb708ed348b05fbcb2273fb0ceb0157c8dd715d9a", func := "cotterel/cotterellaw48.RetireAlone", spec := "retireAlone", unfollowed := true, recurses := true, named := ["cotterel/inst.fields"], apart := false, laid := [("cotterel/inst.fields", laid_cotterel_inst_fields)] }
def RetireAloneSaid : Prop := retireAloneRow.holds Tryz.pinned (OpenSpec.ofChange retireAloneSpec)

/-- ITS FALSE NEIGHBOUR: 'it returns false'. Refute it at one input. -/
def retireAloneWrong : ChangeSpec := { name := "retireAlone", fn := fun _ => fun
  | [d1, d2, d3] => { results := [.lit (.bool false)], args := [d1, d2, d3] }
  | _ => none }
def RetireAloneWrongFalsely : Prop := retireAloneRow.holds Tryz.pinned (OpenSpec.ofChange retireAloneWrong)

/-- 'cotterellaw48.RetireEnds': WHATEVER THE INPUT: true; the input reads as it did. -/
def retireEndsSpec : ChangeSpec := { name := "retireEnds", fn := fun _ => fun
  | [d1, d2, d3] => { results := [.lit (.bool true)], args := [d1, d2, d3] }
  | _ => none }
def retireEndsRow : OpenClaim := { program := "ytchpjkadpdajkaagreatdoor", sum := "de4acf568e7d132781970cceb708ed348b05fbcb2273fb0ceb0157c8dd715d9a", func := "cotterel/cotterellaw48.RetireEnds", spec := "retireEnds", unfollowed := true, recurses := true, named := ["cotterel/inst.fields"], apart := false, laid := [("cotterel/inst.fields", laid_cotterel_inst_fields)] }
def RetireEndsSaid : Prop := retireEndsRow.holds Tryz.pinned (OpenSpec.ofChange retireEndsSpec)

/-- ITS FALSE NEIGHBOUR: 'it returns false'. Refute it at one input. -/
def retireEndsWrong : ChangeSpec := { name := "retireEnds", fn := fun _ => fun
  | [d1, d2, d3] => { results := [.lit (.bool false)], args := [d1, d2, d3] }
  | _ => none }
def RetireEndsWrongFalsely : Prop := retireEndsRow.holds Tryz.pinned (OpenSpec.ofChange retireEndsWrong)

/-- 'cotterellaw48.RetireReplays': WHATEVER THE INPUT: true; the input reads as it did. -/
def retireReplaysSpec : ChangeSpec := { name := "retireReplays", fn := fun _ => fun
  | [d1, d2, d3] => { results := [.lit (.bool true)], args := [d1, d2, d3] }
  | _ => none }
def retireReplaysRow : OpenClaim := { program := "ytchpjkadpdajkaagreatdoor", sum := "de4acf568e7d132781970cceb708ed348b05fbcb2273fb0ceb0157c8dd715d9a", func := "cotterel/cotterellaw48.RetireReplays", spec := "retireReplays", unfollowed := true, recurses := true, named := ["cotterel/inst.fields"], apart := false, laid := [("cotterel/inst.fields", laid_cotterel_inst_fields)] }
def RetireReplaysSaid : Prop := retireReplaysRow.holds Tryz.pinned (OpenSpec.ofChange retireReplaysSpec)

/-- ITS FALSE NEIGHBOUR: 'it returns false'. Refute it at one input. -/
def retireReplaysWrong : ChangeSpec := { name := "retireReplays", fn := fun _ => fun
  | [d1, d2, d3] => { results := [.lit (.bool false)], args := [d1, d2, d3] }
  | _ => none }
def RetireReplaysWrongFalsely : Prop := retireReplaysRow.holds Tryz.pinned (OpenSpec.ofChange retireReplaysWrong)

/- THE SECOND FORM. 'bulk': how many values and letters a reading holds, each counted each time it is reached (what is shared counts as often as it is met; a slice's spare places count too). A statement '..UptoSaid' is the law's where the arguments, and the package variables that the reading takes, are together of bulk at most 1048576: NARROWER than '..Said'. Prove '..Said' where nothing that the law and all that it calls make is longer than what came in: it says more and counts as full. Else prove '..UptoSaid'. A law counts once. -/
mutual
def uptoBulk {H : Type} : DataW H → Nat
  | .lit (.string bytes) => bytes.length + 1
  | .lit _ => 1
  | .nil => 1
  | .ptr d => uptoBulk d + 1
  | .slice elems spare => uptoBulkAll elems + uptoBulkAll spare + 1
  | .agg parts => uptoBulkAll parts + 1
  | .iface _ d => uptoBulk d + 1
  | .map entries => uptoBulkEntries entries + 1
  | .held _ => 1
def uptoBulkAll {H : Type} : List (DataW H) → Nat
  | [] => 0
  | d :: r => uptoBulk d + uptoBulkAll r
def uptoBulkEntries {H : Type} : List (Lit × DataW H) → Nat
  | [] => 0
  | x :: r => uptoBulkEntry x + uptoBulkEntries r
def uptoBulkEntry {H : Type} : Lit × DataW H → Nat
  | (.string bytes, d) => bytes.length + uptoBulk d + 1
  | (_, d) => uptoBulk d + 1
 end
def uptoSmall : (H : Type) → List (DataW H) → Bool := fun _ ds => decide (uptoBulkAll ds ≤ 1048576)
def OpenSpec.upto (s : _root_.Go.ChangeSpec) : _root_.Go.OpenSpec := { _root_.Go.OpenSpec.ofChange s with cond := some uptoSmall }

/-- 'cotterellaw48.RetireStage', WHERE WHAT IT READS IS OF BULK AT MOST 1048576: true; the input reads as it did. -/
def retireStageUptoRow : OpenClaim := { program := "ytchpjkadpdajkaagreatdoor", sum := "de4acf568e7d132781970cceb708ed348b05fbcb2273fb0ceb0157c8dd715d9a", func := "cotterel/cotterellaw48.RetireStage", spec := "retireStage", unfollowed := true, recurses := true, named := ["cotterel/inst.fields"], apart := false, laid := [("cotterel/inst.fields", laid_cotterel_inst_fields)], narrowed := true }
def RetireStageUptoSaid : Prop := retireStageUptoRow.holds Tryz.pinned (OpenSpec.upto retireStageSpec)

/-- 'cotterellaw48.RetireTells', WHERE WHAT IT READS IS OF BULK AT MOST 1048576: true; the input reads as it did. -/
def retireTellsUptoRow : OpenClaim := { program := "ytchpjkadpdajkaagreatdoor", sum := "de4acf568e7d132781970cceb708ed348b05fbcb2273fb0ceb0157c8dd715d9a", func := "cotterel/cotterellaw48.RetireTells", spec := "retireTells", unfollowed := true, recurses := true, named := ["cotterel/inst.fields"], apart := false, laid := [("cotterel/inst.fields", laid_cotterel_inst_fields)], narrowed := true }
def RetireTellsUptoSaid : Prop := retireTellsUptoRow.holds Tryz.pinned (OpenSpec.upto retireTellsSpec)

/-- 'cotterellaw48.RetireAlone', WHERE WHAT IT READS IS OF BULK AT MOST 1048576: true; the input reads as it did. -/
def retireAloneUptoRow : OpenClaim := { program := "ytchpjkadpdajkaagreatdoor", sum := "de4acf568e7d132781970cceb708ed348b05fbcb2273fb0ceb0157c8dd715d9a", func := "cotterel/cotterellaw48.RetireAlone", spec := "retireAlone", unfollowed := true, recurses := true, named := ["cotterel/inst.fields"], apart := false, laid := [("cotterel/inst.fields", laid_cotterel_inst_fields)], narrowed := true }
def RetireAloneUptoSaid : Prop := retireAloneUptoRow.holds Tryz.pinned (OpenSpec.upto retireAloneSpec)

/-- 'cotterellaw48.RetireEnds', WHERE WHAT IT READS IS OF BULK AT MOST 1048576: true; the input reads as it did. -/
def retireEndsUptoRow : OpenClaim := { program := "ytchpjkadpdajkaagreatdoor", sum := "de4acf568e7d132781970cceb708ed348b05fbcb2273fb0ceb0157c8dd715d9a", func := "cotterel/cotterellaw48.RetireEnds", spec := "retireEnds", unfollowed := true, recurses := true, named := ["cotterel/inst.fields"], apart := false, laid := [("cotterel/inst.fields", laid_cotterel_inst_fields)], narrowed := true }
def RetireEndsUptoSaid : Prop := retireEndsUptoRow.holds Tryz.pinned (OpenSpec.upto retireEndsSpec)

/-- 'cotterellaw48.RetireReplays', WHERE WHAT IT READS IS OF BULK AT MOST 1048576: true; the input reads as it did. -/
def retireReplaysUptoRow : OpenClaim := { program := "ytchpjkadpdajkaagreatdoor", sum := "de4acf568e7d132781970cceb708ed348b05fbcb2273fb0ceb0157c8dd715d9a", func := "cotterel/cotterellaw48.RetireReplays", spec := "retireReplays", unfollowed := true, recurses := true, named := ["cotterel/inst.fields"], apart := false, laid := [("cotterel/inst.fields", laid_cotterel_inst_fields)], narrowed := true }
def RetireReplaysUptoSaid : Prop := retireReplaysUptoRow.holds Tryz.pinned (OpenSpec.upto retireReplaysSpec)

end Rows
end Go.Proofs.YtchpjkadpdajkaaGreatDoor
