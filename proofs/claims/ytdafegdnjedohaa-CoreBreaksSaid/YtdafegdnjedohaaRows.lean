/-
  No cell of these rows narrows 'for every input' (looked for: loops, veiled, ifaces, maps, wideKeys, modest, calm, conditions, laid).
  DERIVED. THE GIVEN ROWS OF THIS SEAT. 3 by the template 'for every input the law returns true; each argument reads behind the call as it read before'; 0 by the template 'total and deterministic' (their statements: YtdafegdnjedohaaTotals.lean).
  GIVEN WITH THE SEED: the statements are not yours to turn. If you find one false, say at which input.
  Laid BY PROGRAM, IN A SANDBOX (cutbox-rows.mjs): the forced cells as the released guide's own fill.sh prints them over the translation 680a560ec486c0ad… (all of the seat's roots in one cut). By AI agents, Wed Nov 11 2026. No macro, syntax, notation, axiom, sorry.
-/
import Derived.Test.YtdafegdnjedohaaChecked
import GoSem.Claim
import GoSem.ClaimJoined
import GoSem.ClaimMapViews
import Derived.JoinedTies
import Derived.KernelRfl
namespace Go.Proofs.Ytdafegdnjedohaa
/- THE CELL 'sum', in the pinned program and in every row, IS THE sha256 OF THE DUMP (.gsa) THAT YtdafegdnjedohaaProg.lean LOADS. Nothing in Lean hashes anything: it is a label: what it is worth is what the hold of that sum in a sandbox is worth. -/
noncomputable def Try.pinned : Pinned := { name := "ytdafegdnjedohaa", sum := "680a560ec486c0ada18912d0e6db45d1ef5e4b1ec8b5e28414f6a6d9e255cf9a", checked := Try.checked }
namespace Rows
def none {H : Type} : Left H := { results := [], args := [] }

/-- 'cotterellaw42.CoreConfs': WHATEVER THE INPUT: true; the input reads as it did. -/
def coreConfsSpec : ChangeSpec := { name := "coreConfs", fn := fun _ => fun
  | [d] => { results := [.lit (.bool true)], args := [d] }
  | _ => none }
def coreConfsRow : OpenClaim := { program := "ytdafegdnjedohaa", sum := "680a560ec486c0ada18912d0e6db45d1ef5e4b1ec8b5e28414f6a6d9e255cf9a", func := "cotterel/cotterellaw42.CoreConfs", spec := "coreConfs", unfollowed := true, recurses := true, apart := false }
def CoreConfsSaid : Prop := coreConfsRow.holds Try.pinned (OpenSpec.ofChange coreConfsSpec)

/-- ITS FALSE NEIGHBOUR: 'it returns false'. Refute it at one input. -/
def coreConfsWrong : ChangeSpec := { name := "coreConfs", fn := fun _ => fun
  | [d] => { results := [.lit (.bool false)], args := [d] }
  | _ => none }
def CoreConfsWrongFalsely : Prop := coreConfsRow.holds Try.pinned (OpenSpec.ofChange coreConfsWrong)

/-- 'cotterellaw42.CoreBreaks': WHATEVER THE INPUT: true; the input reads as it did. -/
def coreBreaksSpec : ChangeSpec := { name := "coreBreaks", fn := fun _ => fun
  | [d] => { results := [.lit (.bool true)], args := [d] }
  | _ => none }
def coreBreaksRow : OpenClaim := { program := "ytdafegdnjedohaa", sum := "680a560ec486c0ada18912d0e6db45d1ef5e4b1ec8b5e28414f6a6d9e255cf9a", func := "cotterel/cotterellaw42.CoreBreaks", spec := "coreBreaks", unfollowed := true, recurses := true, apart := false }
def CoreBreaksSaid : Prop := coreBreaksRow.holds Try.pinned (OpenSpec.ofChange coreBreaksSpec)

/-- ITS FALSE NEIGHBOUR: 'it returns false'. Refute it at one input. -/
def coreBreaksWrong : ChangeSpec := { name := "coreBreaks", fn := fun _ => fun
  | [d] => { results := [.lit (.bool false)], args := [d] }
  | _ => none }
def CoreBreaksWrongFalsely : Prop := coreBreaksRow.holds Try.pinned (OpenSpec.ofChange coreBreaksWrong)

/-- 'cotterellaw42.CoreNew': WHATEVER THE INPUT: true; the input reads as it did. -/
def coreNewSpec : ChangeSpec := { name := "coreNew", fn := fun _ => fun
  | [d1, d2] => { results := [.lit (.bool true)], args := [d1, d2] }
  | _ => none }
def coreNewRow : OpenClaim := { program := "ytdafegdnjedohaa", sum := "680a560ec486c0ada18912d0e6db45d1ef5e4b1ec8b5e28414f6a6d9e255cf9a", func := "cotterel/cotterellaw42.CoreNew", spec := "coreNew", unfollowed := true, recurses := true, apart := false }
def CoreNewSaid : Prop := coreNewRow.holds Try.pinned (OpenSpec.ofChange coreNewSpec)

/-- ITS FALSE NEIGHBOUR: 'it returns false'. Refute it at one input. -/
def coreNewWrong : ChangeSpec := { name := "coreNew", fn := fun _ => fun
  | [d1, d2] => { results := [.lit (.bool false)], args := [d1, d2] }
  | _ => none }
def CoreNewWrongFalsely : Prop := coreNewRow.holds Try.pinned (OpenSpec.ofChange coreNewWrong)

/- THE SECOND FORM. 'bulk': how many values and letters a reading holds, each counted each time it is reached (what is shared counts as often as it is met; a slice's spare places count too). A statement '..UptoSaid' is the law's where the arguments, and the package variables that the reading takes, are together of bulk at most 1048576: NARROWER than '..Said'. Prove '..Said' where nothing that the law and all that it calls make is longer than what came in: it says more and counts as full. Else prove '..UptoSaid'. A law counts once. -/
mutual
def uptoBulk {H : Type} : DataW H → Nat
  | .lit (.string bytes) => bytes.length + 1
  | .lit _ => 1
  | .nil => 1
  | .ptr d => uptoBulk d + 1
  | .slice elems spare => uptoBulkAll elems + uptoBulkAll spare + 1
  | .agg parts => uptoBulkAll parts + 1
  | .iface _ d => uptoBulk d + 1
  | .map entries => uptoBulkEntries entries + 1
  | .held _ => 1
def uptoBulkAll {H : Type} : List (DataW H) → Nat
  | [] => 0
  | d :: r => uptoBulk d + uptoBulkAll r
def uptoBulkEntries {H : Type} : List (Lit × DataW H) → Nat
  | [] => 0
  | x :: r => uptoBulkEntry x + uptoBulkEntries r
def uptoBulkEntry {H : Type} : Lit × DataW H → Nat
  | (.string bytes, d) => bytes.length + uptoBulk d + 1
  | (_, d) => uptoBulk d + 1
 end
def uptoSmall : (H : Type) → List (DataW H) → Bool := fun _ ds => decide (uptoBulkAll ds ≤ 1048576)
def OpenSpec.upto (s : _root_.Go.ChangeSpec) : _root_.Go.OpenSpec := { _root_.Go.OpenSpec.ofChange s with cond := some uptoSmall }

/-- 'cotterellaw42.CoreConfs', WHERE WHAT IT READS IS OF BULK AT MOST 1048576: true; the input reads as it did. -/
def coreConfsUptoRow : OpenClaim := { program := "ytdafegdnjedohaa", sum := "680a560ec486c0ada18912d0e6db45d1ef5e4b1ec8b5e28414f6a6d9e255cf9a", func := "cotterel/cotterellaw42.CoreConfs", spec := "coreConfs", unfollowed := true, recurses := true, apart := false, narrowed := true }
def CoreConfsUptoSaid : Prop := coreConfsUptoRow.holds Try.pinned (OpenSpec.upto coreConfsSpec)

/-- 'cotterellaw42.CoreBreaks', WHERE WHAT IT READS IS OF BULK AT MOST 1048576: true; the input reads as it did. -/
def coreBreaksUptoRow : OpenClaim := { program := "ytdafegdnjedohaa", sum := "680a560ec486c0ada18912d0e6db45d1ef5e4b1ec8b5e28414f6a6d9e255cf9a", func := "cotterel/cotterellaw42.CoreBreaks", spec := "coreBreaks", unfollowed := true, recurses := true, apart := false, narrowed := true }
def CoreBreaksUptoSaid : Prop := coreBreaksUptoRow.holds Try.pinned (OpenSpec.upto coreBreaksSpec)

/-- 'cotterellaw42.CoreNew', WHERE WHAT IT READS IS OF BULK AT MOST 1048576: true; the input reads as it did. -/
def coreNewUptoRow : OpenClaim := { program := "ytdafegdnjedohaa", sum := "680a560ec486c0ada18912d0e6db45d1ef5e4b1ec8b5e28414f6a6d9e255cf9a", func := "cotterel/cotterellaw42.CoreNew", spec := "coreNew", unfollowed := true, recurses := true, apart := false, narrowed := true }
def CoreNewUptoSaid : Prop := coreNewUptoRow.holds Try.pinned (OpenSpec.upto coreNewSpec)

end Rows
end Go.Proofs.Ytdafegdnjedohaa
