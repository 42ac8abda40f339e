/-
  No cell of these rows narrows 'for every input' (looked for: loops, veiled, ifaces, maps, wideKeys, modest, calm, conditions, laid).
  DERIVED. THE GIVEN ROWS OF THIS SEAT. 4 by the template 'for every input the law returns true; each argument reads behind the call as it read before'; 0 by the template 'total and deterministic' (their statements: YtcinobbeapgklaaTotals.lean).
  GIVEN WITH THE SEED: the statements are not yours to turn. If you find one false, say at which input.
  Laid BY PROGRAM, IN A SANDBOX (cutbox-rows.mjs): the forced cells as the released guide's own fill.sh prints them over the translation 9159ee017af0dd2f… (all of the seat's roots in one cut). By AI agents, Wed Nov 11 2026. No macro, syntax, notation, axiom, sorry.
-/
import Derived.Test.YtcinobbeapgklaaChecked
import GoSem.Claim
import GoSem.ClaimJoined
import GoSem.ClaimMapViews
import Derived.JoinedTies
import Derived.KernelRfl
namespace Go.Proofs.Ytcinobbeapgklaa
/- THE CELL 'sum', in the pinned program and in every row, IS THE sha256 OF THE DUMP (.gsa) THAT YtcinobbeapgklaaProg.lean LOADS. Nothing in Lean hashes anything: it is a label: what it is worth is what the hold of that sum in a sandbox is worth. -/
noncomputable def Try.pinned : Pinned := { name := "ytcinobbeapgklaa", sum := "9159ee017af0dd2f8a9b5139a22b78d967eb4c8bdda1a4da337e18de55aaa544", checked := Try.checked }
namespace Rows
def none {H : Type} : Left H := { results := [], args := [] }

/-- 'cotterellaw32.ExecDoes': WHATEVER THE INPUT: true; the input reads as it did. -/
def execDoesSpec : ChangeSpec := { name := "execDoes", fn := fun _ => fun
  | [d1, d2, d3] => { results := [.lit (.bool true)], args := [d1, d2, d3] }
  | _ => none }
def execDoesRow : OpenClaim := { program := "ytcinobbeapgklaa", sum := "9159ee017af0dd2f8a9b5139a22b78d967eb4c8bdda1a4da337e18de55aaa544", func := "cotterel/cotterellaw32.ExecDoes", spec := "execDoes", apart := false }
def ExecDoesSaid : Prop := execDoesRow.holds Try.pinned (OpenSpec.ofChange execDoesSpec)

/-- ITS FALSE NEIGHBOUR: 'it returns false'. Refute it at one input. -/
def execDoesWrong : ChangeSpec := { name := "execDoes", fn := fun _ => fun
  | [d1, d2, d3] => { results := [.lit (.bool false)], args := [d1, d2, d3] }
  | _ => none }
def ExecDoesWrongFalsely : Prop := execDoesRow.holds Try.pinned (OpenSpec.ofChange execDoesWrong)

/-- 'cotterellaw32.ExecGuess': WHATEVER THE INPUT: true; the input reads as it did. -/
def execGuessSpec : ChangeSpec := { name := "execGuess", fn := fun _ => fun
  | [d1, d2] => { results := [.lit (.bool true)], args := [d1, d2] }
  | _ => none }
def execGuessRow : OpenClaim := { program := "ytcinobbeapgklaa", sum := "9159ee017af0dd2f8a9b5139a22b78d967eb4c8bdda1a4da337e18de55aaa544", func := "cotterel/cotterellaw32.ExecGuess", spec := "execGuess", apart := false }
def ExecGuessSaid : Prop := execGuessRow.holds Try.pinned (OpenSpec.ofChange execGuessSpec)

/-- ITS FALSE NEIGHBOUR: 'it returns false'. Refute it at one input. -/
def execGuessWrong : ChangeSpec := { name := "execGuess", fn := fun _ => fun
  | [d1, d2] => { results := [.lit (.bool false)], args := [d1, d2] }
  | _ => none }
def ExecGuessWrongFalsely : Prop := execGuessRow.holds Try.pinned (OpenSpec.ofChange execGuessWrong)

/-- 'cotterellaw32.ExecMoves': WHATEVER THE INPUT: true; the input reads as it did. -/
def execMovesSpec : ChangeSpec := { name := "execMoves", fn := fun _ => fun
  | [d1, d2, d3] => { results := [.lit (.bool true)], args := [d1, d2, d3] }
  | _ => none }
def execMovesRow : OpenClaim := { program := "ytcinobbeapgklaa", sum := "9159ee017af0dd2f8a9b5139a22b78d967eb4c8bdda1a4da337e18de55aaa544", func := "cotterel/cotterellaw32.ExecMoves", spec := "execMoves", apart := false }
def ExecMovesSaid : Prop := execMovesRow.holds Try.pinned (OpenSpec.ofChange execMovesSpec)

/-- ITS FALSE NEIGHBOUR: 'it returns false'. Refute it at one input. -/
def execMovesWrong : ChangeSpec := { name := "execMoves", fn := fun _ => fun
  | [d1, d2, d3] => { results := [.lit (.bool false)], args := [d1, d2, d3] }
  | _ => none }
def ExecMovesWrongFalsely : Prop := execMovesRow.holds Try.pinned (OpenSpec.ofChange execMovesWrong)

/-- 'cotterellaw32.ExecLoads': WHATEVER THE INPUT: true; the input reads as it did. -/
def execLoadsSpec : ChangeSpec := { name := "execLoads", fn := fun _ => fun
  | [d1, d2, d3] => { results := [.lit (.bool true)], args := [d1, d2, d3] }
  | _ => none }
def execLoadsRow : OpenClaim := { program := "ytcinobbeapgklaa", sum := "9159ee017af0dd2f8a9b5139a22b78d967eb4c8bdda1a4da337e18de55aaa544", func := "cotterel/cotterellaw32.ExecLoads", spec := "execLoads", apart := false }
def ExecLoadsSaid : Prop := execLoadsRow.holds Try.pinned (OpenSpec.ofChange execLoadsSpec)

/-- ITS FALSE NEIGHBOUR: 'it returns false'. Refute it at one input. -/
def execLoadsWrong : ChangeSpec := { name := "execLoads", fn := fun _ => fun
  | [d1, d2, d3] => { results := [.lit (.bool false)], args := [d1, d2, d3] }
  | _ => none }
def ExecLoadsWrongFalsely : Prop := execLoadsRow.holds Try.pinned (OpenSpec.ofChange execLoadsWrong)

/- THE SECOND FORM. 'bulk': how many values and letters a reading holds, each counted each time it is reached (what is shared counts as often as it is met; a slice's spare places count too). A statement '..UptoSaid' is the law's where the arguments, and the package variables that the reading takes, are together of bulk at most 1048576: NARROWER than '..Said'. Prove '..Said' where nothing that the law and all that it calls make is longer than what came in: it says more and counts as full. Else prove '..UptoSaid'. A law counts once. -/
mutual
def uptoBulk {H : Type} : DataW H → Nat
  | .lit (.string bytes) => bytes.length + 1
  | .lit _ => 1
  | .nil => 1
  | .ptr d => uptoBulk d + 1
  | .slice elems spare => uptoBulkAll elems + uptoBulkAll spare + 1
  | .agg parts => uptoBulkAll parts + 1
  | .iface _ d => uptoBulk d + 1
  | .map entries => uptoBulkEntries entries + 1
  | .held _ => 1
def uptoBulkAll {H : Type} : List (DataW H) → Nat
  | [] => 0
  | d :: r => uptoBulk d + uptoBulkAll r
def uptoBulkEntries {H : Type} : List (Lit × DataW H) → Nat
  | [] => 0
  | x :: r => uptoBulkEntry x + uptoBulkEntries r
def uptoBulkEntry {H : Type} : Lit × DataW H → Nat
  | (.string bytes, d) => bytes.length + uptoBulk d + 1
  | (_, d) => uptoBulk d + 1
 end
def uptoSmall : (H : Type) → List (DataW H) → Bool := fun _ ds => decide (uptoBulkAll ds ≤ 1048576)
def OpenSpec.upto (s : _root_.Go.ChangeSpec) : _root_.Go.OpenSpec := { _root_.Go.OpenSpec.ofChange s with cond := some uptoSmall }

/-- 'cotterellaw32.ExecDoes', WHERE WHAT IT READS IS OF BULK AT MOST 1048576: true; the input reads as it did. -/
def execDoesUptoRow : OpenClaim := { program := "ytcinobbeapgklaa", sum := "9159ee017af0dd2f8a9b5139a22b78d967eb4c8bdda1a4da337e18de55aaa544", func := "cotterel/cotterellaw32.ExecDoes", spec := "execDoes", apart := false, narrowed := true }
def ExecDoesUptoSaid : Prop := execDoesUptoRow.holds Try.pinned (OpenSpec.upto execDoesSpec)

/-- 'cotterellaw32.ExecGuess', WHERE WHAT IT READS IS OF BULK AT MOST 1048576: true; the input reads as it did. -/
def execGuessUptoRow : OpenClaim := { program := "ytcinobbeapgklaa", sum := "9159ee017af0dd2f8a9b5139a22b78d967eb4c8bdda1a4da337e18de55aaa544", func := "cotterel/cotterellaw32.ExecGuess", spec := "execGuess", apart := false, narrowed := true }
def ExecGuessUptoSaid : Prop := execGuessUptoRow.holds Try.pinned (OpenSpec.upto execGuessSpec)

/-- 'cotterellaw32.ExecMoves', WHERE WHAT IT READS IS OF BULK AT MOST 1048576: true; the input reads as it did. -/
def execMovesUptoRow : OpenClaim := { program := "ytcinobbeapgklaa", sum := "9159ee017af0dd2f8a9b5139a22b78d967eb4c8bdda1a4da337e18de55aaa544", func := "cotterel/cotterellaw32.ExecMoves", spec := "execMoves", apart := false, narrowed := true }
def ExecMovesUptoSaid : Prop := execMovesUptoRow.holds Try.pinned (OpenSpec.upto execMovesSpec)

/-- 'cotterellaw32.ExecLoads', WHERE WHAT IT READS IS OF BULK AT MOST 1048576: true; the input reads as it did. -/
def execLoadsUptoRow : OpenClaim := { program := "ytcinobbeapgklaa", sum := "9159ee017af0dd2f8a9b5139a22b78d967eb4c8bdda1a4da337e18de55aaa544", func := "cotterel/cotterellaw32.ExecLoads", spec := "execLoads", apart := false, narrowed := true }
def ExecLoadsUptoSaid : Prop := execLoadsUptoRow.holds Try.pinned (OpenSpec.upto execLoadsSpec)

end Rows
end Go.Proofs.Ytcinobbeapgklaa
