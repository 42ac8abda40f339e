/- ExecGuess is proved for every input: it returns true, and the input reads behind the call as it did. -/
import Derived.Test.YtcinobbeapgklaaModels
import Derived.Test.YtcinobbeapgklaaTypes
import Derived.Test.YtcinobbeapgklaaRows
import Derived.Test.YtcinobbeapgklaaAmK
namespace Go.Proofs.Ytcinobbeapgklaa
open Go Go.AM
open Go.ChangeShapes Go.WideShapes Go.ChangeAt Go.RowKit

theorem spec_of {C : Nat → List AV → Option AV} (hC : Sound Try.prog C) {f N : Nat} {af : AFn} (hc : Compiled Try.prog f af) {args : List AV} {r : AV} (h : runFnK C N af args = some r) : AM.Spec Try.prog f args r :=
  fn_sound mixed hC hc ((runFnK_eq C N af args).symm.trans h)
theorem sound_none : Sound Try.prog (fun _ _ => none) := fun _ _ _ h => by cases h

def behind (u : Uop) : Int := IntKind.u32.wrap (u.Slot.PC + 4)
def predNext (s : Slot) : Int := bif s.Guess.Taken then s.Guess.Target else IntKind.u32.wrap (s.PC + 4)
def wrong (u : Uop) (n : Int) : Bool := bif u.Slot.Guess.Taken then n != u.Slot.Guess.Target else n != behind u

def S21 : List AV → Option AV
  | [.agg l] => match Uop.of l with | some u => some (.int .u32 (behind u)) | none => none
  | _ => none
theorem s21 {args : List AV} {r : AV} (h : S21 args = some r) : AM.Spec Try.prog 21 args r := by
  unfold S21 at h
  split at h
  · split at h
    · rename_i u hu
      obtain rfl := Uop.of_eq hu
      cases h
      exact spec_of (N := 1) sound_none comp21 (by kernel_rfl)
    · cases h
  · cases h
def S12 : List AV → Option AV
  | [.agg l] => match Slot.of l with | some s => some (.int .u32 (predNext s)) | none => none
  | _ => none
theorem k12 (s : Slot) : runFnK (fun _ _ => none) 1 g12 [.agg s.cells] = bif s.Guess.Taken then some (.int .u32 s.Guess.Target) else some (.int .u32 (IntKind.u32.wrap (s.PC + 4))) := by kernel_rfl
theorem s12 {args : List AV} {r : AV} (h : S12 args = some r) : AM.Spec Try.prog 12 args r := by
  unfold S12 at h
  split at h
  · split at h
    · rename_i u hu
      obtain rfl := Slot.of_eq hu
      cases h
      refine spec_of (N := 1) sound_none comp12 ((k12 u).trans ?_)
      unfold predNext
      cases u.Guess.Taken <;> rfl
    · cases h
  · cases h
def C9 : Nat → List AV → Option AV := fun f l => match f with | 21 => S21 l | _ => none
theorem sound9 : Sound Try.prog C9 := fun f args r h => by
  unfold C9 at h
  split at h
  · exact s21 h
  · cases h
def S9 : List AV → Option AV
  | [.agg l, .int .u32 n] => match Uop.of l with | some u => some (.bool (wrong u n)) | none => none
  | _ => none
theorem k9 (u : Uop) (n : Int) : runFnK C9 1 g9 [.agg u.cells, .int .u32 n] = bif u.Slot.Guess.Taken then some (.bool (n != u.Slot.Guess.Target)) else some (.bool (n != behind u)) := by kernel_rfl
theorem s9 {args : List AV} {r : AV} (h : S9 args = some r) : AM.Spec Try.prog 9 args r := by
  unfold S9 at h
  split at h
  · split at h
    · rename_i u hu
      obtain rfl := Uop.of_eq hu
      cases h
      refine spec_of (N := 1) sound9 comp9 ((k9 u _).trans ?_)
      unfold wrong
      cases u.Slot.Guess.Taken <;> rfl
    · cases h
  · cases h
theorem awake_run : callN fns 40 11 [] = some (.bool true) := by kernel_rfl
def S11 : List AV → Option AV
  | [] => some (.bool true)
  | _ => none
theorem s11 {args : List AV} {r : AV} (h : S11 args = some r) : AM.Spec Try.prog 11 args r := by
  unfold S11 at h
  split at h
  · cases h; exact callN_sound mixed models 40 11 [] _ awake_run
  · cases h
def C4 : Nat → List AV → Option AV := fun f l => match f with | 9 => S9 l | 12 => S12 l | 11 => S11 l | _ => none
theorem sound4 : Sound Try.prog C4 := fun f args r h => by
  unfold C4 at h
  split at h
  · exact s9 h
  · exact s12 h
  · exact s11 h
  · cases h
theorem k4 (u : Uop) (n : Int) : runFnK C4 1 g4 [.agg u.cells, .int .u32 n] =
    bif (wrong u n == (n != predNext u.Slot)) then (bif !(wrong u (predNext u.Slot)) then some (.bool true) else some (.bool false)) else some (.bool false) := by kernel_rfl
theorem guess_run (u : Uop) (n : Int) : AM.Spec Try.prog 4 [.agg u.cells, .int .u32 n] (.bool true) := by
  refine spec_of (N := 1) sound4 comp4 ((k4 u n).trans ?_)
  unfold wrong predNext behind
  cases u.Slot.Guess.Taken <;> simp

theorem own : ownKnob Try.prog.godebug = none := by kernel_rfl
theorem laidOut : laidOutB Try.prog = true := by kernel_rfl
theorem kinds4 : mapO (akOf Try.prog) Try.f4.params.toList = some [.agg Uop.kinds, .cell (.int .u32)] := by kernel_rfl

theorem guess_lifted (os : Os) (started : os.Started) (H : Type) (enc : TypeId × Value → H) :
    ReturnsInHanded {} Try.checked os 4 .any (Rows.execGuessSpec.pre6 enc Try.prog Try.f4 Rows.execGuessRow.domain false) (Rows.execGuessSpec.post enc Try.prog Try.f4 false true false false) := by
  refine returnsInHanded_of_change (C := Try.checked) own started (by kernel_rfl) Try.func4
    (ChangeSpec.witness6 (enc := enc) (C := Try.checked) false ⟨#[], #[.agg #[.int .i64 0, .int .i64 0, .int .i64 0, .int .i64 0, .int .i64 0, .int .u32 0, .int .u32 0, .int .i64 0, .int .u32 0, .bool false, .int .u32 0, .int .u32 0, .int .i64 0, .int .u32 0, .int .i64 0, .int .i64 0, .bool false, .int .i64 0, .int .i64 0, .int .i64 0, .int .i64 0, .int .i64 0, .int .u32 0], .int .u32 0], []⟩ 8 (by kernel_rfl) (by kernel_rfl) (by kernel_rfl) (by kernel_rfl)) ?_
  intro W base args ds gs before hval hW _ _
  have hsz := (trodAll_length (hW.choose_spec.choose_spec.1)).1
  obtain ⟨xs, hx, hxl, hrep⟩ := args_fit (W := W) (w := W) (F := (· < W.heap.size)) (r := .any) (b := base) kinds4 hsz fun i t v ht hv => hval i t v (by simpa using ht) (by simpa using hv)
  obtain ⟨_, _, rfl, ⟨_, rfl, h⟩, hx1⟩ := fitsA_cons hx
  obtain ⟨u, _, rfl⟩ := Uop.fit h
  obtain ⟨_, _, rfl, ⟨n, rfl, _⟩, hx2⟩ := fitsA_cons hx1
  obtain rfl := fitsA_nil hx2
  exact lift_true (C := Try.checked) laidOut rfl (fun H ds hd => match ds, hd with | [_, _], _ => rfl) rfl (by kernel_rfl) (by kernel_rfl) hW (guess_run u n) (by simpa using hxl) hrep

theorem execGuess_holds : Rows.ExecGuessSaid :=
  OpenClaim.holds_of_wide 4 Try.f4 rfl rfl rfl rfl rfl rfl rfl ⟨rfl, rfl, rfl, rfl, rfl⟩ rfl rfl rfl rfl rfl (by kernel_rfl) Try.func4 (by kernel_rfl)
    (of_decide_eq_true (by kernel_rfl)) (by unfold Func.isWrapper; rw [if_neg (by decide +kernel)]; exact ⟨rfl, rfl⟩)
    (fun os started H enc _ => guess_lifted os started H enc)
end Go.Proofs.Ytcinobbeapgklaa
