/- YtcinobbeapgklaaAmRep: how the abstract machine's values stand in the model's memory, and that this is kept where memory is not touched. No statement of the seat is proved here. -/
import Derived.Test.YtcinobbeapgklaaAmCore
import Derived.Below
namespace Go.AM
open Go.RowKit (Below)

/-- A value that nobody writes: F holds the blocks where its memory may lie. -/
inductive PRep (w : World) (F : Nat → Prop) : AV → Value → Prop
  | bool (b : Bool) : PRep w F (.bool b) (.bool b)
  | int (k : IntKind) (n : Int) : PRep w F (.int k n) (.int k n)
  | str (s : List UInt8) : PRep w F (.str s) (.string ⟨s.toArray⟩)
  | agg (xs : List AV) (vs : List Value) (hl : xs.length = vs.length) (hc : ∀ x ∈ xs, isCell x = true)
      (h : ∀ (i : Nat) x v, xs[i]? = some x → vs[i]? = some v → PRep w F x v) : PRep w F (.agg xs) (.agg vs.toArray)
  | slNil (full : Bool) (a : Option Addr) : PRep w F (.sl full []) (.slice a 0 0)
  | sl (full : Bool) (rows : List (List AV)) (b o esz cap : Nat) (vals : Nat → Nat → Value) (hb : F b) (hcap : rows.length ≤ cap)
      (hfull : full = true → cap = rows.length) (hesz : ∀ r ∈ rows, r.length = esz) (hc : ∀ r ∈ rows, ∀ x ∈ r, isCell x = true)
      (hcell : ∀ i j, i < rows.length → j < esz → w.cell? ⟨b, o + i * esz + j, none⟩ = some (vals i j))
      (h : ∀ (i : Nat) r (j : Nat) x, rows[i]? = some r → r[j]? = some x → PRep w F x (vals i j)) : PRep w F (.sl full rows) (.slice (some ⟨b, o, none⟩) rows.length cap)
  | rptr (cs : List AV) (b o off : Nat) (vals : Nat → Value) (hb : F b) (hc : ∀ x ∈ cs, isCell x = true)
      (hcell : ∀ j, j < cs.length → w.cell? ⟨b, o + j, none⟩ = some (vals j))
      (h : ∀ (j : Nat) x, cs[j]? = some x → PRep w F x (vals j)) : PRep w F (.rptr cs off) (.pointer (some ⟨b, o + off, none⟩))
  | fn (f : Nat) (caps : List AV) (vs : List Value) (hl : caps.length = vs.length) (hc : ∀ x ∈ caps, isCell x = true)
      (h : ∀ (i : Nat) x v, caps[i]? = some x → vs[i]? = some v → PRep w F x v) : PRep w F (.fn f caps) (.func (.func f) #[] vs.toArray)

theorem PRep.mono {w w' : World} {F F' : Nat → Prop} (hF : ∀ b, F b → F' b) (hw : ∀ b, F b → w'.heap[b]? = w.heap[b]?) :
    ∀ {x : AV} {v : Value}, PRep w F x v → PRep w' F' x v := by
  have hcl : ∀ b o, F b → w'.cell? ⟨b, o, none⟩ = w.cell? ⟨b, o, none⟩ := fun b o hb => World.cell?_of_block (hw b hb)
  intro x v h
  induction h with
  | bool b => exact .bool b
  | int k n => exact .int k n
  | str s => exact .str s
  | agg xs vs hl hc _ ih => exact .agg xs vs hl hc ih
  | slNil full a => exact .slNil full a
  | sl full rows b o esz cap vals hb hcap hfull hesz hc hcell _ ih =>
    exact .sl full rows b o esz cap vals (hF b hb) hcap hfull hesz hc (fun i j hi hj => (hcl b _ hb).trans (hcell i j hi hj)) ih
  | rptr cs b o off vals hb hc hcell _ ih => exact .rptr cs b o off vals (hF b hb) hc (fun j hj => (hcl b _ hb).trans (hcell j hj)) ih
  | fn f caps vs hl hc _ ih => exact .fn f caps vs hl hc ih

theorem PRep.one {w : World} {F : Nat → Prop} {x : AV} {v : Value} (h : PRep w F x v) (hc : isCell x = true) : v.oneCell' = true := by
  cases h <;> first | rfl | (simp [isCell] at hc)

/-- A cell of a struct, which may own a slice: S lists the blocks that it owns. -/
inductive CRep (w : World) (F : Nat → Prop) : AV → Value → List Nat → Prop
  | pure {x : AV} {v : Value} (h : PRep w F x v) (hc : isCell x = true) : CRep w F x v []
  | undef {v : Value} (h : v.oneCell' = true) : CRep w F .undef v []
  | ownNil (esz : Nat) (a : Option Addr) : CRep w F (.own esz []) (.slice a 0 0) []
  | own (esz : Nat) (rows : List (List AV)) (b cap : Nat) (cells : Array Value) (ty : TypeId) (hg : w.heap[b]? = some (.cells cells ty (0, 0)))
      (hsz : cells.size = cap * esz) (hcap : rows.length ≤ cap) (hmx : cap ≤ maxLen) (hesz : ∀ r ∈ rows, r.length = esz) (hc : ∀ r ∈ rows, ∀ x ∈ r, isCell x = true)
      (h : ∀ (i : Nat) r (j : Nat) x, rows[i]? = some r → r[j]? = some x → ∃ v, cells[i * esz + j]? = some v ∧ PRep w F x v) :
      CRep w F (.own esz rows) (.slice (some ⟨b, 0, none⟩) rows.length cap) [b]

theorem CRep.mono {w w' : World} {F F' : Nat → Prop} {x : AV} {v : Value} {S : List Nat} (h : CRep w F x v S) (hF : ∀ b, F b → F' b)
    (hw : ∀ b, F b → w'.heap[b]? = w.heap[b]?) (hS : ∀ b ∈ S, w'.heap[b]? = w.heap[b]?) : CRep w' F' x v S := by
  cases h with
  | pure h hc => exact .pure (h.mono hF hw) hc
  | undef h => exact .undef h
  | ownNil esz a => exact .ownNil esz a
  | own esz rows b cap cells ty hg hsz hcap hmx hesz hc h =>
    exact .own esz rows b cap cells ty ((hS b (by simp)).trans hg) hsz hcap hmx hesz hc fun i r j x hi hj =>
      let ⟨v, hv, hp⟩ := h i r j x hi hj; ⟨v, hv, hp.mono hF hw⟩

theorem CRep.one {w : World} {F : Nat → Prop} {x : AV} {v : Value} {S : List Nat} (h : CRep w F x v S) : v.oneCell' = true := by
  cases h with
  | pure h hc => exact h.one hc
  | undef h => exact h
  | _ => rfl

inductive CRepL (w : World) (F : Nat → Prop) : List AV → List Value → List Nat → Prop
  | nil : CRepL w F [] [] []
  | cons {x : AV} {v : Value} {S : List Nat} {xs : List AV} {vs : List Value} {S' : List Nat} (h : CRep w F x v S) (t : CRepL w F xs vs S') :
      CRepL w F (x :: xs) (v :: vs) (S ++ S')

theorem CRepL.mono {w w' : World} {F F' : Nat → Prop} (hF : ∀ b, F b → F' b)
    (hw : ∀ b, F b → w'.heap[b]? = w.heap[b]?) {xs : List AV} {vs : List Value} {S : List Nat} (h : CRepL w F xs vs S) (hS : ∀ b ∈ S, w'.heap[b]? = w.heap[b]?) : CRepL w' F' xs vs S := by
  induction h with
  | nil => exact .nil
  | cons h t ih => exact .cons (h.mono hF hw fun b hb => hS b (by simp [hb])) (ih fun b hb => hS b (by simp [hb]))

theorem CRepL.length {w : World} {F : Nat → Prop} {xs : List AV} {vs : List Value} {S : List Nat} (h : CRepL w F xs vs S) : xs.length = vs.length := by
  induction h with
  | nil => rfl
  | cons h t ih => simp [ih]

theorem CRepL.one {w : World} {F : Nat → Prop} {xs : List AV} {vs : List Value} {S : List Nat} (h : CRepL w F xs vs S) : ∀ v ∈ vs, v.oneCell' = true := by
  induction h with
  | nil => simp
  | cons h t ih =>
    intro v hv
    rcases List.mem_cons.1 hv with rfl | hv
    · exact h.one
    · exact ih v hv

/-- One cell of a list of cells. -/
theorem CRepL.get {w : World} {F : Nat → Prop} {xs : List AV} {vs : List Value} {S : List Nat} (h : CRepL w F xs vs S) :
    ∀ (i : Nat) (x : AV), xs[i]? = some x → ∃ v S', vs[i]? = some v ∧ CRep w F x v S' ∧ (∀ b ∈ S', b ∈ S) := by
  induction h with
  | nil => intro i x hx; simp at hx
  | cons h t ih =>
    intro i x hx
    cases i with
    | zero => simp at hx; subst hx; exact ⟨_, _, rfl, h, fun b hb => by simp [hb]⟩
    | succ i => obtain ⟨v, S', h1, h2, h3⟩ := ih i x (by simpa using hx); exact ⟨v, S', by simpa using h1, h2, fun b hb => by simp [h3 b hb]⟩

theorem CRepL.append {w : World} {F : Nat → Prop} {xs ys : List AV} {vs us : List Value} {S T : List Nat} (h : CRepL w F xs vs S) (h' : CRepL w F ys us T) :
    CRepL w F (xs ++ ys) (vs ++ us) (S ++ T) := by
  induction h with
  | nil => exact h'
  | cons h t ih => rw [List.cons_append, List.cons_append, List.append_assoc]; exact .cons h ih

theorem CRepL.split {w : World} {F : Nat → Prop} {xs : List AV} {vs : List Value} {S : List Nat} (h : CRepL w F xs vs S) : ∀ n : Nat,
    ∃ S1 S2, S = S1 ++ S2 ∧ CRepL w F (xs.take n) (vs.take n) S1 ∧ CRepL w F (xs.drop n) (vs.drop n) S2 := by
  induction h with
  | nil => intro n; exact ⟨[], [], rfl, by simpa using CRepL.nil, by simpa using CRepL.nil⟩
  | cons h t ih =>
    intro n
    cases n with
    | zero => exact ⟨[], _, rfl, .nil, .cons h t⟩
    | succ n =>
      obtain ⟨S1, S2, hS, h1, h2⟩ := ih n
      exact ⟨_ ++ S1, S2, by rw [hS, List.append_assoc], .cons h h1, h2⟩

/-- Cells that own nothing. -/
theorem CRepL.pure {w : World} {F : Nat → Prop} {xs : List AV} {vs : List Value} {S : List Nat} (h : CRepL w F xs vs S) (hc : ∀ x ∈ xs, isCell x = true) :
    S = [] ∧ ∀ (i : Nat) x v, xs[i]? = some x → vs[i]? = some v → PRep w F x v := by
  induction h with
  | nil => exact ⟨rfl, by simp⟩
  | cons h t ih =>
    obtain ⟨hS, hp⟩ := ih fun x hx => hc x (by simp [hx])
    have hx := hc _ (List.mem_cons_self ..)
    cases h with
    | pure h0 h1 =>
      refine ⟨by simp [hS], fun i x v hx hv => ?_⟩
      cases i with
      | zero => simp at hx hv; subst hx; subst hv; exact h0
      | succ i => exact hp i x v (by simpa using hx) (by simpa using hv)
    | undef _ => simp [isCell] at hx
    | ownNil => simp [isCell] at hx
    | own => simp [isCell] at hx

theorem CRepL.of_pure {w : World} {F : Nat → Prop} : ∀ (xs : List AV) (vs : List Value), xs.length = vs.length → (∀ x ∈ xs, isCell x = true) →
    (∀ (i : Nat) x v, xs[i]? = some x → vs[i]? = some v → PRep w F x v) → CRepL w F xs vs []
  | [], [], _, _, _ => .nil
  | x :: xs, v :: vs, hl, hc, h =>
    .cons (S := []) (.pure (h 0 x v rfl rfl) (hc x (by simp))) (CRepL.of_pure xs vs (by simpa using hl) (fun y hy => hc y (by simp [hy])) fun i y u hy hu => h (i + 1) y u (by simpa using hy) (by simpa using hu))

/-- A value: a cell, or cells. -/
inductive VRep (w : World) (F : Nat → Prop) : AV → Value → List Nat → Prop
  | cell {x : AV} {v : Value} {S : List Nat} (h : CRep w F x v S) : VRep w F x v S
  | agg {xs : List AV} {vs : List Value} {S : List Nat} (h : CRepL w F xs vs S) : VRep w F (.agg xs) (.agg vs.toArray) S
  | undef {v : Value} : VRep w F .undef v []

inductive VRepL (w : World) (F : Nat → Prop) : List AV → List Value → List Nat → Prop
  | nil : VRepL w F [] [] []
  | cons {x : AV} {v : Value} {S : List Nat} {xs : List AV} {vs : List Value} {S' : List Nat} (h : VRep w F x v S) (t : VRepL w F xs vs S') :
      VRepL w F (x :: xs) (v :: vs) (S ++ S')

/-- A value as a call hands it back. -/
inductive TRep (w : World) (F : Nat → Prop) : AV → Value → List Nat → Prop
  | val {x : AV} {v : Value} {S : List Nat} (h : VRep w F x v S) : TRep w F x v S
  | tup {xs : List AV} {vs : List Value} {S : List Nat} (h : VRepL w F xs vs S) : TRep w F (.tup xs) (.tuple vs.toArray) S

theorem VRep.mono {w w' : World} {F F' : Nat → Prop} {x : AV} {v : Value} {S : List Nat} (h : VRep w F x v S) (hF : ∀ b, F b → F' b)
    (hw : ∀ b, F b → w'.heap[b]? = w.heap[b]?) (hS : ∀ b ∈ S, w'.heap[b]? = w.heap[b]?) : VRep w' F' x v S := by
  cases h with
  | cell h => exact .cell (h.mono hF hw hS)
  | agg h => exact .agg (h.mono hF hw hS)
  | undef => exact .undef
theorem VRepL.mono {w w' : World} {F F' : Nat → Prop} (hF : ∀ b, F b → F' b)
    (hw : ∀ b, F b → w'.heap[b]? = w.heap[b]?) {xs : List AV} {vs : List Value} {S : List Nat} (h : VRepL w F xs vs S) (hS : ∀ b ∈ S, w'.heap[b]? = w.heap[b]?) : VRepL w' F' xs vs S := by
  induction h with
  | nil => exact .nil
  | cons h t ih => exact .cons (h.mono hF hw fun b hb => hS b (by simp [hb])) (ih fun b hb => hS b (by simp [hb]))
theorem TRep.mono {w w' : World} {F F' : Nat → Prop} {x : AV} {v : Value} {S : List Nat} (h : TRep w F x v S) (hF : ∀ b, F b → F' b)
    (hw : ∀ b, F b → w'.heap[b]? = w.heap[b]?) (hS : ∀ b ∈ S, w'.heap[b]? = w.heap[b]?) : TRep w' F' x v S := by
  cases h with
  | val h => exact .val (h.mono hF hw hS)
  | tup h => exact .tup (VRepL.mono hF hw h hS)

/-- The header that a reference to (s, c) bears. -/
def hdr (a : Act) (w : World) (s : Nat) : Option Nat → Value
  | none => a.tmps.getD s undef
  | some k => match a.tmps.getD s undef with
    | .pointer (some ad) => (w.cell? ⟨ad.block, k, none⟩).getD undef
    | _ => undef
def blk : Value → Option Nat
  | .pointer (some ad) => some ad.block
  | .slice (some ad) _ _ => some ad.block
  | _ => none

/-- What a slot holds. -/
inductive SRep (K : List Nat) (e : Env) (a : Act) (w : World) (F : Nat → Prop) : AV → Value → List Nat → Prop
  | val {x : AV} {v : Value} {S : List Nat} (h : TRep w F x v S) : SRep K e a w F x v S
  | box (cs : List AV) (b : Nat) (cells : Array Value) (ty : TypeId) (S : List Nat) (hg : w.heap[b]? = some (.cells cells ty (0, 0)))
      (h : CRepL w F cs cells.toList S) : SRep K e a w F (.box cs) (.pointer (some ⟨b, 0, none⟩)) (b :: S)
  | ref (s : Nat) (c : Option Nat) (v : Value) (hr : (content e s c).isSome = true) (hb : ∀ cs, c = none → e s ≠ .box cs) (h : v = hdr a w s c) (hK : inA K s = true) : SRep K e a w F (.ref s c) v []
  | ptr (s : Nat) (c : Option Nat) (row off : Nat) (rows : List (List AV)) (r : List AV) (b : Nat) (hr : content e s c = some rows) (hrow : rows[row]? = some r)
      (hb : blk (hdr a w s c) = some b) (hK : inA K s = true) : SRep K e a w F (.ptr s c row off) (.pointer (some ⟨b, row * r.length + off, none⟩)) []

/-- The whole: the slots' values, and what they own: no block twice. -/
structure EnvRel (K : List Nat) (F0 : Nat → Prop) (B n : Nat) (w0 : World) (F : Nat → Prop) (S : Nat → List Nat) (e : Env) (a : Act) (w : World) : Prop where
  size : a.tmps.size = n
  defers : a.defers = []
  rep : ∀ s, SRep K e a w F (e s) (a.tmps.getD s undef) (S s)
  nodup : ∀ s, (S s).Nodup
  apart : ∀ s t b, s ≠ t → b ∈ S s → b ∉ S t
  own : ∀ s b, b ∈ S s → B ≤ b ∧ b < w.heap.size ∧ ¬ F b
  free : ∀ b, F b → b < w.heap.size
  old : ∀ b, F b → F0 b ∨ B ≤ b
  keeps : ∀ b, F0 b → F b
  below : Below B w0 w
  base : B ≤ w.heap.size

end Go.AM
