/- YtcinobbeapgklaaAmLift: from what the abstract machine computes to a row's statement, where the law answers true. No statement of the seat is proved here. -/
import Derived.Test.YtcinobbeapgklaaAmFn
import Derived.ProofKit
import Derived.WideKeyArgs
namespace Go.AM
open Go.ChangeShapes Go.WideShapes Go.ChangeAt Go.RowKit

/-- A cell's kind. -/
inductive CK where
  | int (k : IntKind)
  | bool
  | str
def CK.fit : CK → AV → Prop
  | .int k, x => ∃ n, x = .int k n ∧ k.has n
  | .bool, x => ∃ b, x = .bool b
  | .str, x => ∃ s, x = .str s
def fits : List CK → List AV → Prop
  | [], [] => True
  | c :: cs, x :: xs => c.fit x ∧ fits cs xs
  | _, _ => False
theorem fits_cons {c : CK} {cs : List CK} {l : List AV} (h : fits (c :: cs) l) : ∃ x xs, l = x :: xs ∧ c.fit x ∧ fits cs xs := by
  cases l with
  | nil => exact h.elim
  | cons x xs => exact ⟨x, xs, rfl, h.1, h.2⟩
theorem fits_nil {l : List AV} (h : fits [] l) : l = [] := by
  cases l with
  | nil => rfl
  | cons x xs => exact h.elim
/-- An argument's kind: a cell, or cells. -/
inductive AK where
  | cell (c : CK)
  | agg (cs : List CK)
def AK.fit : AK → AV → Prop
  | .cell c, x => c.fit x
  | .agg cs, x => ∃ xs, x = .agg xs ∧ fits cs xs
def fitsA : List AK → List AV → Prop
  | [], [] => True
  | c :: cs, x :: xs => c.fit x ∧ fitsA cs xs
  | _, _ => False

theorem fitsA_cons {c : AK} {cs : List AK} {l : List AV} (h : fitsA (c :: cs) l) : ∃ x xs, l = x :: xs ∧ c.fit x ∧ fitsA cs xs := by
  cases l with
  | nil => exact h.elim
  | cons x xs => exact ⟨x, xs, rfl, h.1, h.2⟩
theorem fitsA_nil {l : List AV} (h : fitsA [] l) : l = [] := by
  cases l with
  | nil => rfl
  | cons x xs => exact h.elim

def ckOf (P : Program) (u : TypeId) : Option CK :=
  match P.underlying u with
  | some (.int k) => some (.int k)
  | some .bool => some .bool
  | some .string => some .str
  | _ => none
def akOf (P : Program) (t : TypeId) : Option AK :=
  match P.underlying t with
  | some (.struct _) | some (.array _ _) => match P.cellTypes P.depth t with
    | some ts => if P.cellsOf t = ts.length then (mapO (ckOf P) ts).map .agg else none
    | none => none
  | some (.int k) => some (.cell (.int k))
  | some .bool => some (.cell .bool)
  | some .string => some (.cell .str)
  | _ => none

section
variable {P : Program} {W w : World} {F : Nat → Prop} {r : Reach} {b : Nat}

theorem cell_fit {u : TypeId} {c : CK} (h : ckOf P u = some c) {v : Value} (hv : Cell.okWide P W r b u v) : ∃ x, c.fit x ∧ PRep w F x v ∧ isCell x = true := by
  unfold ckOf at h
  split at h
  · rename_i k hk
    simp only [Option.some.injEq] at h; subst h
    simp only [Cell.okWide, hk] at hv
    cases v <;> simp [Cell.ok, hk] at hv
    obtain ⟨rfl, hn⟩ := hv
    exact ⟨.int _ _, ⟨_, rfl, hn⟩, .int _ _, rfl⟩
  · rename_i hk
    simp only [Option.some.injEq] at h; subst h
    simp only [Cell.okWide, hk] at hv
    cases v <;> simp [Cell.ok, hk] at hv
    exact ⟨.bool _, ⟨_, rfl⟩, .bool _, rfl⟩
  · rename_i hk
    simp only [Option.some.injEq] at h; subst h
    simp only [Cell.okWide, hk] at hv
    cases v with
    | string s =>
      refine ⟨.str s.data.toList, ⟨_, rfl⟩, ?_, rfl⟩
      have := PRep.str (w := w) (F := F) s.data.toList
      simpa using this
    | _ => simp [Cell.ok, hk] at hv
  · cases h

theorem cells_fit : ∀ {ts : List TypeId} {cs : List CK} (_ : mapO (ckOf P) ts = some cs) {vs : List Value} (_ : vs.length = ts.length) (_ : ∀ (i : Nat) v u, vs[i]? = some v → ts[i]? = some u → Cell.okWide P W r b u v),
    ∃ xs, fits cs xs ∧ xs.length = vs.length ∧ (∀ x ∈ xs, isCell x = true) ∧ ∀ (i : Nat) x v, xs[i]? = some x → vs[i]? = some v → PRep w F x v
  | [], cs, h, vs, hl, hv => by
    simp [mapO] at h; subst h
    have : vs = [] := List.eq_nil_of_length_eq_zero (by simpa using hl)
    subst this
    exact ⟨[], trivial, rfl, by simp, by simp⟩
  | t :: ts, cs, h, vs, hl, hv => by
    simp only [mapO] at h
    split at h
    · rename_i c cs' h1 h2
      simp only [Option.some.injEq] at h; subst h
      cases vs with
      | nil => cases hl
      | cons v vs =>
        obtain ⟨x, hx1, hx2, hx3⟩ := cell_fit (w := w) (F := F) h1 (hv 0 v t rfl rfl)
        obtain ⟨xs, g1, g2, g3, g4⟩ := cells_fit h2 (vs := vs) (by simpa using hl) fun i v' u hi hu => hv (i + 1) v' u (by simpa using hi) (by simpa using hu)
        refine ⟨x :: xs, ⟨hx1, g1⟩, by simp [g2], ?_, ?_⟩
        · intro y hy
          rcases List.mem_cons.1 hy with rfl | hy
          · exact hx3
          · exact g3 y hy
        · intro i y u hi hu
          cases i with
          | zero => simp at hi hu; subst hi; subst hu; exact hx2
          | succ i => exact g4 i y u (by simpa using hi) (by simpa using hu)
    · cases h

theorem arg_fit {t : TypeId} {k : AK} (h : akOf P t = some k) {v : Value} (hv : Value.okWide P W r b t v) : ∃ x, k.fit x ∧ PRep w F x v := by
  have agg : (match P.cellTypes P.depth t with
    | some ts => if P.cellsOf t = ts.length then (mapO (ckOf P) ts).map AK.agg else none
    | none => none) = some k → (∃ cs, v = .agg cs ∧ cs.size = P.cellsOf t ∧ Row.okWide P W r b t cs) → ∃ x, k.fit x ∧ PRep w F x v := by
    intro h ⟨cs, hcs, hsz, ts, hts, _, hrow⟩
    rw [hts] at h
    simp only [] at h
    split at h
    · rename_i hlen
      cases hm : mapO (ckOf P) ts with
      | none => simp [hm] at h
      | some ks =>
        simp [hm] at h; subst h
        obtain ⟨xs, g1, g2, g3, g4⟩ := cells_fit (w := w) (F := F) (W := W) (r := r) (b := b) hm (vs := cs.toList) (by simp [hsz, hlen]) fun i v u hi hu => by
          have hi' : cs[i]? = some v := by simpa using hi
          obtain ⟨u', hu', hok⟩ := hrow i v hi'
          have hlt : i < ts.length := (List.getElem?_eq_some_iff.1 hu).1
          rw [Nat.mod_eq_of_lt hlt, hu] at hu'
          cases hu'; exact hok
        refine ⟨.agg xs, ⟨xs, rfl, g1⟩, ?_⟩
        subst hcs
        have := PRep.agg xs cs.toList g2 g3 g4
        simpa using this
    · cases h
  have one : ∀ c, ckOf P t = some c → k = .cell c → Cell.okWide P W r b t v → ∃ x, k.fit x ∧ PRep w F x v := fun c hc hk hv => by
    obtain ⟨x, h1, h2, _⟩ := cell_fit (w := w) (F := F) hc hv
    subst hk
    exact ⟨x, h1, h2⟩
  unfold akOf at h
  split at h
  · rename_i fs hu
    simp only [Value.okWide, hu] at hv
    exact agg h hv
  · rename_i n el hu
    simp only [Value.okWide, hu] at hv
    exact agg h hv
  · rename_i k' hu
    simp only [Value.okWide, hu] at hv
    exact one (.int k') (by simp [ckOf, hu]) (by simpa using h.symm) hv
  · rename_i hu
    simp only [Value.okWide, hu] at hv
    exact one .bool (by simp [ckOf, hu]) (by simpa using h.symm) hv
  · rename_i hu
    simp only [Value.okWide, hu] at hv
    exact one .str (by simp [ckOf, hu]) (by simpa using h.symm) hv
  · cases h

theorem args_fit : ∀ {ts : List TypeId} {ks : List AK} (_ : mapO (akOf P) ts = some ks) {vs : List Value} (_ : vs.length = ts.length) (_ : ∀ (i : Nat) t v, ts[i]? = some t → vs[i]? = some v → Value.okWide P W r b t v),
    ∃ xs, fitsA ks xs ∧ xs.length = vs.length ∧ ∀ (i : Nat) x v, xs[i]? = some x → vs[i]? = some v → PRep w F x v
  | [], ks, h, vs, hl, hv => by
    simp [mapO] at h; subst h
    have : vs = [] := List.eq_nil_of_length_eq_zero (by simpa using hl)
    subst this
    exact ⟨[], trivial, rfl, by simp⟩
  | t :: ts, ks, h, vs, hl, hv => by
    simp only [mapO] at h
    split at h
    · rename_i c cs' h1 h2
      simp only [Option.some.injEq] at h; subst h
      cases vs with
      | nil => cases hl
      | cons v vs =>
        obtain ⟨x, hx1, hx2⟩ := arg_fit (w := w) (F := F) h1 (hv 0 t v rfl rfl)
        obtain ⟨xs, g1, g2, g4⟩ := args_fit h2 (vs := vs) (by simpa using hl) fun i u v' hi hu => hv (i + 1) u v' (by simpa using hi) (by simpa using hu)
        refine ⟨x :: xs, ⟨hx1, g1⟩, by simp [g2], ?_⟩
        intro i y u hi hu
        cases i with
        | zero => simp at hi hu; subst hi; subst hu; exact hx2
        | succ i => exact g4 i y u (by simpa using hi) (by simpa using hu)
    · cases h
end

theorem trodAll_length {H : Type} {enc : TypeId × Value → H} {P : Program} {w : World} {base : Nat} {sp : Nat → Bool} {hd : Bool} : ∀ {ts : List TypeId} {vs : List Value} {ds : List (DataW H)} {ps : List MemPlace}, DataW.TrodAll enc P w base sp hd ts vs ds ps → vs.length = ts.length ∧ ds.length = ts.length
  | [], _, _, _, h => by
    obtain ⟨rfl, rfl, rfl⟩ := trodAll_nil h
    exact ⟨rfl, rfl⟩
  | _ :: _, _, _, _, h => by
    obtain ⟨v, vs1, d, ds1, a, b, rfl, rfl, rfl, h1, h2⟩ := trodAll_cons h
    obtain ⟨g1, g2⟩ := trodAll_length h2
    exact ⟨by simp [g1], by simp [g2]⟩

theorem trodAll_below {H : Type} {enc : TypeId × Value → H} {P : Program} (hl : laidOutB P = true) {W W' : World} (hb : Below W.heap.size W W') :
    ∀ {ts : List TypeId} {vs : List Value} {ds : List (DataW H)} {ps : List MemPlace}, (∀ t ∈ ts, P.readableRec t = true ∧ t < P.types.size) → DataW.TrodAll enc P W 0 (fun _ => true) true ts vs ds ps → (∀ x ∈ ps, x.block < W.heap.size) →
    DataW.TrodAll enc P W' 0 (fun b => decide (b < W.heap.size)) true ts vs ds ps
  | [], _, _, _, _, h, _ => by
    obtain ⟨rfl, rfl, rfl⟩ := trodAll_nil h
    exact rfl
  | t :: _, _, _, _, ht, h, hlt => by
    obtain ⟨v, vs1, d, ds1, a, b, rfl, rfl, rfl, h1, h2⟩ := trodAll_cons h
    have := ht t (by simp)
    exact ⟨a, b, Below.trod hl this.1 this.2 h1 hb fun x hx => hlt x (by simp [hx]), trodAll_below hl hb (fun t h => ht t (by simp [h])) h2 fun x hx => hlt x (by simp [hx]), rfl⟩

/-- A law that answers true, of what it is given, is so lifted. -/
theorem lift_true {C : Checked} {f : Nat} {fn : Func} {s : ChangeSpec} (hl : laidOutB C.prog = true) (hvars : s.vars = [])
    (hs : ∀ (H : Type) (ds : List (DataW H)), ds.length = fn.params.size → s.fn H ds = { results := [.lit (.bool true)], args := ds })
    {tb : TypeId} (hres : fn.resultTypes = #[tb]) (hbool : C.prog.underlying tb = some .bool) (hread : (fn.params.toList.all fun t => C.prog.readableRec t && decide (t < C.prog.types.size)) = true)
    {H : Type} {enc : TypeId × Value → H} {W : World} {args : Array Value} {ds gs : List (DataW H)} {before : List MemPlace} (hW : DataW.Whole enc C.prog fn.params.toList s.vars false W args.toList ds gs before)
    {xs : List AV} (hx : Spec C.prog f xs (.bool true)) (hxl : xs.length = args.size) (hrep : ∀ (i : Nat) x v, xs[i]? = some x → args.toList[i]? = some v → PRep W (· < W.heap.size) x v) :
    Calls C.prog f args W fun e W' => ∃ v, e = .returned v ∧ s.post enc C.prog fn false true false false W args v W' := by
  have hWW := hW
  obtain ⟨p, q, hA, hV, hpq, hnf, hnd⟩ := hW
  rw [hvars] at hV
  obtain ⟨rfl, rfl⟩ := trodVars_none hV
  obtain ⟨hk, hcall⟩ := hx
  have hlen := trodAll_length hA
  have := hcall W (· < W.heap.size) args.toList (fun _ h => h) (by simpa using hxl) hrep
  rw [Array.toArray_toList] at this
  refine this.mono fun e W' ⟨v, F', S, he, hbelow, ht, _⟩ => ?_
  have hv : v = .bool true := by
    cases ht with
    | val h => cases h with
      | cell h => cases h with
        | pure h _ => cases h; rfl
  subst hv
  have hlt : ∀ x ∈ p, x.block < W.heap.size := fun x hx => by
    have := hWW.lt x (by rw [hpq]; simp [hx])
    exact this
  have hfn := hs H (ds ++ []) (by simp [hlen.2])
  refine ⟨.bool true, he, ds, [], before, [], p, [], hWW, ?_, ?_, ?_, hbelow.frame _, fun h => by cases h⟩
  · rw [hfn, hres]
    exact ⟨[], [], ⟨1, by simp [DataW.trod, hbool, Value.cells]⟩, rfl, rfl⟩
  · rw [hfn]
    simp only [List.append_nil]
    refine trodAll_below hl hbelow (fun t ht => ?_) hA hlt
    have := List.all_eq_true.1 hread t ht
    simpa using this
  · rw [hfn, hvars]
    exact rfl
end Go.AM
