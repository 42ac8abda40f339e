/- YtcinobbeapgklaaA2Tab2: what is known of functions, as a table; a function's run. No statement of the seat is proved here. -/
import Derived.Test.YtcinobbeapgklaaA2Tab
namespace Go.A2
section
variable {X : Tab}
/-- What is known of a function, of arguments of one form. -/
structure FnK (X : Tab) : Type 1 where
  sk : List (Sk X)
  R : Type
  f : SkA sk → Option R
  enc : R → Ret X
def pickK : List (FnK X) → List (AV X) → Option (Ans X)
  | [], _ => none
  | K :: l, args => match SkA.get K.sk args with
    | some d => some ⟨K.R, K.f d, K.enc⟩
    | none => pickK l args
def fnsC (t : Nat → List (FnK X)) : CK X := callC fun f args => pickK (t f) args
def FnOk (P : Program) (f : Nat) (K : FnK X) : Prop := ∀ d r, K.f d = some r → Spec P f (SkA.put K.sk d) (K.enc r)
theorem pickK_ok {P : Program} {f : Nat} : ∀ {l : List (FnK X)}, (∀ K ∈ l, FnOk P f K) → ∀ {args : List (AV X)} {A : Ans X} {x : A.R}, pickK l args = some A → A.o = some x → Spec P f args (A.enc x)
  | [], _, args, A, x, h, hx => by cases h
  | K :: l, hl, args, A, x, h, hx => by
    simp only [pickK] at h
    split at h
    · rename_i d hd
      cases h
      rw [SkA.get_put hd]
      exact hl K (List.mem_cons_self ..) d x hx
    · exact pickK_ok (fun K hK => hl K (List.mem_cons_of_mem _ hK)) h hx
theorem fnsC_sound {P : Program} {t : Nat → List (FnK X)} (ht : ∀ f, ∀ K ∈ t f, FnOk P f K) : CSound P (fnsC t) := callC_sound fun f _ _ _ h hx => pickK_ok (ht f) h hx
theorem fnsC_mono (t : Nat → List (FnK X)) : CMono (fnsC t) := callC_mono _
end
section
variable {P : Program} {Γ : Cx}
theorem compiled_of {x : FnX} {f : Nat} {af : AFn Γ.X} (h : compFn P Γ x f = some af) (hn : (match P.funcs[f]? with | some fn => fn.name == "runtime.NumGoroutine" | none => true) = false) : Compiled P Γ f af := by
  unfold compFn at h
  split at h
  · rename_i fn hf
    rw [hf] at hn
    unfold compBody at h
    split at h
    · rename_i c hc
      split at h
      · rename_i body j res h1 h2
        split at h
        · rename_i h3
          cases h
          exact ⟨x, fn, c, j, hf, hc, hn, ⟨body, h1, rfl⟩, h2, h3.2, h3.1, rfl, rfl⟩
        · cases h
      · cases h
    · cases h
  · cases h

theorem compiled_of' {x : FnX} {f : Nat} {fn : Func} {af : AFn Γ.X} (hf : P.funcs[f]? = some fn) (h : compBody P Γ x fn = some af) (hn : (fn.name == "runtime.NumGoroutine") = false) : Compiled P Γ f af :=
  compiled_of (by unfold compFn; rw [hf]; exact h) (by rw [hf]; exact hn)

/-- A function, as its tree says. -/
theorem fn_ok (hm : P.follows .mixedOrders = true) (hX : TabOk Γ.X) {t : Nat → List (FnK Γ.X)} (ht : ∀ f, ∀ K ∈ t f, FnOk P f K) {f N : Nat} {af : AFn Γ.X} (hcomp : Compiled P Γ f af) {tm : Nat → Option (MarkK Γ.X)}
    (hmk : ∀ m ∈ marksOf af.body, MarkOk (fnsC t) (markL tm) af.keep N m.1 m.2.1 m.2.2) {K : FnK Γ.X} {T : SkA K.sk → Tree K.R} (hT : ∀ d, K.f d = (T d).eval)
    (hk : ∀ d (k : Ret Γ.X → Option (Ret Γ.X)), runFnK (fnsC t) (markL tm) N af (SkA.put K.sk d) k = (T d).run fun r => k (K.enc r)) : FnOk P f K := by
  intro d r h
  have hC := fnsC_sound ht
  refine fn_sound hm hX hC (drawSound hX hC) hcomp (Nf := N) (runFnK_T (fnsC_mono t) (marksOk_of hmk) ((hk d some).trans ?_))
  rw [hT] at h
  rw [Tree.run_eq, h]; rfl
/-- No marks. -/
theorem no_marks {X : Tab} {C : CK X} {L : LK X} {K : List Nat} {N : Nat} {a : ACode X} (h : marksOf a = []) : ∀ m ∈ marksOf a, MarkOk C L K N m.1 m.2.1 m.2.2 := by
  rw [h]; intro m hm; cases hm
theorem marks_cons {X : Tab} {Q : Nat × List (Nat × Sh) × ACode X → Prop} {m : Nat × List (Nat × Sh) × ACode X} {l : List (Nat × List (Nat × Sh) × ACode X)} (h : Q m) (hl : ∀ m ∈ l, Q m) : ∀ m' ∈ m :: l, Q m' := by
  intro m' hm
  rcases List.mem_cons.1 hm with rfl | hm
  · exact h
  · exact hl m' hm
theorem marks_nil {X : Tab} {Q : Nat × List (Nat × Sh) × ACode X → Prop} : ∀ m' ∈ ([] : List (Nat × List (Nat × Sh) × ACode X)), Q m' := fun m hm => by cases hm
/-- The bound of rounds. -/
def fuel : Nat := 1048576
end
def slOk (b n : Nat) : Bool := Nat.ble (n * b) room && Nat.ble n room
def Sl.lit {α : Type} (b : Nat) (l : List α) (h : slOk b l.length = true) : Sl b α := ⟨l, by
  unfold slOk at h
  rw [Bool.and_eq_true] at h
  exact ⟨Nat.le_of_ble_eq_true h.1, Nat.le_of_ble_eq_true h.2⟩⟩
def Arr.lit {α : Type} (n : Nat) (l : List α) (h : Nat.beq l.length n = true) : Arr n α := ⟨l, Nat.eq_of_beq_eq_true h⟩
section
variable {X : Tab}
def zerosT (X : Tab) : (ts : List X.Ty) → X.Tup ts
  | [] => ()
  | t :: ts => (X.zero t, zerosT X ts)
theorem getT_zeros : ∀ {ts : List X.Ty} {j : Nat} {t : X.Ty} {x : X.den t}, getT ts (zerosT X ts) j = some ⟨t, x⟩ → x = X.zero t
  | [], j, t, x, h => by cases h
  | t' :: ts, 0, t, x, h => by
    simp only [getT, Option.some.injEq, Sigma.mk.injEq] at h
    obtain ⟨rfl, h⟩ := h
    exact (eq_of_heq h).symm
  | t' :: ts, j + 1, t, x, h => getT_zeros (ts := ts) (j := j) h
theorem eqT_iff {α : Type} [DecidableEq α] {x y : α} : eqT x y = true ↔ x = y := decide_eq_true_iff
end
end Go.A2
