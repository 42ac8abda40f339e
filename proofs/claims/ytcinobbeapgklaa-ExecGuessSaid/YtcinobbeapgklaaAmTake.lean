/- YtcinobbeapgklaaAmTake: operands that are frozen, taken. No statement of the seat is proved here. -/
import Derived.Test.YtcinobbeapgklaaAmCall
namespace Go.AM
open Go.RowKit (Below)

section
variable {P : Program} {K : List Nat} {F0 : Nat → Prop} {B n : Nat} {w0 : World} {F : Nat → Prop} {S : Nat → List Nat} {e : Env} {a : Act} {w : World}

theorem owns_refRoot {x : AV} (h : owns x = true) : refRoot x = none := by
  cases x <;> first | rfl | simp [owns, owns1] at h

theorem EnvRel.fzV (h : EnvRel K F0 B n w0 F S e a w) (x : AX) : ∃ F1 S1, EnvRel K F0 B n w0 F1 S1 (Go.AM.fzV e x) a w ∧ Less F S F1 S1 := by
  have same : ∃ F1 S1, EnvRel K F0 B n w0 F1 S1 e a w ∧ Less F S F1 S1 := ⟨F, S, h, .refl _ _⟩
  unfold Go.AM.fzV
  split
  · rename_i s
    split
    · exact same
    · exact same
    · rename_i hno hnb
      split
      · rename_i ho
        obtain ⟨F', h1, hF, _⟩ := h.freezeSlot s (fun cs => hnb cs) (owns_refRoot ho)
        exact ⟨F', _, h1, hF⟩
      · exact same
  · exact same

theorem EnvRel.fzT (h : EnvRel K F0 B n w0 F S e a w) (x : AX) : ∃ F1 S1, EnvRel K F0 B n w0 F1 S1 (Go.AM.fzT e x) a w ∧ Less F S F1 S1 := by
  have same : ∃ F1 S1, EnvRel K F0 B n w0 F1 S1 e a w ∧ Less F S F1 S1 := ⟨F, S, h, .refl _ _⟩
  unfold Go.AM.fzT
  split
  · rename_i s
    split
    · exact same
    · exact same
    · rename_i hno hnb
      split
      · rename_i ho
        obtain ⟨F', h1, hF, _⟩ := h.freezeSlot s (fun cs => hnb cs) (owns_refRoot ho)
        exact ⟨F', _, h1, hF⟩
      · exact same
  · exact h.fzV _

theorem EnvRel.fzs (h : EnvRel K F0 B n w0 F S e a w) (xs : List AX) : ∃ F1 S1, EnvRel K F0 B n w0 F1 S1 (Go.AM.fzs e xs) a w ∧ Less F S F1 S1 := by
  induction xs generalizing e F S with
  | nil => exact ⟨F, S, h, .refl _ _⟩
  | cons x xs ih =>
    obtain ⟨F1, S1, h1, hF1⟩ := h.fzT x
    obtain ⟨F2, S2, h2, hF2⟩ := ih h1
    exact ⟨F2, S2, h2, hF1.trans hF2⟩

theorem compX_slot {X : Operand} {s : Nat} (h : compX K X = some (.t s) ∨ compX K X = some (.v s)) : X = .tmp s := by
  cases X with
  | tmp t =>
    rcases h with h | h <;> simp only [compX, Option.some.injEq] at h <;> split at h <;> first | (cases h; rfl) | cases h
  | const v => rcases h with h | h <;> (simp only [compX] at h; cases hc : cv v <;> simp [hc] at h)
  | func f => rcases h with h | h <;> simp [compX] at h
  | global g => rcases h with h | h <;> simp [compX] at h

theorem noOwn_T {x : AV} {v : Value} {T : List Nat} (h : SRep K e a w F x v T) (ho : owns x = false) : T = [] := by
  have cl : ∀ xs us T, CRepL w F xs us T → xs.any isOwn = false → T = [] := fun xs us T h => by
    induction h with
    | nil => exact fun _ => rfl
    | cons h t ih =>
      intro hx
      simp only [List.any_cons, Bool.or_eq_false_iff] at hx
      rw [ih hx.2, List.append_nil]
      cases h <;> first | rfl | simp [isOwn] at hx
  have vr : ∀ x u T, VRep w F x u T → owns1 x = false → T = [] := fun x u T h hx => by
    cases h with
    | cell h => cases h <;> first | rfl | simp [owns1] at hx
    | agg h => exact cl _ _ _ h (by simpa [owns1] using hx)
    | undef => rfl
  have vl : ∀ xs us T, VRepL w F xs us T → xs.any owns1 = false → T = [] := fun xs us T h => by
    induction h with
    | nil => exact fun _ => rfl
    | cons h t ih =>
      intro hx
      simp only [List.any_cons, Bool.or_eq_false_iff] at hx
      rw [ih hx.2, vr _ _ _ h hx.1]; rfl
  cases h with
  | val h => cases h with
    | val h =>
      refine vr _ _ _ h ?_
      cases h with
      | cell h => cases h with
        | pure h hc => cases x <;> first | exact ho | simp [isCell] at hc
        | _ => exact ho
      | _ => exact ho
    | tup h => exact vl _ _ _ h (by simpa [owns] using ho)
  | box => simp [owns, owns1] at ho
  | ref => rfl
  | ptr => rfl

theorem freezeT_notOwn {x : AV} (hb : ∀ cs, x ≠ .box cs) : (∀ z rows, freezeT x ≠ .own z rows) ∧ ∀ cs, freezeT x ≠ .box cs := by
  cases x <;> first | exact absurd rfl (hb _) | exact ⟨by intro z rows h; simp [freezeT, freeze1, freezeC] at h, by intro cs h; simp [freezeT, freeze1, freezeC] at h⟩

/-- A variable or a constant, read: what it holds besides a slice or a variable of its own is frozen. -/
theorem EnvRel.rdV (h : EnvRel K F0 B n w0 F S e a w) {X : Operand} {x : AX} (hx : compX K X = some x) (hnt : ∀ s, x ≠ .t s) :
    ∃ F1 S1, EnvRel K F0 B n w0 F1 S1 (Go.AM.fzV e x) a w ∧ Less F S F1 S1 ∧ SRep K (Go.AM.fzV e x) a w F1 (Go.AM.rd (Go.AM.fzV e x) x) (a.eval X) [] := by
  cases x with
  | t s => exact absurd rfl (hnt s)
  | c y =>
    refine ⟨F, S, h, .refl _ _, ?_⟩
    cases X with
    | tmp t => simp only [compX, Option.some.injEq] at hx; split at hx <;> cases hx
    | const v =>
      simp only [compX] at hx
      cases hc : cv v with
      | none => simp [hc] at hx
      | some q => simp [hc] at hx; subst hx; exact (cv_sound hc w F).1.srep
    | func f => simp [compX] at hx; subst hx; exact .val (.val (.cell (.pure (PRep.fn f [] [] rfl (by simp) (by simp)) rfl)))
    | global g => simp [compX] at hx
  | v s =>
    have hX := compX_slot (.inr hx)
    subst hX
    have plain : ∀ {F S}, EnvRel K F0 B n w0 F S e a w → owns (e s) = false ∨ (∃ z rows, e s = .own z rows) ∨ (∃ cs, e s = .box cs) → SRep K e a w F (Go.AM.rd e (.v s)) (a.eval (.tmp s)) [] := fun {F S} h ho => by
      obtain ⟨T, hr⟩ := h.rd hx
      rcases ho with ho | ⟨z, rows, ho⟩ | ⟨cs, ho⟩
      · have : Go.AM.rd e (.v s) = e s := by cases hes : e s <;> simp_all [Go.AM.rd, owns, owns1]
        rw [this] at hr ⊢
        have := noOwn_T hr ho
        subst this; exact hr
      · have : Go.AM.rd e (.v s) = .ref s none := by simp [Go.AM.rd, ho]
        rw [this] at hr ⊢
        have := noOwn_T hr rfl
        subst this; exact hr
      · have : Go.AM.rd e (.v s) = .ptr s none 0 0 := by simp [Go.AM.rd, ho]
        rw [this] at hr ⊢
        have := noOwn_T hr rfl
        subst this; exact hr
    unfold Go.AM.fzV
    simp only []
    split
    · rename_i z rows hes
      exact ⟨F, S, h, .refl _ _, plain h (.inr (.inl ⟨z, rows, hes⟩))⟩
    · rename_i cs hes
      exact ⟨F, S, h, .refl _ _, plain h (.inr (.inr ⟨cs, hes⟩))⟩
    · rename_i hno hnb
      split
      · rename_i ho
        obtain ⟨F', h1, hF, ht⟩ := h.freezeSlot s (fun cs => hnb cs) (owns_refRoot ho)
        refine ⟨F', _, h1, hF, ?_⟩
        obtain ⟨n1, n2⟩ := freezeT_notOwn (x := e s) fun cs => hnb cs
        have : Go.AM.rd (upd (Go.AM.kill s e) s (freezeT (e s))) (.v s) = freezeT (e s) := by
          simp only [Go.AM.rd, upd_same]
          try (cases hq : freezeT (e s) <;> first | rfl | exact absurd hq (n1 _ _) | exact absurd hq (n2 _))
        rw [this]
        exact .val ht
      · rename_i ho
        exact ⟨F, S, h, .refl _ _, plain h (.inl (by simpa using ho))⟩

/-- An operand's value is taken, with what it owns. -/
theorem EnvRel.take (h : EnvRel K F0 B n w0 F S e a w) {X : Operand} {x : AX} (hx : compX K X = some x) {solo : Bool} {v : AV} {e1 : Env} (ht : Go.AM.take solo e x = some (v, e1)) :
    ∃ F1 S1 T, EnvRel K F0 B n w0 F1 S1 e1 a w ∧ Hand K B F1 S1 e1 a w v (a.eval X) T ∧ (Less F S F1 S1 ∧ ∀ b ∈ T, ∃ s, b ∈ S s) ∧ refRoot v = none := by
  -- where the operand is no temporary
  have other : (∀ s, x ≠ .t s) → ∃ F1 S1 T, EnvRel K F0 B n w0 F1 S1 e1 a w ∧ Hand K B F1 S1 e1 a w v (a.eval X) T ∧ (Less F S F1 S1 ∧ ∀ b ∈ T, ∃ s, b ∈ S s) ∧ refRoot v = none := fun hnt => by
    obtain ⟨F1, S1, h1, hF1, hr⟩ := h.rdV hx hnt
    unfold Go.AM.take at ht
    simp only [] at ht
    generalize hee : Go.AM.fzV e x = e2 at *
    split at ht
    · rename_i s hrd
      split at ht
      · rename_i z rows hes
        split at ht
        · simp only [Option.some.injEq, Prod.mk.injEq] at ht
          obtain ⟨rfl, rfl⟩ := ht
          obtain ⟨F2, h2, hF2, hp⟩ := h1.freezeRoot hes
          rw [hrd] at hr
          generalize a.eval X = u at hr
          cases hr with
          | val h => have := TRep_refRoot h; simp [refRoot] at this
          | ref _ _ _ hr' hb hd hK =>
            rw [hd]
            exact ⟨F2, _, [], h2, Hand.of_pure hp.srep, ⟨hF1.trans hF2, by simp⟩, rfl⟩
        · cases ht
      · cases ht
    · cases ht
    · cases ht
    · rename_i n1 n2 n3
      have hout : v = Go.AM.rd e2 x ∧ e1 = e2 := by
        simp only [Option.some.injEq, Prod.mk.injEq] at ht; exact ⟨ht.1.symm, ht.2.symm⟩
      obtain ⟨rfl, rfl⟩ := hout
      refine ⟨F1, S1, [], h1, Hand.of_pure hr, ⟨hF1, by simp⟩, ?_⟩
      cases hq : Go.AM.rd e1 x with
      | ref s c => cases c with
        | none => exact absurd hq (n1 s)
        | some k => exact absurd hq (n2 s _)
      | ptr s c r o => exact absurd hq (n3 s c r o)
      | _ => rfl
  cases hxx : x with
  | v s => exact other fun s' hs => by rw [hxx] at hs; cases hs
  | c y => exact other fun s' hs => by rw [hxx] at hs; cases hs
  | t s =>
    subst hxx
    have hX := compX_slot (.inl hx)
    subst hX
    have hr := h.rd hx
    unfold Go.AM.take at ht
    have hfz : Go.AM.fzV e (.t s) = e := rfl
    simp only [hfz] at ht
    split at ht
    · rename_i r hrd
      split at ht
      · rename_i z rows hes
        split at ht
        · simp only [Option.some.injEq, Prod.mk.injEq] at ht
          obtain ⟨rfl, rfl⟩ := ht
          obtain ⟨F2, h2, hF2, hp⟩ := h.freezeRoot hes
          obtain ⟨T, hr⟩ := hr
          rw [hrd] at hr
          generalize a.eval (.tmp s) = u at hr
          cases hr with
          | val h => have := TRep_refRoot h; simp [refRoot] at this
          | ref _ _ _ hr' hb hd hK =>
            rw [hd]
            exact ⟨F2, _, [], h2, Hand.of_pure hp.srep, ⟨hF2, by simp⟩, rfl⟩
        · cases ht
      · cases ht
    · cases ht
    · cases ht
    · rename_i n1 n2 n3
      split at ht
      · rename_i ho
        simp only [Option.some.injEq, Prod.mk.injEq] at ht
        obtain ⟨rfl, rfl⟩ := ht
        exact ⟨F, _, S s, h.drop s, h.hand s rfl (owns_refRoot ho), ⟨.updS s, fun b hb => ⟨s, hb⟩⟩, owns_refRoot ho⟩
      · rename_i ho
        simp only [Option.some.injEq, Prod.mk.injEq] at ht
        obtain ⟨rfl, rfl⟩ := ht
        obtain ⟨T, hr⟩ := hr
        have hrd : Go.AM.rd e (.t s) = e s := by cases hes : e s <;> simp_all [Go.AM.rd, owns, owns1]
        rw [hrd] at hr
        have hT := noOwn_T hr (by simpa using ho)
        subst hT
        rw [hrd]
        refine ⟨F, S, [], h, Hand.of_pure hr, ⟨.refl _ _, by simp⟩, ?_⟩
        rw [hrd] at n1 n2 n3
        cases hq : e s with
        | ref s c => cases c with
          | none => exact absurd hq (n1 s)
          | some k => exact absurd hq (n2 s _)
        | ptr s c r o => exact absurd hq (n3 s c r o)
        | _ => rfl

end
end Go.AM
