/- YtcinobbeapgklaaAmFreeze: what is owned is frozen. No statement of the seat is proved here. -/
import Derived.Test.YtcinobbeapgklaaAmEnv
namespace Go.AM
open Go.RowKit (Below)

theorem CRep.freeze {w : World} {F F' : Nat → Prop} {x : AV} {v : Value} {T : List Nat} (h : CRep w F x v T) (hF : ∀ b, F b → F' b) (hT : ∀ b ∈ T, F' b) : CRep w F' (freezeC x) v [] := by
  cases h with
  | pure h hc =>
    have : freezeC x = x := by cases x <;> first | rfl | simp [isCell] at hc
    rw [this]; exact .pure (h.mono hF fun _ _ => rfl) hc
  | undef h => exact .undef h
  | ownNil esz a => exact .pure (.slNil false a) rfl
  | own esz rows b cap cells ty hg hsz hcap hmx hesz hc h =>
    refine .pure (.sl false rows b 0 esz cap (fun i j => cells.getD (i * esz + j) Go.undef) (hT b (by simp)) hcap (by simp) hesz hc ?_ ?_) rfl
    · intro i j hi hj
      have hr : rows[i]? = some rows[i] := List.getElem?_eq_getElem hi
      have hl : (rows[i]).length = esz := hesz _ (List.getElem_mem hi)
      have hx : (rows[i])[j]? = some ((rows[i])[j]'(by omega)) := List.getElem?_eq_getElem (by omega)
      obtain ⟨u, hu, _⟩ := h i _ j _ hr hx
      simp [World.cell?, hg, hu]
    · intro i r j x hi hj
      obtain ⟨u, hu, hp⟩ := h i r j x hi hj
      have : cells.getD (i * esz + j) Go.undef = u := by simp [Array.getD_eq_getD_getElem?, hu]
      show PRep w F' x (cells.getD (i * esz + j) Go.undef)
      rw [this]; exact hp.mono hF fun _ _ => rfl

theorem CRepL.freeze {w : World} {F F' : Nat → Prop} (hF : ∀ b, F b → F' b) {xs : List AV} {vs : List Value} {T : List Nat} (h : CRepL w F xs vs T) (hT : ∀ b ∈ T, F' b) :
    CRepL w F' (xs.map freezeC) vs [] := by
  induction h with
  | nil => exact .nil
  | cons h t ih => exact .cons (S := []) (h.freeze hF fun b hb => hT b (by simp [hb])) (ih fun b hb => hT b (by simp [hb]))

theorem VRep.freeze {w : World} {F F' : Nat → Prop} (hF : ∀ b, F b → F' b) {x : AV} {v : Value} {T : List Nat} (h : VRep w F x v T) (hT : ∀ b ∈ T, F' b) : VRep w F' (freeze1 x) v [] := by
  cases h with
  | cell h =>
    have : freeze1 x = freezeC x := by cases h with
      | pure h hc => cases x <;> first | rfl | simp [isCell] at hc
      | _ => rfl
    rw [this]; exact .cell (h.freeze hF hT)
  | agg h => exact .agg (h.freeze hF hT)
  | undef => exact .undef

theorem VRepL.freeze {w : World} {F F' : Nat → Prop} (hF : ∀ b, F b → F' b) {xs : List AV} {vs : List Value} {T : List Nat} (h : VRepL w F xs vs T) (hT : ∀ b ∈ T, F' b) :
    VRepL w F' (xs.map freeze1) vs [] := by
  induction h with
  | nil => exact .nil
  | cons h t ih => exact .cons (S := []) (h.freeze hF fun b hb => hT b (by simp [hb])) (ih fun b hb => hT b (by simp [hb]))

theorem TRep.freeze {w : World} {F F' : Nat → Prop} (hF : ∀ b, F b → F' b) {x : AV} {v : Value} {T : List Nat} (h : TRep w F x v T) (hT : ∀ b ∈ T, F' b) : TRep w F' (freezeT x) v [] := by
  cases h with
  | val h =>
    have : freezeT x = freeze1 x := by cases h with
      | cell h => cases h with
        | pure h hc => cases x <;> first | rfl | simp [isCell] at hc
        | _ => rfl
      | _ => rfl
    rw [this]; exact .val (h.freeze hF hT)
  | tup h => exact .tup (h.freeze hF hT)

section
variable {K : List Nat} {F0 : Nat → Prop} {B n : Nat} {w0 : World} {F : Nat → Prop} {S : Nat → List Nat} {e : Env} {a : Act} {w : World}

/-- Blocks that no slot owns may be read by all, and written by nobody. -/
theorem EnvRel.absorb (h : EnvRel K F0 B n w0 F S e a w) {T : List Nat} (hT : ∀ b ∈ T, B ≤ b ∧ b < w.heap.size) (hS : ∀ b ∈ T, ∀ s, b ∉ S s) :
    EnvRel K F0 B n w0 (fun b => F b ∨ b ∈ T) S e a w := by
  refine ⟨h.size, h.defers, fun s => (h.rep s).ext (fun _ hb => .inl hb) (fun _ _ => rfl) h.free (fun b hb => (h.own s b hb).2.1) fun _ _ _ => rfl, h.nodup, h.apart, ?_, ?_, ?_, fun b hb => .inl (h.keeps b hb), h.below, h.base⟩
  · intro s b hb
    obtain ⟨h1, h2, h3⟩ := h.own s b hb
    exact ⟨h1, h2, fun hf => hf.elim h3 fun hb' => hS b hb' s hb⟩
  · rintro b (hb | hb)
    · exact h.free b hb
    · exact (hT b hb).2
  · rintro b (hb | hb)
    · exact h.old b hb
    · exact .inr (hT b hb).1

/-- A slot reads otherwise: the frame is as it was. -/
theorem EnvRel.reval (h : EnvRel K F0 B n w0 F S e a w) {d : Nat} (hn : NoRef e d) {x : AV} {T : List Nat} (hh : Hand K B F S e a w x (a.tmps.getD d Go.undef) T)
    (hx : refRoot x = none) : EnvRel K F0 B n w0 F (updS S d T) (upd e d x) a w := by
  have hf := h.forget d hn
  refine ⟨h.size, h.defers, ?_, ?_, ?_, ?_, h.free, h.old, h.keeps, h.below, h.base⟩
  · intro s
    by_cases hs : s = d
    · subst hs; rw [upd_same, updS_same]; exact hh.rep.env fun s' hs' => by rw [hx] at hs'; cases hs'
    · have := hf.rep s
      rw [upd_ne e _ hs, updS_ne S _ hs] at this ⊢
      exact (h.rep s).env fun s' hs' _ => upd_ne e _ fun he => hn s (by rw [hs', he])
  · intro s
    by_cases hs : s = d
    · subst hs; rw [updS_same]; exact hh.nodup
    · rw [updS_ne S _ hs]; exact h.nodup s
  · intro s t b hst hb
    by_cases hs : s = d
    · subst hs
      rw [updS_same] at hb
      rw [updS_ne S T (Ne.symm hst)]
      exact hh.apart b hb t
    · rw [updS_ne S T hs] at hb
      by_cases ht : t = d
      · subst ht; rw [updS_same]; exact fun hb' => hh.apart b hb' s hb
      · rw [updS_ne S T ht]; exact h.apart s t b hst hb
  · intro s b hb
    by_cases hs : s = d
    · subst hs; rw [updS_same] at hb; exact hh.own b hb
    · rw [updS_ne S T hs] at hb; exact h.own s b hb

theorem updS_updS (S : Nat → List Nat) (d : Nat) (x y : List Nat) : updS (updS S d x) d y = updS S d y := by
  funext s; unfold updS; split <;> rfl
theorem upd_upd (e : Env) (d : Nat) (x y : AV) : upd (upd e d x) d y = upd e d y := by
  funext s; unfold upd; split <;> rfl

/-- What is owned, and what is read, came from there. -/
structure Less (F : Nat → Prop) (S : Nat → List Nat) (F1 : Nat → Prop) (S1 : Nat → List Nat) : Prop where
  keeps : ∀ b, F b → F1 b
  from_ : ∀ b, F1 b → F b ∨ ∃ s, b ∈ S s
  owned : ∀ s b, b ∈ S1 s → ∃ t, b ∈ S t
theorem Less.refl (F : Nat → Prop) (S : Nat → List Nat) : Less F S F S := ⟨fun _ h => h, fun _ h => .inl h, fun s _ h => ⟨s, h⟩⟩
theorem Less.trans {F F1 F2 : Nat → Prop} {S S1 S2 : Nat → List Nat} (h : Less F S F1 S1) (k : Less F1 S1 F2 S2) : Less F S F2 S2 :=
  ⟨fun b hb => k.keeps b (h.keeps b hb), fun b hb => (k.from_ b hb).elim (h.from_ b) fun ⟨s, hs⟩ => .inr (h.owned s b hs), fun s b hb => let ⟨t, ht⟩ := k.owned s b hb; h.owned t b ht⟩
theorem Less.updS {F : Nat → Prop} {S : Nat → List Nat} (d : Nat) : Less F S F (Go.AM.updS S d []) :=
  ⟨fun _ h => h, fun _ h => .inl h, fun s b h => by
    by_cases hs : s = d
    · subst hs; rw [updS_same] at h; cases h
    · rw [updS_ne S _ hs] at h; exact ⟨s, h⟩⟩

/-- A slot whose value owns (no variable in memory) is frozen. -/
theorem EnvRel.freezeSlot (h : EnvRel K F0 B n w0 F S e a w) (d : Nat) (hb : ∀ cs, e d ≠ .box cs) (hr : refRoot (e d) = none) :
    ∃ F', EnvRel K F0 B n w0 F' (updS S d []) (upd (Go.AM.kill d e) d (freezeT (e d))) a w ∧ Less F S F' (updS S d []) ∧ TRep w F' (freezeT (e d)) (a.tmps.getD d Go.undef) [] := by
  have hd := h.drop d
  have hT : ∀ b ∈ S d, ∀ s, b ∉ updS S d [] s := fun b hb s => by
    by_cases hs : s = d
    · subst hs; rw [updS_same]; simp
    · rw [updS_ne S _ hs]; exact h.apart d s b (Ne.symm hs) hb
  have h1 := hd.absorb (T := S d) (fun b hb => ⟨(h.own d b hb).1, (h.own d b hb).2.1⟩) hT
  have hrep := h.rep d
  have ht : TRep w F (e d) (a.tmps.getD d Go.undef) (S d) := by
    generalize a.tmps.getD d Go.undef = v at hrep
    generalize S d = T at hrep
    generalize e d = x at hrep hb hr
    cases hrep with
    | val h => exact h
    | box cs => exact absurd rfl (hb cs)
    | ref => simp [refRoot] at hr
    | ptr => simp [refRoot] at hr
  have hfz := ht.freeze (F' := fun b => F b ∨ b ∈ S d) (fun _ hb => .inl hb) fun _ hb => .inr hb
  refine ⟨_, ?_, ⟨fun _ hb => .inl hb, fun b hb => hb.elim .inl fun hb => .inr ⟨d, hb⟩, (Less.updS (F := F) d).owned⟩, hfz⟩
  have hnr : NoRef (Go.AM.drop e d) d := h1.noRef (by simp [Go.AM.drop, upd_same, isOwner])
  have h2 := h1.reval (d := d) hnr (x := freezeT (e d)) (T := []) (Hand.of_pure (.val hfz)) (TRep_refRoot hfz)
  rw [updS_updS] at h2
  unfold Go.AM.drop at h2
  rw [upd_upd] at h2
  exact h2

/-- What slot s owns is frozen: those who refer to it read it. -/
theorem EnvRel.freezeRoot (h : EnvRel K F0 B n w0 F S e a w) {s : Nat} {z : Nat} {rows : List (List AV)} (hs : e s = .own z rows) :
    ∃ F', EnvRel K F0 B n w0 F' (updS S s []) (Go.AM.freezeRoot e s rows) a w ∧ Less F S F' (updS S s []) ∧ PRep w F' (.sl false rows) (a.tmps.getD s Go.undef) := by
  obtain ⟨F', h1, hF, ht⟩ := h.freezeSlot s (by simp [hs]) (by simp [hs, refRoot])
  have hp : PRep w F' (.sl false rows) (a.tmps.getD s Go.undef) := by
    rw [hs] at ht
    simp only [freezeT, freeze1, freezeC] at ht
    cases ht with
    | val h => cases h with
      | cell h => cases h with
        | pure h _ => exact h
  refine ⟨F', ?_, hF, hp⟩
  refine ⟨h.size, h.defers, ?_, h1.nodup, h1.apart, h1.own, h1.free, h1.old, h1.keeps, h1.below, h1.base⟩
  intro t
  unfold Go.AM.freezeRoot
  by_cases hts : t = s
  · subst hts; rw [upd_same, updS_same]; exact .val (.val (.cell (.pure hp rfl)))
  · rw [upd_ne _ _ hts, updS_ne S _ hts]
    have hr1 := h1.rep t
    rw [upd_ne _ _ hts, updS_ne S _ hts] at hr1
    have hown : ∀ s', s' ≠ s → isOwner (e s') = true → (upd (fun s' => resolveR s rows (e s')) s (.sl false rows)) s' = e s' := fun s' hne ho => by
      rw [upd_ne _ _ hne]
      cases he : e s' <;> simp [he, isOwner] at ho <;> rfl
    have hk : ∀ x, (∀ s' c, x ≠ .ref s' c) → (∀ s' c r o, x ≠ .ptr s' c r o) → resolveR s rows x = x := fun x h1 h2 => by
      cases x <;> first | rfl | exact absurd rfl (h1 _ _) | exact absurd rfl (h2 _ _ _ _)
    have hr0 := h.rep t
    have hSt : (S t) = S t := rfl
    cases het : e t with
    | ref s' c =>
      rw [het] at hr0
      generalize hv : a.tmps.getD t Go.undef = v at hr0
      generalize S t = T at hr0
      cases hr0 with
      | val h => have := TRep_refRoot h; simp [refRoot] at this
      | ref _ _ _ hr hb' hdr' hK =>
        by_cases hss : s' = s
        · subst hss
          cases c with
          | none =>
            simp only [resolveR, if_true]
            rw [hdr']
            exact .val (.val (.cell (.pure hp rfl)))
          | some k => simp only [resolveR, if_true]; exact .val (.val .undef)
        · have hres : resolveR s rows (.ref s' c) = .ref s' c := by cases c <;> simp [resolveR, hss]
          rw [hres]
          cases hc : content e s' c with
          | none => simp [hc] at hr
          | some rs =>
            have he' := hown s' hss (content_owner hc)
            exact .ref s' c _ (by rw [content_congr he', hc]; rfl) (by rw [he']; exact hb') hdr' hK
    | ptr s' c row off =>
      rw [het] at hr0
      generalize hv : a.tmps.getD t Go.undef = v at hr0
      generalize S t = T at hr0
      cases hr0 with
      | val h => have := TRep_refRoot h; simp [refRoot] at this
      | ptr _ _ _ _ rs r b hr hrow hb' hK =>
        by_cases hss : s' = s
        · subst hss; simp only [resolveR, if_true]; exact .val (.val .undef)
        · have hres : resolveR s rows (.ptr s' c row off) = .ptr s' c row off := by simp [resolveR, hss]
          rw [hres]
          have he' := hown s' hss (content_owner hr)
          exact .ptr s' c row off rs r b (by rw [content_congr he']; exact hr) hrow hb' hK
    | _ =>
      have hkt : Go.AM.kill s e t = e t := by simp only [Go.AM.kill]; rw [het]; rfl
      rw [hkt, het] at hr1
      rw [hk _ (by simp) (by simp)]
      exact hr1.env fun s' hs' => by simp [refRoot] at hs'

end
end Go.AM
