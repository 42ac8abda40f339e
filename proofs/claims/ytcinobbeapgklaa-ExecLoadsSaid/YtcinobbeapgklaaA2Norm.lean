/- YtcinobbeapgklaaA2Norm: slots brought to one form. No statement of the seat is proved here. -/
import Derived.Test.YtcinobbeapgklaaA2Step
namespace Go.A2
section
variable {X : Tab}
mutual
theorem gen_alive (g : Nat) : ∀ o : Own, (o.gen g).alive = o.alive
  | .no => rfl
  | .full => rfl
  | .yes _ => rfl
  | .dead => rfl
  | .st l => gen_aliveL g l
theorem gen_aliveL (g : Nat) : ∀ l : List Own, Own.aliveL (Own.genL g l) = Own.aliveL l
  | [] => rfl
  | o :: l => by simp only [Own.genL, Own.aliveL, gen_alive g o, gen_aliveL g l]
end
theorem ownAt_genR {g : Nat} : ∀ {q : List PS} {o : Own}, ownAt (o.gen g) q = (ownAt o q).gen g
  | [], o => rfl
  | .fld j :: q, o => by
    simp only [ownAt]
    have : (o.gen g).fldD j = (o.fldD j).gen g := by
      cases o with
      | st l => exact genL_getD g l j
      | _ => rfl
    rw [this]
    exact ownAt_genR
  | .idx j :: q, o => by cases o <;> rfl
theorem mkE_map {α : Type} (f : α → AV X) (k : α → Nat) : ∀ (D : List α) (s : Nat), (mkE (D.map fun q => (k q, f q)) s = .undef ∧ ∀ q ∈ D, k q ≠ s) ∨ ∃ q ∈ D, k q = s ∧ mkE (D.map fun q => (k q, f q)) s = f q
  | [], s => .inl ⟨rfl, by simp⟩
  | q :: D, s => by
    simp only [List.map_cons, mkE]
    by_cases h : s = k q
    · exact .inr ⟨q, by simp, h.symm, by rw [if_pos h]⟩
    · rw [if_neg h]
      rcases mkE_map f k D s with ⟨h1, h2⟩ | ⟨q', h1, h2, h3⟩
      · exact .inl ⟨h1, fun q' hq => by rcases List.mem_cons.1 hq with rfl | hq; exact Ne.symm h; exact h2 q' hq⟩
      · exact .inr ⟨q', by simp [h1], h2, h3⟩

section
variable {N : Slots} {F0 B U : Nat → Prop} {w0 : World} {F : Nat → Prop} {S : Nat → List Nat} {e : Env X} {a : Act} {w : World}

/-- Slots are shaped. -/
theorem EnvRel.shaped (h : EnvRel N F0 B (· < 1) w0 F S e a w) {e' : Env X} (hs : ∀ s, e' s = e s ∨ e' s = .undef ∨ (∃ (b : Nat) (t : X.Ty) (l : Sl b (X.den t)), e s = .val (.slice b t) l .full ∧ l.l = [] ∧ e' s = .val (.slice b t) l (.yes 1)) ∨
      ∃ (T : X.Ty) (v : X.den T) (o : Own), e s = .val T v o ∧ o.pure = true ∧ e' s = .val T v .no) : ∃ S', EnvRel N F0 B (· < 2) w0 F S' e' a w := by
  classical
  have hk : Kept (· < 1) e a w e' a w := h.kept fun s => by
    rcases hs s with h1 | h1 | ⟨b, t, l, _, _, h1⟩ | ⟨T, v, o, _, _, h1⟩
    · exact .inl ⟨h1, rfl, fun _ _ => rfl⟩
    · exact .inr (by rw [h1]; trivial)
    · exact .inr (by rw [h1]; show ¬ (1 < 1); omega)
    · exact .inr (by rw [h1]; trivial)
  let S' : Nat → List Nat := fun s => if e' s = e s then S s else []
  have hsub : ∀ s b, b ∈ S' s → b ∈ S s := fun s b hb => by
    have hb : b ∈ (if e' s = e s then S s else []) := hb
    split at hb
    · exact hb
    · cases hb
  refine ⟨S', h.size, h.lent, h.defers, fun s => ?_, fun s => ?_, fun s => ?_, fun s => ?_, fun s t b hst hbs hbt => h.apart s t b hst (hsub s b hbs) (hsub t b hbt), fun s b hb => h.own s b (hsub s b hb), h.free, h.old, h.keeps, h.below, h.base⟩
  · show SRep e' a w F (e' s) _ (if e' s = e s then S s else [])
    by_cases hes : e' s = e s
    · rw [if_pos hes, hes]; exact (h.rep s).step (fun _ h => h) (fun _ _ => rfl) hk (h.refs s) fun _ _ => rfl
    · rw [if_neg hes]
      rcases hs s with h1 | h1 | ⟨b, t, l, h0, hl, h1⟩ | ⟨T, v, o, h0, hp, h1⟩
      · exact absurd h1 hes
      · rw [h1]; exact .u (.undef _)
      · rw [h1]
        obtain ⟨cs, k1, k2⟩ := h.valAt h0
        obtain ⟨_, hS⟩ := k1.toPure rfl
        rw [hS] at k1
        have key : ∀ {T : X.Ty} {v : X.den T} {o : Own} {cs : List Value} {R : List Nat}, VRep w F T v o cs R → T = .slice b t → HEq v l → o = .full → ∃ ad, cs = [.slice ad 0 0] := fun hv hT hvl ho => by
          cases hv with
          | full b' t' v ad hp =>
            cases hT; cases hvl
            exact ⟨ad, by rw [hl]; rfl⟩
          | _ => cases ho
        obtain ⟨ad, hcs⟩ := key k1 rfl HEq.rfl rfl
        rw [hcs] at k2
        exact .u (.val (.slice b t) l (.yes 1) _ [.slice ad 0 0] [] (.ownNil b t l 1 ad hl) k2)
      · rw [h1]
        obtain ⟨cs, k1, k2⟩ := h.valAt h0
        exact .u (.val T v .no _ cs [] (.pure (k1.toPure hp).1) k2)
  · rcases hs s with h1 | h1 | ⟨b, t, l, _, _, h1⟩ | ⟨T, v, o, _, _, h1⟩
    · rw [h1]; exact (h.owns s).imp fun g (hg : g < 1) => show g < 2 by omega
    · rw [h1]; trivial
    · rw [h1]; show 1 < 2; omega
    · rw [h1]; trivial
  · rcases hs s with h1 | h1 | ⟨b, t, l, _, _, h1⟩ | ⟨T, v, o, _, _, h1⟩
    · rw [h1]; exact (h.refs s).imp fun g (hg : g < 1) => show g < 2 by omega
    · rw [h1]; trivial
    · rw [h1]; trivial
    · rw [h1]; trivial
  · show (if e' s = e s then S s else []).Nodup
    split
    · exact h.nodup s
    · exact List.nodup_nil

/-- Slots are brought to one place. -/
theorem EnvRel.normed (h : EnvRel N F0 B U w0 F S e a w) {e' : Env X} (hs : ∀ s, e' s = .undef ∨ e' s = norm e (e s)) : ∃ S', EnvRel N F0 B (· < 1) w0 F S' e' a w := by
  classical
  -- what a slot's contents are now
  have hslot : ∀ s T v o, slotC (e' s) = some ⟨T, v, o⟩ → ∃ o0, slotC (e s) = some ⟨T, v, o0⟩ ∧ o = o0.gen 0 := fun s T v o hc => by
    rcases hs s with h1 | h1
    · rw [h1] at hc; cases hc
    · rw [h1] at hc
      cases hes : e s with
      | val T1 v1 o1 =>
        rw [hes] at hc
        simp only [norm, slotC, Option.some.injEq, Sigma.mk.injEq] at hc
        obtain ⟨rfl, hc⟩ := hc
        cases hc
        exact ⟨o1, rfl, rfl⟩
      | box g1 T1 v1 o1 =>
        rw [hes] at hc
        simp only [norm, slotC, Option.some.injEq, Sigma.mk.injEq] at hc
        obtain ⟨rfl, hc⟩ := hc
        cases hc
        exact ⟨o1, rfl, rfl⟩
      | tup l => rw [hes] at hc; cases hc
      | fn f as bs => rw [hes] at hc; simp only [norm] at hc; split at hc <;> cases hc
      | ref s1 q g =>
        rw [hes] at hc
        simp only [norm, normB] at hc
        split at hc <;> cases hc
      | rptr T1 v1 => rw [hes] at hc; cases hc
      | undef => rw [hes] at hc; cases hc
      | ptr b q =>
        rw [hes] at hc
        cases b with
        | box s1 g =>
          simp only [norm, normB] at hc
          split at hc
          · split at hc <;> cases hc
          · cases hc
        | elem s1 p g i =>
          simp only [norm, normB] at hc
          split at hc <;> cases hc
  have hbox : ∀ s g T v o, e' s = .box g T v o → ∃ g0 o0, e s = .box g0 T v o0 ∧ o = o0.gen 0 ∧ g = 0 := fun s g T v o hb => by
    obtain ⟨o0, h1, h2⟩ := hslot s T v o (by rw [hb]; rfl)
    rcases slotC_some h1 with hv | ⟨g0, hv⟩
    · exfalso
      rcases hs s with h3 | h3
      · rw [hb] at h3; cases h3
      · rw [hb, hv] at h3; cases h3
    · refine ⟨g0, o0, hv, h2, ?_⟩
      rcases hs s with h3 | h3
      · rw [hb] at h3; cases h3
      · rw [hb, hv] at h3; cases h3; rfl
  have hcont : ∀ s q g g' b t (l : Sl b (X.den t)) y, cont e' s q g = some ⟨b, t, l⟩ → cont e s q g' = some y → cont e s q g' = some ⟨b, t, l⟩ := fun s q g g' b t l y h1 h2 => by
    obtain ⟨T, v, o, k1, k2, k3⟩ := by
      have := h1
      unfold cont at this
      split at this
      · rename_i T v o hsc
        split at this
        · rename_i b' t' l' g1 hg1 ho1
          split at this
          · rename_i hgg
            cases this
            exact (⟨T, v, o, hsc, hg1, ⟨g1, ho1⟩⟩ : ∃ T v o, slotC (e' s) = some ⟨T, v, o⟩ ∧ getQ q T v = some ⟨.slice b t, l⟩ ∧ ∃ g1, ownAt o q = .yes g1)
          · cases this
        · cases this
      · cases this
    obtain ⟨o0, k4, k5⟩ := hslot s T v o k1
    unfold cont at h2 ⊢
    rw [k4] at h2 ⊢
    simp only [k2] at h2 ⊢
    split at h2
    · rename_i ho
      rename_i g1 heq
      cases heq
      split at h2
      · rename_i hgg
        subst hgg
        simp only [if_true]
      · cases h2
    · cases h2
  have hhdr : ∀ s q T v o, slotC (e' s) = some ⟨T, v, o⟩ → hdr e' a w s q = hdr e a w s q := fun s q T v o hc => by
    obtain ⟨o0, h1, _⟩ := hslot s T v o hc
    unfold hdr
    rcases slotC_some hc with h2 | ⟨g, h2⟩
    · rcases slotC_some h1 with h3 | ⟨g0, h3⟩
      · rw [h2, h3]
      · rcases hs s with h4 | h4
        · rw [h4] at h2; cases h2
        · rw [h4, h3] at h2; cases h2
    · obtain ⟨g0, o1, h3, _⟩ := hbox s g T v o h2
      rw [h2, h3]
  have hcs : ∀ {s q g b t} {l : Sl b (X.den t)}, cont e' s q g = some ⟨b, t, l⟩ → ∃ T v o, slotC (e' s) = some ⟨T, v, o⟩ := fun {s q g b t l} hc => by
    unfold cont at hc
    split at hc
    · rename_i T v o hsc; exact ⟨T, v, o, hsc⟩
    · cases hc
  have repB : ∀ {x : AV X} {u : Value} {R : List Nat}, SRep e a w F x u R → (∀ T v o, x ≠ .val T v o) → (∀ l, x ≠ .tup l) → (∀ f as bs, x ≠ .fn f as bs) → (∀ g T v o, x ≠ .box g T v o) → SRep e' a w F (normB e x) u [] ∧ RefG (· < 1) (normB e x) := fun {x u R} hr n1 n2 n3 n4 => by
    cases hr with
    | u h => cases h with
      | undef => exact ⟨.u (.undef _), trivial⟩
      | val T v o => exact absurd rfl (n1 T v o)
      | rptr T v b o cs hb hc hp => exact ⟨.u (.rptr T v b o cs hb hc hp), trivial⟩
    | tup l => exact absurd rfl (n2 l)
    | fn f as bs => exact absurd rfl (n3 f as bs)
    | box g T v o => exact absurd rfl (n4 g T v o)
    | ref s q g u hq hh =>
      simp only [normB]
      cases hc : cont e s q g with
      | none => exact ⟨.u (.undef _), trivial⟩
      | some y =>
        refine ⟨.ref s q 0 _ hq fun hc' => ?_, show 0 < 1 by omega⟩
        obtain ⟨⟨b, t, l⟩, hc'⟩ := Option.isSome_iff_exists.1 hc'
        obtain ⟨T, v, o, hsc⟩ := hcs hc'
        rw [hhdr s q T v o hsc]
        exact hh (by rw [hc]; rfl)
    | ptrB s g q u hh =>
      simp only [normB]
      cases hes : e s with
      | box g' T v o =>
        simp only []
        split
        · rename_i hgg
          subst hgg
          refine ⟨.ptrB s 0 q _ fun T' v' o' hb => ?_, show 0 < 1 by omega⟩
          obtain ⟨g0, o0, h1, _⟩ := hbox s 0 T' v' o' hb
          rw [hes] at h1; cases h1
          exact hh T v o hes
        · exact ⟨.u (.undef _), trivial⟩
      | _ => exact ⟨.u (.undef _), trivial⟩
    | ptrE s p g i q u hp hh =>
      simp only [normB]
      cases hc : cont e s p g with
      | none => exact ⟨.u (.undef _), trivial⟩
      | some y =>
        refine ⟨.ptrE s p 0 i q _ hp fun b t l hc' => ?_, show 0 < 1 by omega⟩
        obtain ⟨T, v, o, hsc⟩ := hcs hc'
        rw [hhdr s p T v o hsc]
        exact hh b t l (hcont s p 0 g b t l y hc' hc)
  let S' : Nat → List Nat := fun s => match e' s with | .val _ _ _ => S s | .box _ _ _ _ => S s | _ => []
  have hsub : ∀ s b, b ∈ S' s → b ∈ S s := fun s b hb => by
    have hb : b ∈ (match e' s with | .val _ _ _ => S s | .box _ _ _ _ => S s | _ => []) := hb
    split at hb
    · exact hb
    · exact hb
    · cases hb
  have all : ∀ s, SRep e' a w F (e' s) (a.tmps.getD s undef) (S' s) ∧ OwnsG (· < 1) (e' s) ∧ RefG (· < 1) (e' s) := fun s => by
    have hS : ∀ (x : AV X), e' s = x → S' s = (match x with | .val _ _ _ => S s | .box _ _ _ _ => S s | _ => []) := fun x hx => by subst hx; rfl
    have low : ∀ {x : AV X}, OwnsG (· = 0) x → OwnsG (· < 1) x := fun hx => hx.imp fun g (hg : g = 0) => show g < 1 by omega
    rcases hs s with h1 | h1
    · rw [hS _ h1, h1]; exact ⟨.u (.undef _), trivial, trivial⟩
    · have hr := h.rep s
      cases hes : e s with
      | val T v o =>
        rw [hes] at h1 hr
        rw [hS _ h1, h1]
        obtain ⟨cs, k1, k2⟩ := h.valAt hes
        exact ⟨.u (.val T v _ _ cs _ (k1.gen 0) k2), low (OGen_gen 0 o), trivial⟩
      | box g T v o =>
        rw [hes] at h1
        rw [hS _ h1, h1]
        obtain ⟨b, cells, ty, R, k1, k2, k3, k4⟩ := h.boxAt hes
        show SRep e' a w F _ _ (S s) ∧ _
        rw [k1, k4]
        exact ⟨.box 0 T v _ b cells ty R k2 (k3.gen 0), low ⟨rfl, OGen_gen 0 o⟩, trivial⟩
      | tup l =>
        rw [hes] at h1
        rw [hS _ h1, h1]
        exact ⟨.u (.undef _), trivial, trivial⟩
      | fn f as bs =>
        rw [hes] at h1 hr
        simp only [norm] at h1
        split at h1
        · rename_i hcap
          rw [Bool.and_eq_true] at hcap
          rw [hS _ h1, h1]
          generalize a.tmps.getD s undef = u at hr
          generalize S s = R at hr
          cases hr with
          | u h => cases h
          | fn _ _ _ us vs hl hl' ha hb =>
            have lst : ∀ (l : List (AV X)) (us : List Value), l.all capK = true → l.length = us.length → (∀ (i : Nat) x u, l[i]? = some x → us[i]? = some u → SRep e a w F x u []) →
                (l.map (normB e)).length = us.length ∧ ∀ (i : Nat) y, (l.map (normB e))[i]? = some y → RefG (· < 1) y ∧ ∀ u, us[i]? = some u → SRep e' a w F y u [] := fun l us hc hl ha => by
              refine ⟨by simpa using hl, fun i y hi => ?_⟩
              rw [List.getElem?_map] at hi
              cases hli : l[i]? with
              | none => simp [hli] at hi
              | some x =>
                simp [hli] at hi; subst hi
                have hx := List.all_eq_true.1 hc x (List.mem_of_getElem? hli)
                obtain ⟨u, hu⟩ : ∃ u, us[i]? = some u := ⟨_, List.getElem?_eq_getElem (by rw [← hl]; exact (List.getElem?_eq_some_iff.1 hli).1)⟩
                have hr := ha i x u hli hu
                have fin : SRep e' a w F (normB e x) u [] ∧ RefG (· < 1) (normB e x) := by
                  cases x with
                  | val T v o =>
                    cases hr with
                    | u h => exact ⟨.u h, trivial⟩
                  | ptr b q => exact repB hr (by simp) (by simp) (by simp) (by simp)
                  | rptr T v => exact repB hr (by simp) (by simp) (by simp) (by simp)
                  | _ => simp [capK] at hx
                refine ⟨fin.2, fun u' hu' => ?_⟩
                rw [hu] at hu'; cases hu'
                exact fin.1
            obtain ⟨p1, p2⟩ := lst as us hcap.1 hl ha
            obtain ⟨q1, q2⟩ := lst bs vs hcap.2 hl' hb
            refine ⟨.fn f _ _ us vs p1 q1 (fun i x u hi hu => (p2 i x hi).2 u hu) (fun i x u hi hu => (q2 i x hi).2 u hu), trivial, RefGL_mk fun y hy => ?_, RefGL_mk fun y hy => ?_⟩
            · obtain ⟨i, hi, rfl⟩ := List.mem_iff_getElem.1 hy
              exact (p2 i _ (List.getElem?_eq_getElem hi)).1
            · obtain ⟨i, hi, rfl⟩ := List.mem_iff_getElem.1 hy
              exact (q2 i _ (List.getElem?_eq_getElem hi)).1
        · rw [hS _ h1, h1]; exact ⟨.u (.undef _), trivial, trivial⟩
      | ref s1 q g =>
        rw [hes] at h1 hr
        obtain ⟨k1, k2⟩ := repB hr (by simp) (by simp) (by simp) (by simp)
        have ow : OwnsG (· < 1) (norm e (.ref s1 q g)) ∧ S' s = [] := by
          rw [hS _ h1]
          simp only [norm, normB]
          split <;> exact ⟨trivial, rfl⟩
        rw [ow.2, h1]
        exact ⟨k1, ow.1, k2⟩
      | rptr T v =>
        rw [hes] at h1 hr
        obtain ⟨k1, k2⟩ := repB hr (by simp) (by simp) (by simp) (by simp)
        rw [hS _ h1, h1]
        exact ⟨k1, trivial, k2⟩
      | undef =>
        rw [hes] at h1
        rw [hS _ h1, h1]
        exact ⟨.u (.undef _), trivial, trivial⟩
      | ptr b q =>
        rw [hes] at h1 hr
        obtain ⟨k1, k2⟩ := repB hr (by simp) (by simp) (by simp) (by simp)
        have ow : OwnsG (· < 1) (norm e (.ptr b q)) ∧ S' s = [] := by
          rw [hS _ h1]
          cases b with
          | box s1 g =>
            simp only [norm, normB]
            split
            · split <;> exact ⟨trivial, rfl⟩
            · exact ⟨trivial, rfl⟩
          | elem s1 p g i =>
            simp only [norm, normB]
            split <;> exact ⟨trivial, rfl⟩
        rw [ow.2, h1]
        exact ⟨k1, ow.1, k2⟩
  exact ⟨S', h.size, h.lent, h.defers, fun s => (all s).1, fun s => (all s).2.1, fun s => (all s).2.2, fun s => (by show (match e' s with | .val _ _ _ => S s | .box _ _ _ _ => S s | _ => []).Nodup; split; exact h.nodup s; exact h.nodup s; exact List.nodup_nil), fun s t b hst hbs hbt => h.apart s t b hst (hsub s b hbs) (hsub t b hbt), fun s b hb => h.own s b (hsub s b hb), h.free, h.old, h.keeps, h.below, h.base⟩

theorem restrict_at (K : List Nat) (e : Env X) (s : Nat) : restrict K e s = .undef ∨ restrict K e s = norm e (e s) := by
  rcases mkE_map (fun k => norm e (e k)) id K s with ⟨h, _⟩ | ⟨q, _, h1, h2⟩
  · exact .inl h
  · simp only [id] at h1; subst h1; exact .inr h2
theorem EnvRel.restrict (h : EnvRel N F0 B U w0 F S e a w) (K : List Nat) : ∃ S', EnvRel N F0 B (· < 1) w0 F S' (Go.A2.restrict K e) a w := h.normed (restrict_at K e)
/-- Slots are frozen. -/
theorem EnvRel.frozen (hX : TabOk X) : ∀ (D : List (Nat × Sh)) {F : Nat → Prop} {S : Nat → List Nat} {e : Env X}, EnvRel N F0 B U w0 F S e a w → ∃ F' S', EnvRel N F0 B U w0 F' S' (Go.A2.frozen e D) a w
  | [], F, S, e, h => ⟨F, S, h⟩
  | (s, sh) :: l, F, S, e, h => by
    simp only [Go.A2.frozen]
    split
    · have same : upd e s (e s) = e := by funext t; unfold upd; split <;> simp_all
      cases hes : e s with
      | val T v o =>
        by_cases hal : o.alive = true
        · obtain ⟨F1, S1, cx, g1, _⟩ := h.freezeAt hX (s := s) (q := []) (by rw [hes]; rfl) rfl rfl rfl hal
          rw [hes] at g1
          simp only [freezeV, hal, if_true]
          exact EnvRel.frozen hX l g1
        · simp only [freezeV, hal, Bool.false_eq_true, if_false]
          rw [← hes, same]
          exact EnvRel.frozen hX l h
      | box g T v o =>
        by_cases hal : o.alive = true
        · obtain ⟨F1, S1, cx, g1, _⟩ := h.freezeAt hX (s := s) (q := []) (by rw [hes]; rfl) rfl rfl rfl hal
          rw [hes] at g1
          simp only [freezeV, hal, if_true]
          exact EnvRel.frozen hX l g1
        · simp only [freezeV, hal, Bool.false_eq_true, if_false]
          rw [← hes, same]
          exact EnvRel.frozen hX l h
      | _ =>
        simp only [freezeV]
        rw [← hes, same]
        exact EnvRel.frozen hX l h
    · exact EnvRel.frozen hX l h
theorem EnvRel.marked (hX : TabOk X) (h : EnvRel N F0 B (· < 1) w0 F S e a w) (D : List (Nat × Sh)) : ∃ F' S', EnvRel N F0 B (· < 1) w0 F' S' (Go.A2.marked D e) a w := by
  obtain ⟨F, S, h⟩ := h.frozen hX D
  unfold Go.A2.marked
  generalize Go.A2.frozen e D = e at h
  refine ⟨F, ?_⟩
  obtain ⟨S1, h1⟩ := h.shaped (e' := Go.A2.shaped D e) fun s => by
    rcases mkE_map (fun q : Nat × Sh => shape q.2 (e q.1)) (·.1) D s with ⟨h, _⟩ | ⟨q, _, h1, h2⟩
    · exact .inr (.inl h)
    · subst h1
      obtain ⟨s, sh⟩ := q
      have h2 : Go.A2.shaped D e s = shape sh (e s) := h2
      rw [h2]
      unfold shape
      split
      · rename_i b t l hsh hes hq
        split
        · rename_i hl
          exact .inr (.inr (.inl ⟨b, t, l, hsh, hl, rfl⟩))
        · exact .inr (.inl rfl)
      · rename_i T v o hsh hes hq
        split
        · rename_i hp
          exact .inr (.inr (.inr ⟨T, v, o, hsh, hp, rfl⟩))
        · exact .inr (.inl rfl)
      · exact .inl rfl
  exact h1.restrict (D.map (·.1))
end
end
end Go.A2
