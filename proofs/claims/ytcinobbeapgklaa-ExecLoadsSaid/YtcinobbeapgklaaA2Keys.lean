/- YtcinobbeapgklaaA2Keys: which slots an operation turns. No statement of the seat is proved here. -/
import Derived.Test.YtcinobbeapgklaaA2Local
namespace Go.A2
section
variable {X : Tab} {e e' : Env X}
theorem mem_outU {d : Option Nat} {v : AV X} {q : Nat × AV X} (h : q ∈ outU d v) : q.1 ∈ d.toList := by
  cases d with
  | none => simp [outU] at h
  | some k => simp [outU] at h; subst h; simp
theorem setMask_key {s : Nat} {q : List PS} {o : Own} {u : Ups X} (h : setMask e s q o = some u) : ∀ y ∈ u, y.1 = s := by
  obtain ⟨T, v, o0, m, _, _, rfl⟩ := setMask_some h
  intro y hy; simp at hy; subst hy; rfl
theorem takeRef_key {r : Nat} {q : List PS} {g : Nat} {T : X.Ty} {v : X.den T} {o : Own} {u : Ups X} (h : takeRef e r q g = some ⟨T, v, o, u⟩) : ∀ y ∈ u, y.1 = r := by
  unfold takeRef at h
  split at h
  · rename_i hm
    cases h
    exact setMask_key hm
  · cases h
theorem take_key {x : AX X} {T : X.Ty} {v : X.den T} {o : Own} {u : Ups X} (h : Go.A2.take e x = some ⟨T, v, o, u⟩) : ∀ y ∈ u, y.1 ∈ tk e x := by
  cases x with
  | c y =>
    cases y with
    | val T' v' o' =>
      simp only [Go.A2.take] at h
      split at h
      · cases h; simp
      · cases h
    | _ => simp [Go.A2.take] at h
  | t s =>
    simp only [Go.A2.take] at h
    simp only [tk]
    split at h
    · rename_i T' v' o' hes
      rw [hes]
      split at h
      · cases h; simp
      · rename_i hp; cases h; simp [hp]
    · rename_i r q g hes
      rw [hes]
      intro y hy; simp [takeRef_key h y hy]
    · cases h
  | v s =>
    simp only [Go.A2.take] at h
    simp only [tk]
    split at h
    · rename_i T' v' o' hes
      rw [hes]
      split at h
      · cases h; simp
      · rename_i hp
        split at h
        · cases h; simp [hp]
        · cases h
    · rename_i r q g hes
      rw [hes]
      intro y hy; simp [takeRef_key h y hy]
    · cases h
theorem loadV_key {T : X.Ty} {x : AV X} {d : Option Nat} {u : Ups X} (h : loadV e T x d = some u) : ∀ y ∈ u, y.1 ∈ d.toList ++ loadK e x := fun y hy => by
  have out : ∀ {v : AV X}, outU d v = u → y.1 ∈ d.toList ++ loadK e x := fun {v} hv => by subst hv; exact List.mem_append_left _ (mem_outU hy)
  have outM : ∀ {T' : X.Ty} {o : Option (X.den T')} {f : X.den T' → AV X}, o.map (fun v => outU d (f v)) = some u → y.1 ∈ d.toList ++ loadK e x := fun {T' o f} hv => by
    cases o with
    | none => cases hv
    | some z => exact out (by simpa using hv)
  cases x with
  | rptr T' v =>
    simp only [loadV] at h
    cases hc : castT v T with
    | none => rw [hc] at h; cases h
    | some z => rw [hc] at h; exact out (v := .val T z .no) (Option.some.inj h)
  | ptr b q =>
    cases b with
    | box s g =>
      simp only [loadV] at h
      split at h
      · rename_i g' T0 v0 o0 hes
        split at h
        · split at h
          · split at h
            · split at h
              · exact out (Option.some.inj h)
              · exact out (Option.some.inj h)
              · split at h
                · exact out (Option.some.inj h)
                · cases h
              · cases h
              · rename_i l hown
                split at h
                · exact out (Option.some.inj h)
                · rename_i hp
                  split at h
                  · obtain ⟨m, hm, h⟩ := Option.map_eq_some_iff.1 h
                    subst h
                    rcases List.mem_cons.1 hy with rfl | hy
                    · refine List.mem_append_right _ ?_
                      simp [loadK, hes, hown, hp]
                    · exact List.mem_append_left _ (mem_outU hy)
                  · cases h
            · cases h
          · cases h
        · cases h
      · cases h
    | elem s p g i =>
      simp only [loadV] at h
      split at h
      · split at h
        · rename_i T1 v1 _
          cases hc : castT v1 T with
          | none => rw [hc] at h; cases h
          | some z => rw [hc] at h; exact out (v := .val T z .no) (Option.some.inj h)
        · cases h
      · cases h
  | _ => simp [loadV] at h
theorem storeV_key {g0 : Nat} {T : X.Ty} {x : AV X} {v : X.den T} {o : Own} {u : Ups X} (h : storeV e g0 T x v o = some u) : ∀ y ∈ u, y.1 ∈ rootOf x := fun y hy => by
  cases x with
  | ptr b q =>
    cases b with
    | box s g =>
      simp only [storeV] at h
      split at h
      · split at h
        · split at h
          · cases h; simp at hy; subst hy; simp [rootOf]
          · cases h
        · cases h
      · cases h
    | elem s p g i =>
      simp only [storeV] at h
      split at h
      · split at h
        · split at h
          · obtain ⟨z, _, h⟩ := Option.map_eq_some_iff.1 h
            subst h; simp at hy; subst hy; simp [rootOf]
          · obtain ⟨z, _, h⟩ := Option.map_eq_some_iff.1 h
            subst h; simp at hy; subst hy; simp [rootOf]
          · cases h
        · cases h
      · cases h
  | _ => simp [storeV] at h
theorem grab_key {x : AX X} {b : Nat} {t : X.Ty} {l : Sl b (X.den t)} {u : Ups X} {z : Bool} (h : Go.A2.grab e x = some ⟨b, t, l, u, z⟩) : ∀ y ∈ u, y.1 ∈ grabK e x := fun y hy => by
  have key : ∀ s, Go.A2.grab e (.v s) = some ⟨b, t, l, u, z⟩ → y.1 ∈ grabK e (.v s) := fun s h => by
    simp only [Go.A2.grab] at h
    simp only [grabK]
    split at h
    · cases h; cases hy
    · rename_i hes; cases h; rw [hes]; simp at hy ⊢; subst hy; rfl
    · rename_i r q g hes
      rw [hes]
      split at h
      · rename_i hm
        cases h
        split at hm
        · cases hm; simp at hy ⊢; subst hy; rfl
        · simp [setMask_key hm y hy]
      · cases h
    · cases h
  cases x with
  | c w =>
    cases w with
    | val T v o =>
      cases T with
      | slice b' t' =>
        cases o with
        | full =>
          simp only [Go.A2.grab] at h
          split at h
          · cases h; cases hy
          · cases h
        | _ => simp [Go.A2.grab] at h
      | _ => simp [Go.A2.grab] at h
    | _ => simp [Go.A2.grab] at h
  | t s => exact key s h
  | v s => exact key s h

theorem pureL_putL : ∀ {l : List Own} {j : Nat} {b : Own}, Own.pureL l = true → b.pure = true → Own.pureL (putL l j b) = true
  | [], 0, b, _, hb => by simp [putL, Own.pureL, hb]
  | [], j + 1, b, _, hb => by simp only [putL, Own.pureL, Bool.and_eq_true]; exact ⟨rfl, pureL_putL rfl hb⟩
  | o :: l, 0, b, h, hb => by simp only [Own.pureL, Bool.and_eq_true] at h; simp [putL, Own.pureL, hb, h.2]
  | o :: l, j + 1, b, h, hb => by
    simp only [Own.pureL, Bool.and_eq_true] at h
    simp only [putL, Own.pureL, Bool.and_eq_true]
    exact ⟨h.1, pureL_putL h.2 hb⟩
theorem setO_pure : ∀ {q : List PS} {o m : Own}, setO o q .no = some m → o.pure = true → m.pure = true
  | [], o, m, h, _ => by simp only [setO, Option.some.injEq] at h; subst h; rfl
  | .fld j :: q, o, m, h, hp => by
    have hd : o ≠ .dead := fun hd => by subst hd; cases hp
    have : setO o (.fld j :: q) .no = match setO (o.fldD j) q .no with
        | some b => if (o.fldD j).isNo && b.isNo then some o else some (if (putL o.list j b).all Own.isNo then .no else .st (putL o.list j b))
        | none => none := by cases o <;> first | rfl | exact absurd rfl hd
    rw [this] at h
    have hfld : (o.fldD j).pure = true := by
      cases o with
      | st l => exact pureL_getD hp j
      | dead => exact absurd rfl hd
      | _ => rfl
    have hlist : Own.pureL o.list = true := by
      cases o with
      | st l => exact hp
      | _ => rfl
    split at h
    · rename_i b hb
      have hbp := setO_pure hb hfld
      split at h
      · simp only [Option.some.injEq] at h; subst h; exact hp
      · simp only [Option.some.injEq] at h; subst h
        split
        · rfl
        · exact pureL_putL hlist hbp
    · cases h
  | .idx j :: q, o, m, h, hp => by
    cases o with
    | dead => cases hp
    | _ => simp only [setO] at h; split at h <;> first | (cases h; rfl) | cases h

/-- As 'Soft'; what owned nothing owns nothing. -/
def SoftP (e e1 : Env X) : Prop := ∀ s, e1 s = e s ∨ e1 s = .undef ∨ ∃ T v o m, slotC (e s) = some ⟨T, v, o⟩ ∧ e1 s = withMask (e s) m ∧ (o.pure = true → m.pure = true)
theorem softP_one {s : Nat} {y : AV X} (h : y = .undef ∨ ∃ T v o m, slotC (e s) = some ⟨T, v, o⟩ ∧ y = withMask (e s) m ∧ (o.pure = true → m.pure = true)) : SoftP e (applyU e [(s, y)]) := fun t => by
  show Go.A2.upd e s y t = e t ∨ _
  by_cases ht : t = s
  · subst ht
    rcases h with rfl | ⟨T, v, o, m, h1, rfl, h2⟩
    · exact .inr (.inl (upd_same e t _))
    · exact .inr (.inr ⟨T, v, o, m, h1, upd_same e t _, h2⟩)
  · exact .inl (upd_ne e y ht)
theorem take_softP {x : AX X} {T : X.Ty} {v : X.den T} {o : Own} {u : Ups X} (h : Go.A2.take e x = some ⟨T, v, o, u⟩) : SoftP e (applyU e u) := by
  have ref : ∀ {r q g}, takeRef e r q g = some ⟨T, v, o, u⟩ → SoftP e (applyU e u) := fun {r q g} h => by
    unfold takeRef at h
    split at h
    · rename_i hc hm
      cases h
      obtain ⟨T, v, o0, m, k1, k2, rfl⟩ := setMask_some hm
      exact softP_one (.inr ⟨T, v, o0, m, k1, rfl, setO_pure k2⟩)
    · cases h
  cases x with
  | c y =>
    cases y with
    | val T' v' o' =>
      simp only [Go.A2.take] at h
      split at h
      · cases h; exact fun s => .inl rfl
      · cases h
    | _ => simp [Go.A2.take] at h
  | t s =>
    simp only [Go.A2.take] at h
    split at h
    · rename_i T' v' o' hes
      split at h
      · cases h; exact fun s => .inl rfl
      · cases h; exact softP_one (.inl rfl)
    · exact ref h
    · cases h
  | v s =>
    simp only [Go.A2.take] at h
    split at h
    · rename_i T' v' o' hes
      split at h
      · cases h; exact fun s => .inl rfl
      · split at h
        · cases h; exact softP_one (.inr ⟨_, _, _, .no, by rw [hes]; rfl, by rw [hes]; rfl, fun _ => rfl⟩)
        · cases h
    · exact ref h
    · cases h
theorem tk_mono {e1 : Env X} (h : SoftP e e1) {x : AX X} : ∀ t ∈ tk e1 x, t ∈ tk e x := fun t ht => by
  have key : ∀ s, t ∈ tk e1 (.v s) → t ∈ tk e (.v s) := fun s ht => by
    rcases h s with h1 | h1 | ⟨T, v, o, m, h1, h2, h3⟩
    · simp only [tk] at ht ⊢; rw [h1] at ht; exact ht
    · simp only [tk, h1] at ht; cases ht
    · rcases slotC_some h1 with hes | ⟨g, hes⟩
      · rw [hes] at h2
        simp only [withMask] at h2
        simp only [tk, h2, hes] at ht ⊢
        split at ht
        · cases ht
        · rename_i hm
          rw [if_neg fun hp => hm (h3 hp)]; exact ht
      · rw [hes] at h2
        simp only [withMask] at h2
        simp only [tk, h2] at ht; cases ht
  cases x with
  | c y => cases ht
  | t s => exact key s ht
  | v s => exact key s ht
theorem takeAll_key : ∀ {l : List (Nat × AX X)} {e : Env X} {vs : List (Nat × (T : X.Ty) × X.den T × Own)} {u : Ups X}, Go.A2.takeAll e l = some (vs, u) → ∀ y ∈ u, y.1 ∈ l.flatMap fun q => tk e q.2
  | [], e, vs, u, h => by simp [Go.A2.takeAll] at h; obtain ⟨_, rfl⟩ := h; simp
  | (j, x) :: l, e, vs, u, h => by
    simp only [Go.A2.takeAll] at h
    split at h
    · rename_i T v o u1 h1
      split at h
      · rename_i vs' us' h2
        simp only [Option.some.injEq, Prod.mk.injEq] at h
        obtain ⟨_, rfl⟩ := h
        intro y hy
        rw [List.flatMap_cons]
        rcases List.mem_append.1 hy with hy | hy
        · exact List.mem_append_left _ (take_key h1 y hy)
        · obtain ⟨q, hq, hk⟩ := List.mem_flatMap.1 (takeAll_key h2 y hy)
          exact List.mem_append_right _ (List.mem_flatMap.2 ⟨q, hq, tk_mono (take_softP h1) _ hk⟩)
      · cases h
    · cases h
theorem freezeAll_key : ∀ {l : List (Nat × List PS)} {e : Env X} {u : Ups X}, Go.A2.freezeAll e l = some u → ∀ y ∈ u, ∃ q ∈ l, y.1 = q.1
  | [], e, u, h => by simp [Go.A2.freezeAll] at h; subst h; simp
  | (s, q) :: l, e, u, h => by
    simp only [Go.A2.freezeAll] at h
    split at h
    · rename_i u1 h1
      obtain ⟨u2, h2, rfl⟩ := Option.map_eq_some_iff.1 h
      intro y hy
      rcases List.mem_append.1 hy with hy | hy
      · exact ⟨(s, q), by simp, setMask_key h1 y hy⟩
      · obtain ⟨q', hq, hk⟩ := freezeAll_key h2 y hy
        exact ⟨q', by simp [hq], hk⟩
    · cases h
theorem giveBack_key {g : Nat} : ∀ {as : List (Arg X)} {os : List (AV X)} {u : Ups X}, giveBack e g as os = some u → ∀ y ∈ u, ∃ a ∈ as, a.back = some y.1
  | [], [], u, h => by simp [giveBack] at h; subst h; simp
  | [], _ :: _, u, h => by simp [giveBack] at h
  | _ :: _, [], u, h => by simp [giveBack] at h
  | a :: as, o :: os, u, h => by
    simp only [giveBack] at h
    split at h
    · rename_i s _ T v m hb
      split at h
      · split at h
        · obtain ⟨u', h', rfl⟩ := Option.map_eq_some_iff.1 h
          intro y hy
          rcases List.mem_cons.1 hy with rfl | hy
          · exact ⟨a, by simp, hb⟩
          · obtain ⟨a', ha, hk⟩ := giveBack_key h' y hy
            exact ⟨a', by simp [ha], hk⟩
        · cases h
      · cases h
    · intro y hy
      obtain ⟨a', ha, hk⟩ := giveBack_key h y hy
      exact ⟨a', by simp [ha], hk⟩
    · cases h

theorem afterCall_key {g : Nat} {as : List (Arg X)} {d : Option Nat} {r : Ret X} {u : Ups X} {Rs : List Nat} (ha : ∀ a ∈ as, (∀ s, a.back = some s → s ∈ Rs) ∧ ∀ q ∈ a.roots, q.1 ∈ Rs) (h : afterCall e g as d r = some u) : ∀ y ∈ u, y.1 ∈ d.toList ++ Rs := by
  unfold afterCall at h
  simp only [] at h
  split at h
  · split at h
    · rename_i u1 u2 h1 h2
      simp only [Option.some.injEq] at h; subst h
      intro y hy
      rcases List.mem_append.1 hy with hy | hy
      · split at h1
        · cases h1; cases hy
        · split at h1
          · obtain ⟨q, hq, hk⟩ := freezeAll_key h1 y hy
            obtain ⟨a, hm, hq⟩ := List.mem_flatMap.1 hq
            exact List.mem_append_right _ (hk ▸ (ha a hm).2 q hq)
          · cases h1
      · rcases List.mem_append.1 hy with hy | hy
        · obtain ⟨a, hm, hk⟩ := giveBack_key h2 y hy
          exact List.mem_append_right _ ((ha a hm).1 _ hk)
        · exact List.mem_append_left _ (mem_outU hy)
    · cases h
  · cases h

end
end Go.A2
