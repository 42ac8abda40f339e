/- YtcinobbeapgklaaAmDraw3: whatever order is drawn, the run comes to the same. No statement of the seat is proved here. -/
import Derived.Test.YtcinobbeapgklaaAmDraw2
namespace Go.AM

section
variable {K : List Nat} {e e' : Env} {C : Nat → List AV → Option AV}

def sv0 (C : Nat → List AV → Option AV) (e : Env) (op : AOp) : Option AV := if op.xs.all (softX e) = true then sval C e op else none
def setV (C : Nat → List AV → Option AV) (e : Env) (o : AOpr) : Option AV :=
  match o.guard with
  | none => sv0 C e o.op
  | some (g, want) => match e g with
    | .bool b => if b = want then sv0 C e o.op else some .undef
    | _ => none

theorem step_set {o : AOpr} (hs : o.solo = false) (hk : isSet o.op = true) : step C e o = (setV C e o).bind (put false e o.dst) := by
  have ha : act C e o = (sv0 C e o.op).bind (put false e o.dst) := by
    have hal : allow e o.op = o.op.xs.all (softX e) := by
      unfold allow
      unfold isSet at hk
      cases hkk : kindOf o.op <;> simp [hkk] at hk <;> rfl
    unfold act sv0
    rw [hs, hal]
    simp only [Bool.false_or]
    by_cases h : o.op.xs.all (softX e) = true
    · rw [if_pos h, if_pos h]; exact setter_eq hk h
    · rw [if_neg h, if_neg h]; rfl
  unfold step setV
  cases hg : o.guard with
  | none => exact ha
  | some gw =>
    obtain ⟨g, want⟩ := gw
    simp only []
    cases he : e g with
    | bool b =>
      simp only []
      by_cases hb : b = want
      · rw [if_pos hb, if_pos hb]; exact ha
      · rw [if_neg hb, if_neg hb, hs]; rfl
    | _ => rfl

theorem mem_ins {o : AOpr} {x : AX} {s : Nat} (hx : x ∈ o.op.xs) (hs : s ∈ slotsX x) : s ∈ o.ins := List.mem_append_left _ (mem_slotsL hx hs)
theorem mem_guard {o : AOpr} {g : Nat} {b : Bool} (h : o.guard = some (g, b)) : g ∈ o.ins := List.mem_append_right _ (by rw [h]; simp)

theorem all_softX {xs : List AX} (h : ∀ x ∈ xs, softX e' x = softX e x) : xs.all (softX e') = xs.all (softX e) := by
  induction xs with
  | nil => rfl
  | cons x xs ih => simp only [List.all_cons]; rw [h x (by simp), ih fun y hy => h y (by simp [hy])]

theorem sv_congr {o : AOpr} (hk : isSet o.op = true) (hok : o.op.xs.all (okX K) = true) (h : ∀ s ∈ o.ins, e' s = e s) (hr : ∀ s ∈ o.ins, ∀ r, refRoot (e s) = some r → e' r = e r) : setV C e' o = setV C e o := by
  have hx : ∀ x ∈ o.op.xs, ∀ s ∈ slotsX x, Like (e s) (e' s) := fun x hx s hs => .inl (h s (mem_ins hx hs)).symm
  have h0 : sv0 C e' o.op = sv0 C e o.op := by
    unfold sv0
    rw [all_softX fun x hxx => softX_like (hx x hxx)]
    rw [sval_congr hk fun x hxx => ⟨rd_like (hx x hxx), softX_like (hx x hxx), fun r hrr => ?_, fun s hs => hx x hxx s (by rw [hs]; simp [slotsX])⟩]
    cases x with
    | c y =>
      have := List.all_eq_true.1 hok (.c y) hxx
      simp only [rd] at hrr
      simp [okX, hrr] at this
    | t s =>
      simp only [rd] at hrr
      cases hes : e s with
      | own z rs => rw [hes] at hrr; simp [refRoot] at hrr
      | box cs => rw [hes] at hrr; simp [refRoot] at hrr
      | _ => rw [hes] at hrr; exact hr s (mem_ins hxx (by simp [slotsX])) r (by rw [hes]; exact hrr)
    | v s =>
      simp only [rd] at hrr
      cases hes : e s with
      | own z rs => rw [hes] at hrr; simp [refRoot] at hrr; subst hrr; exact h s (mem_ins hxx (by simp [slotsX]))
      | box cs => rw [hes] at hrr; simp [refRoot] at hrr; subst hrr; exact h s (mem_ins hxx (by simp [slotsX]))
      | _ => rw [hes] at hrr; exact hr s (mem_ins hxx (by simp [slotsX])) r (by rw [hes]; exact hrr)
  unfold setV
  rw [h0]
  cases hg : o.guard with
  | none => rfl
  | some gw => obtain ⟨g, want⟩ := gw; simp only []; rw [h g (mem_guard hg)]


theorem sv_F {o : AOpr} (hk : kindOf o.op = .F) (h : ∀ s ∈ o.ins, Like (e s) (e' s)) : setV C e' o = setV C e o := by
  have hx : ∀ x ∈ o.op.xs, ∀ s ∈ slotsX x, Like (e s) (e' s) := fun x hx s hs => h s (mem_ins hx hs)
  have h0 : sv0 C e' o.op = sv0 C e o.op := by
    unfold sv0
    rw [all_softX fun x hxx => softX_like (hx x hxx), sval_F hk hx]
  unfold setV
  rw [h0]
  cases hg : o.guard with
  | none => rfl
  | some gw =>
    obtain ⟨g, want⟩ := gw
    simp only []
    rcases h g (mem_guard hg) with h1 | ⟨x, y, h1, h2⟩ | ⟨z, r, z', r', h1, h2⟩
    · rw [h1]
    · rw [h1, h2]
    · rw [h1, h2]

theorem rd_root (hrt : Rt K e) {x : AX} (hx : okX K x = true) {r : Nat} (h : refRoot (rd e x) = some r) : isOwner (e r) = true ∧ inA K r = true := by
  cases x with
  | c y => simp only [rd] at h; simp [okX, h] at hx
  | t s =>
    simp only [rd] at h
    cases hes : e s with
    | own z rs => rw [hes] at h; simp [refRoot] at h
    | box cs => rw [hes] at h; simp [refRoot] at h
    | _ => rw [hes] at h; exact hrt s r (by rw [hes]; exact h)
  | v s =>
    simp only [rd] at h
    cases hes : e s with
    | own z rs => rw [hes] at h; simp [refRoot] at h; subst h; exact ⟨by rw [hes]; rfl, hx⟩
    | box cs => rw [hes] at h; simp [refRoot] at h; subst h; exact ⟨by rw [hes]; rfl, hx⟩
    | _ => rw [hes] at h; exact hrt s r (by rw [hes]; exact h)

theorem pure_root {v : AV} (h : isPure v = true) : refRoot v = none := by
  cases v <;> first | rfl | simp [isPure, isCell] at h
theorem cell_root {v : AV} (h : isCell v = true) : refRoot v = none := by
  cases v <;> first | rfl | simp [isCell] at h
theorem flatC_root {v : AV} (h : flatC v = true) : refRoot v = none := by
  cases v <;> first | rfl | simp [flatC] at h

/-- Where a set value refers to. -/
theorem setV_root (hrt : Rt K e) {o : AOpr} (hk : kindOf o.op = .F) (hok : o.op.xs.all (okX K) = true) {v : AV} (hv : setV C e o = some v) {r : Nat} (hr : refRoot v = some r) : isOwner (e r) = true ∧ inA K r = true := by
  have h0 : ∀ v, sv0 C e o.op = some v → refRoot v = some r → isOwner (e r) = true ∧ inA K r = true := by
    intro v hv hr
    unfold sv0 at hv
    split at hv
    · have hrd : ∀ x ∈ o.op.xs, refRoot (rd e x) = some r → isOwner (e r) = true ∧ inA K r = true := fun x hx h => rd_root hrt (List.all_eq_true.1 hok x hx) h
      have bin : ∀ {q : BinOp} {x y : AV}, binV q x y = some v → refRoot v = none := fun h => flatC_root (run_binV (P := { (default : Tables) with funcs := #[] }) (w := default) (t := 0) h (binV_flat h).1 (binV_flat h).2).2
      cases hop : o.op with
      | move x => rw [hop] at hv; simp only [sval, Option.some.injEq] at hv; exact hrd x (by rw [hop]; simp [AOp.xs]) (by rw [hv]; exact hr)
      | assign x => rw [hop] at hv; simp only [sval, Option.some.injEq] at hv; exact hrd x (by rw [hop]; simp [AOp.xs]) (by rw [hv]; exact hr)
      | alloc z =>
        rw [hop] at hv; simp only [sval] at hv
        split at hv
        · simp only [Option.some.injEq] at hv; subst hv; simp [refRoot] at hr
        · cases hv
      | addOff x k =>
        rw [hop] at hv; simp only [sval, val] at hv
        split at hv
        · simp only [Option.some.injEq] at hv; subst hv; simp [refRoot] at hr
        · rename_i s c row off hx
          simp only [Option.some.injEq] at hv; subst hv
          exact hrd x (by rw [hop]; simp [AOp.xs]) (by rw [hx]; exact hr)
        · cases hv
      | idxA len esz x i =>
        rw [hop] at hv; simp only [sval, val] at hv
        split at hv
        · split at hv
          · simp only [Option.some.injEq] at hv; subst hv; simp [refRoot] at hr
          · cases hv
        · rename_i s c row off k j hx hi
          split at hv
          · simp only [Option.some.injEq] at hv; subst hv
            exact hrd x (by rw [hop]; simp [AOp.xs]) (by rw [hx]; exact hr)
          · cases hv
        · cases hv
      | extract x i =>
        rw [hop] at hv; simp only [sval] at hv
        split at hv
        · split at hv
          · split at hv
            · split at hv
              · rename_i hp
                simp only [Option.some.injEq] at hv; subst hv
                rw [pure_root hp] at hr; cases hr
              · cases hv
            · cases hv
          · cases hv
        · cases hv
      | makeSlice esz bytes zero l c =>
        rw [hop] at hv; simp only [sval] at hv
        split at hv
        · split at hv
          · simp only [Option.some.injEq] at hv; subst hv; simp [refRoot] at hr
          · cases hv
        · cases hv
      | makeFunc f caps =>
        rw [hop] at hv; simp only [sval] at hv
        split at hv
        · simp only [Option.some.injEq] at hv; subst hv; simp [refRoot] at hr
        · cases hv
      | pick c x y =>
        rw [hop] at hv; simp only [sval, val] at hv
        split at hv
        · split at hv
          · simp only [Option.some.injEq] at hv; subst hv; simp [refRoot] at hr
          · cases hv
        · split at hv
          · simp only [Option.some.injEq] at hv; subst hv; simp [refRoot] at hr
          · cases hv
        · cases hv
      | idxStr x i =>
        rw [hop] at hv; simp only [sval, val] at hv
        split at hv
        · split at hv
          · rename_i s k j _ _ _
            cases hq : s[j.toNat]? with
            | none => simp [hq] at hv
            | some b => simp [hq] at hv; subst hv; simp [refRoot] at hr
          · cases hv
        · cases hv
      | part1 x k =>
        rw [hop] at hv; simp only [sval, val] at hv
        split at hv
        · split at hv
          · split at hv
            · rename_i hp
              simp only [Option.some.injEq] at hv; subst hv
              rw [cell_root hp] at hr; cases hr
            · cases hv
          · cases hv
        · cases hv
      | partN x k m =>
        rw [hop] at hv; simp only [sval, val] at hv
        split at hv
        · split at hv
          · simp only [Option.some.injEq] at hv; subst hv; simp [refRoot] at hr
          · cases hv
        · cases hv
      | bin q x y => rw [hop] at hv; simp only [sval, val] at hv; rw [bin hv] at hr; cases hr
      | eqAgg neg x y =>
        rw [hop] at hv; simp only [sval, val] at hv
        split at hv
        · rename_i xs ys _ _
          cases hq : eqL xs ys with
          | none => simp [hq] at hv
          | some b => simp [hq] at hv; subst hv; simp [refRoot] at hr
        · cases hv
      | eqB neg x y =>
        rw [hop] at hv; simp only [sval, val] at hv
        split at hv
        · simp only [Option.some.injEq] at hv; subst hv; simp [refRoot] at hr
        · cases hv
      | un q x =>
        rw [hop] at hv; simp only [sval, val] at hv
        unfold unV at hv
        split at hv
        · simp only [Option.some.injEq] at hv; subst hv; simp [refRoot, wrapI] at hr
        · rw [flatC_root (run_bitsI (P := { (default : Tables) with funcs := #[] }) (w := default) hv).2] at hr; cases hr
        · simp only [Option.some.injEq] at hv; subst hv; simp [refRoot] at hr
        · cases hv
      | conv k x =>
        rw [hop] at hv; simp only [sval, val] at hv
        split at hv
        · simp only [Option.some.injEq] at hv; subst hv; simp [refRoot, wrapI] at hr
        · cases hv
      | mm b args =>
        rw [hop] at hv; simp only [sval, val] at hv
        split at hv
        · rw [flatC_root (run_mm (P := { (default : Tables) with funcs := #[] }) (w := default) b _ _ _ hv).2.2.1] at hr; cases hr
        · cases hv
      | lenStr x =>
        rw [hop] at hv; simp only [sval, val] at hv
        split at hv
        · simp only [Option.some.injEq] at hv; subst hv; simp [refRoot] at hr
        · cases hv
      | _ => rw [hop] at hk; simp [kindOf] at hk
    · cases hv
  unfold setV at hv
  split at hv
  · exact h0 v hv hr
  · split at hv
    · split at hv
      · exact h0 v hv hr
      · simp only [Option.some.injEq] at hv; subst hv; simp [refRoot] at hr
    · cases hv

/-- May two operations change places? -/
theorem disj_spec {a b : List Nat} (h : disj a b = true) {x : Nat} (hx : x ∈ a) : x ∉ b := by
  have := List.all_eq_true.1 h x hx
  intro hb
  simp [inA] at this
  exact this x hb rfl
structure Indep (k i : AOpr) : Prop where
  ks : k.solo = false
  is : i.solo = false
  wk : ∀ s ∈ k.wr, s ∉ i.ins
  wi : ∀ s ∈ i.wr, s ∉ k.ins
  dd : ∀ s, k.dst = some s → i.dst ≠ some s
theorem indep_spec {k i : AOpr} (h : indep k i = true) : Indep k i ∧ kinds (kindOf k.op) (kindOf i.op) = true := by
  simp only [indep, Bool.and_eq_true, Bool.not_eq_true'] at h
  obtain ⟨⟨⟨⟨⟨h1, h2⟩, h3⟩, h4⟩, h5⟩, h6⟩ := h
  exact ⟨⟨h1, h2, fun s hs => disj_spec h4 hs, fun s hs => disj_spec h5 hs, fun s hk hi => disj_spec h6 (x := s) (by simp [hk]) (by simp [hi])⟩, h3⟩

theorem dst_wr {o : AOpr} {d : Nat} (h : o.dst = some d) : d ∈ o.wr := List.mem_append_left _ (by simp [h])

theorem bind_some {α β : Type} {x : Option α} {f : α → Option β} {y : β} (h : x.bind f = some y) : ∃ a, x = some a ∧ f a = some y := by
  cases x with
  | none => cases h
  | some a => exact ⟨a, rfl, h⟩

theorem put_false {d : Option Nat} {v : AV} (h : put false e d v = some e') : (d = none ∧ e' = e) ∨ ∃ k, d = some k ∧ isOwner (e k) = false ∧ e' = upd e k v := by
  cases d with
  | none => simp [put] at h; exact .inl ⟨rfl, h.symm⟩
  | some k =>
    simp only [put] at h
    split at h
    · simp at h
    · rename_i ho
      simp only [Option.some.injEq] at h
      exact .inr ⟨k, rfl, by simpa using ho, h.symm⟩
theorem put_false_mk {k : Nat} {v : AV} (h : isOwner (e k) = false) : put false e (some k) v = some (upd e k v) := by
  simp [put, h]

/-- Two that set their slots. -/
theorem comm_SS {k i : AOpr} (hi : Indep k i) (hkS : isSet k.op = true) (hiS : isSet i.op = true) (hkK : k.op.xs.all (okX K) = true) (hiK : i.op.xs.all (okX K) = true) (hrt : Rt K e) {e1 e2 : Env}
    (h1 : step C e k = some e1) (h2 : step C e1 i = some e2) : ∃ e1', step C e i = some e1' ∧ step C e1' k = some e2 := by
  rw [step_set hi.ks hkS] at h1
  rw [step_set hi.is hiS] at h2
  obtain ⟨v, hv, hp⟩ := bind_some h1
  obtain ⟨u, hu, hq⟩ := bind_some h2
  have same : ∀ {o : AOpr} {d : Nat} {x : AV}, d ∉ o.ins → isOwner (e d) = false → isSet o.op = true → o.op.xs.all (okX K) = true → setV C (upd e d x) o = setV C e o := fun {o d x} hd hno hS hK =>
    sv_congr hS hK (fun s hs => upd_ne _ _ fun he => hd (he ▸ hs)) fun s hs r hr => upd_ne _ _ fun he => by
      subst he
      have := (hrt s r hr).1
      rw [hno] at this; cases this
  rcases put_false hp with ⟨hkd, rfl⟩ | ⟨d, hkd, hno, rfl⟩
  · refine ⟨e2, by rw [step_set hi.is hiS, hu]; exact hq, ?_⟩
    rw [step_set hi.ks hkS]
    rcases put_false hq with ⟨hid, rfl⟩ | ⟨d', hid, hno', rfl⟩
    · rw [hv]; exact hp
    · rw [same (hi.wi d' (dst_wr hid)) hno' hkS hkK, hv]
      show put false _ k.dst v = _
      rw [hkd]; rfl
  · have hu' : setV C e i = some u := by rw [← same (hi.wk d (dst_wr hkd)) hno hiS hiK]; exact hu
    rcases put_false hq with ⟨hid, rfl⟩ | ⟨d', hid, hno', rfl⟩
    · refine ⟨e, by rw [step_set hi.is hiS, hu']; show put false e i.dst u = _; rw [hid]; rfl, ?_⟩
      rw [step_set hi.ks hkS, hv]; exact hp
    · have hdd : d' ≠ d := fun he => hi.dd d hkd (by rw [hid, he])
      rw [upd_ne _ _ hdd] at hno'
      refine ⟨upd e d' u, by rw [step_set hi.is hiS, hu']; show put false e i.dst u = _; rw [hid]; exact put_false_mk hno', ?_⟩
      rw [step_set hi.ks hkS, same (hi.wi d' (dst_wr hid)) hno' hkS hkK, hv]
      show put false _ k.dst v = _
      rw [hkd, put_false_mk (by rw [upd_ne _ _ (Ne.symm hdd)]; exact hno), upd_comm e u v hdd]

/-- An operation of kind N, with its guard, beside a slot that it does not name. -/
theorem stepG_frame (hrt : Rt K e) {o : AOpr} (hs : o.solo = false) (hk : kindOf o.op = .N) (hok : o.op.xs.all (okX K) = true) {d : Nat} {v : AV} (hd : d ∉ o.ins) (ho : o.dst ≠ some d)
    (hno : isOwner (e d) = false) (hv : ∀ r, refRoot v = some r → isOwner (e r) = true ∧ inA K r = true) : step C (upd e d v) o = (step C e o).map (upd · d v) := by
  have hds : d ∉ slotsL o.op.xs := fun h => hd (List.mem_append_left _ h)
  have ha : act C (upd e d v) o = (act C e o).map (upd · d v) := by
    have hal : ∀ e, allow e o.op = o.op.xs.all (softN e) := fun e => by unfold allow; rw [hk]
    have hsame : o.op.xs.all (softN (upd e d v)) = o.op.xs.all (softN e) := by
      have gen : ∀ xs : List AX, d ∉ slotsL xs → xs.all (softN (upd e d v)) = xs.all (softN e) := fun xs => by
        induction xs with
        | nil => intro _; rfl
        | cons x xs ih =>
          intro h
          simp only [slotsL, List.flatMap_cons, List.mem_append, not_or] at h
          simp only [List.all_cons, softN_frame h.1, ih h.2]
      exact gen _ hds
    unfold act
    rw [hs, hal, hal, hsame]
    simp only [Bool.false_or]
    split
    · rename_i hsoft; exact stepN_frame hrt hk hok hsoft hds ho hno hv
    · rfl
  unfold step
  cases hg : o.guard with
  | none => exact ha
  | some gw =>
    obtain ⟨g, want⟩ := gw
    have hgd : g ≠ d := fun he => hd (he ▸ mem_guard hg)
    simp only [upd_ne e v hgd]
    cases e g with
    | bool b =>
      simp only []
      split
      · exact ha
      · rw [hs]; exact put_frame ho
    | _ => rfl

theorem stepG_like (hrt : Rt K e) {o : AOpr} (hs : o.solo = false) (hk : kindOf o.op = .N) (hok : o.op.xs.all (okX K) = true) {e1 : Env} (h : step C e o = some e1) {s : Nat} (hw : s ∉ o.wr) : Like (e s) (e1 s) := by
  have hso : o.dst ≠ some s := fun he => hw (dst_wr he)
  have hst : s ∉ tempsL o.op.xs := fun he => hw (List.mem_append_right _ (by rw [hk]; exact he))
  have ha : act C e o = some e1 → Like (e s) (e1 s) := fun h => by
    unfold act at h
    have hal : allow e o.op = o.op.xs.all (softN e) := by unfold allow; rw [hk]
    rw [hs, hal] at h
    simp only [Bool.false_or] at h
    split at h
    · rename_i hsoft; exact stepN_like hrt hk hok hsoft h hso hst
    · cases h
  unfold step at h
  split at h
  · exact ha h
  · split at h
    · split at h
      · exact ha h
      · rw [hs] at h; rw [put_like h hso]; exact .refl _
    · cases h

/-- One that sets its slot by its operands alone, behind it one of kind N. -/
theorem comm_FN {k i : AOpr} (hi : Indep k i) (hkF : kindOf k.op = .F) (hiN : kindOf i.op = .N) (hkK : k.op.xs.all (okX K) = true) (hiK : i.op.xs.all (okX K) = true) (hrt : Rt K e) {e1 e2 : Env}
    (h1 : step C e k = some e1) (h2 : step C e1 i = some e2) : ∃ e1', step C e i = some e1' ∧ step C e1' k = some e2 := by
  have hkS : isSet k.op = true := by unfold isSet; rw [hkF]
  rw [step_set hi.ks hkS] at h1
  obtain ⟨v, hv, hp⟩ := bind_some h1
  have later : ∀ {e1'}, step C e i = some e1' → setV C e1' k = some v := fun {e1'} h => by
    rw [sv_F hkF fun s hs => stepG_like hrt hi.is hiN hiK h fun hw => hi.wi s hw hs]; exact hv
  rcases put_false hp with ⟨hkd, rfl⟩ | ⟨d, hkd, hno, rfl⟩
  · refine ⟨e2, h2, ?_⟩
    rw [step_set hi.ks hkS, later h2]
    show put false _ k.dst v = _
    rw [hkd]; rfl
  · have hfr := stepG_frame (C := C) hrt hi.is hiN hiK (d := d) (v := v) (hi.wk d (dst_wr hkd)) (hi.dd d hkd) hno fun r hr => setV_root hrt hkF hkK hv hr
    rw [hfr] at h2
    cases hsi : step C e i with
    | none => rw [hsi] at h2; cases h2
    | some e1' =>
      rw [hsi] at h2
      simp only [Option.map_some, Option.some.injEq] at h2
      refine ⟨e1', rfl, ?_⟩
      rw [step_set hi.ks hkS, later hsi]
      show put false _ k.dst v = _
      have hdw : d ∉ i.wr := fun hw => by
        rcases List.mem_append.1 hw with hw | hw
        · exact hi.dd d hkd (by simpa using hw)
        · refine hi.wk d (dst_wr hkd) ?_
          rw [hiN] at hw
          obtain ⟨x, hx, hxs⟩ := List.mem_flatMap.1 hw
          refine mem_ins hx ?_
          cases x <;> simp [tempsX] at hxs ⊢
          simp [slotsX, hxs]
      have := (stepG_like hrt hi.is hiN hiK hsi hdw).owner
      rw [hkd, put_false_mk (by rw [← this]; exact hno), h2]

/-- The other way round. -/
theorem comm_NF {k i : AOpr} (hi : Indep k i) (hkN : kindOf k.op = .N) (hiF : kindOf i.op = .F) (hkK : k.op.xs.all (okX K) = true) (hiK : i.op.xs.all (okX K) = true) (hrt : Rt K e) {e1 e2 : Env}
    (h1 : step C e k = some e1) (h2 : step C e1 i = some e2) : ∃ e1', step C e i = some e1' ∧ step C e1' k = some e2 := by
  have hiS : isSet i.op = true := by unfold isSet; rw [hiF]
  rw [step_set hi.is hiS] at h2
  obtain ⟨v, hv, hp⟩ := bind_some h2
  have hv' : setV C e i = some v := by
    rw [← sv_F hiF (e := e) (e' := e1) fun s hs => stepG_like hrt hi.ks hkN hkK h1 fun hw => hi.wk s hw hs]; exact hv
  rcases put_false hp with ⟨hid, rfl⟩ | ⟨d, hid, hno, rfl⟩
  · refine ⟨e, ?_, h1⟩
    rw [step_set hi.is hiS, hv']
    show put false _ i.dst v = _
    rw [hid]; rfl
  · have hdw : d ∉ k.wr := fun hw => by
      rcases List.mem_append.1 hw with hw | hw
      · exact hi.dd d (by simpa using hw) hid
      · refine hi.wi d (dst_wr hid) ?_
        rw [hkN] at hw
        obtain ⟨x, hx, hxs⟩ := List.mem_flatMap.1 hw
        refine mem_ins hx ?_
        cases x <;> simp [tempsX] at hxs ⊢
        simp [slotsX, hxs]
    have hno0 : isOwner (e d) = false := by
      have := (stepG_like hrt hi.ks hkN hkK h1 hdw).owner
      rw [this]; exact hno
    refine ⟨upd e d v, ?_, ?_⟩
    · rw [step_set hi.is hiS, hv']
      show put false _ i.dst v = _
      rw [hid, put_false_mk hno0]
    · rw [stepG_frame (C := C) hrt hi.ks hkN hkK (d := d) (v := v) (hi.wi d (dst_wr hid)) (fun he => hi.dd d he hid) hno0 (fun r hr => setV_root hrt hiF hiK hv' hr), h1]
      rfl

/-- Two operations that are not ordered against each other change places. -/
theorem commute {k i : AOpr} (h : indep k i = true) (hkK : k.op.xs.all (okX K) = true) (hiK : i.op.xs.all (okX K) = true) (hrt : Rt K e) {e1 e2 : Env}
    (h1 : step C e k = some e1) (h2 : step C e1 i = some e2) : ∃ e1', step C e i = some e1' ∧ step C e1' k = some e2 := by
  obtain ⟨hi, hk⟩ := indep_spec h
  cases hkk : kindOf k.op <;> cases hik : kindOf i.op <;> simp [kinds, hkk, hik] at hk
  · exact comm_SS hi (by simp [isSet, hkk]) (by simp [isSet, hik]) hkK hiK hrt h1 h2
  · exact comm_SS hi (by simp [isSet, hkk]) (by simp [isSet, hik]) hkK hiK hrt h1 h2
  · exact comm_FN hi hkk hik hkK hiK hrt h1 h2
  · exact comm_SS hi (by simp [isSet, hkk]) (by simp [isSet, hik]) hkK hiK hrt h1 h2
  · exact comm_SS hi (by simp [isSet, hkk]) (by simp [isSet, hik]) hkK hiK hrt h1 h2
  · exact comm_NF hi hkk hik hkK hiK hrt h1 h2

end
end Go.AM
