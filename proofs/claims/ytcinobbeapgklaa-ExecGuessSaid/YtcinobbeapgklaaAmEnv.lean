/- YtcinobbeapgklaaAmEnv: the abstract environment against the model's frame and memory: how it is kept when a slot turns, when memory grows, when what is owned is frozen. No statement of the seat is proved here. -/
import Derived.Test.YtcinobbeapgklaaAmRep
namespace Go.AM
open Go.RowKit (Below)

theorem upd_same (e : Env) (s : Nat) (v : AV) : upd e s v s = v := by simp [upd]
theorem upd_ne (e : Env) {s t : Nat} (v : AV) (h : t ≠ s) : upd e s v t = e t := by simp [upd, h]
def updS (S : Nat → List Nat) (s : Nat) (x : List Nat) : Nat → List Nat := fun t => if t = s then x else S t
theorem updS_same (S : Nat → List Nat) (s : Nat) (v : List Nat) : updS S s v s = v := by simp [updS]
theorem updS_ne (S : Nat → List Nat) {s t : Nat} (v : List Nat) (h : t ≠ s) : updS S s v t = S t := by simp [updS, h]

def NoRef (e : Env) (d : Nat) : Prop := ∀ s, refRoot (e s) ≠ some d

theorem content_owner {e : Env} {s : Nat} {c : Option Nat} {rows : List (List AV)} (h : content e s c = some rows) : isOwner (e s) = true := by
  unfold content at h
  cases c with
  | none => cases hs : e s <;> simp [hs] at h <;> rfl
  | some k => cases hs : e s <;> simp [hs] at h; rfl
theorem content_congr {e e' : Env} {s : Nat} (h : e' s = e s) (c : Option Nat) : content e' s c = content e s c := by
  unfold content; rw [h]

theorem TRep_refRoot {w : World} {F : Nat → Prop} {x : AV} {v : Value} {S : List Nat} (h : TRep w F x v S) : refRoot x = none := by
  cases h with
  | tup _ => rfl
  | val h => cases h with
    | agg _ => rfl
    | undef => rfl
    | cell h => cases h with
      | pure h hc => cases h <;> rfl
      | _ => rfl

section
variable {K : List Nat} {F0 : Nat → Prop} {B n : Nat} {w0 : World} {F : Nat → Prop} {S : Nat → List Nat} {e : Env} {a : Act} {w : World}

theorem EnvRel.noRef (h : EnvRel K F0 B n w0 F S e a w) {d : Nat} (hd : isOwner (e d) = false) : NoRef e d := by
  intro s hs
  have hr := h.rep s
  generalize a.tmps.getD s undef = v at hr
  generalize S s = T at hr
  generalize hx : e s = x at hr hs
  cases hr with
  | val h => rw [TRep_refRoot h] at hs; cases hs
  | box => simp [refRoot] at hs
  | ref s' c v hr hb h hK =>
    simp [refRoot] at hs; subst hs
    cases hc : content e s' c with
    | none => simp [hc] at hr
    | some rows => rw [content_owner hc] at hd; cases hd
  | ptr s' c row off rows r b hr hrow hb hK =>
    simp [refRoot] at hs; subst hs
    rw [content_owner hr] at hd; cases hd

theorem getD_put (a : Act) (d s : Nat) (v : Value) (hd : d < a.tmps.size) : (a.put (some d) v).tmps.getD s undef = if s = d then v else a.tmps.getD s undef := by
  simp only [Act.put, Array.getD_eq_getD_getElem?]
  by_cases h : s = d
  · subst h; simp [hd]
  · rw [if_neg h, Array.getElem?_setIfInBounds_ne (Ne.symm h)]

theorem hdr_put {a : Act} {d s : Nat} {v : Value} {w : World} (hd : d < a.tmps.size) (h : s ≠ d) (c : Option Nat) : hdr (a.put (some d) v) w s c = hdr a w s c := by
  unfold hdr
  cases c <;> simp only [getD_put a d s v hd, if_neg h]

/-- What a slot holds stays right where another slot turns to which it does not refer. -/
theorem SRep.put {x : AV} {v : Value} {T : List Nat} (h : SRep K e a w F x v T) {d : Nat} {y : AV} {u : Value} (hd : d < a.tmps.size) (hx : refRoot x ≠ some d) :
    SRep K (upd e d y) (a.put (some d) u) w F x v T := by
  cases h with
  | val h => exact .val h
  | box cs b cells ty S hg h => exact .box cs b cells ty S hg h
  | ref s c v hr hb h hK =>
    have hs : s ≠ d := fun he => hx (by simp [refRoot, he])
    have he : upd e d y s = e s := upd_ne e y hs
    exact .ref s c v (by rw [content_congr he]; exact hr) (by rw [he]; exact hb) (by rw [hdr_put hd hs]; exact h) hK
  | ptr s c row off rows r b hr hrow hb hK =>
    have hs : s ≠ d := fun he => hx (by simp [refRoot, he])
    have he : upd e d y s = e s := upd_ne e y hs
    exact .ptr s c row off rows r b (by rw [content_congr he]; exact hr) hrow (by rw [hdr_put hd hs]; exact hb) hK

/-- The environment turns, but not where this value refers to. -/
theorem SRep.env {x : AV} {v : Value} {T : List Nat} (h : SRep K e a w F x v T) {e' : Env} (hc : ∀ s, refRoot x = some s → isOwner (e s) = true → e' s = e s) : SRep K e' a w F x v T := by
  cases h with
  | val h => exact .val h
  | box cs b cells ty S hg h => exact .box cs b cells ty S hg h
  | ref s c v hr hb h hK =>
    cases hc' : content e s c with
    | none => simp [hc'] at hr
    | some rows =>
      have he := hc s rfl (content_owner hc')
      exact .ref s c _ (by rw [content_congr he]; exact hr) (by rw [he]; exact hb) h hK
  | ptr s c row off rows r b hr hrow hb hK =>
    have he := hc s rfl (content_owner hr)
    exact .ptr s c row off rows r b (by rw [content_congr he]; exact hr) hrow hb hK
theorem SRep.isOwner_root {x : AV} {v : Value} {T : List Nat} (h : SRep K e a w F x v T) {s : Nat} (hx : refRoot x = some s) : isOwner (e s) = true := by
  cases h with
  | val h => rw [TRep_refRoot h] at hx; cases hx
  | box => simp [refRoot] at hx
  | ref s' c v hr hb h hK =>
    simp [refRoot] at hx; subst hx
    cases hc : content e s' c with
    | none => simp [hc] at hr
    | some rows => exact content_owner hc
  | ptr s' c row off rows r b hr hrow hb hK => simp [refRoot] at hx; subst hx; exact content_owner hr

/-- What stands beside the slots: a value with what it owns. -/
structure Hand (K : List Nat) (B : Nat) (F : Nat → Prop) (S : Nat → List Nat) (e : Env) (a : Act) (w : World) (x : AV) (v : Value) (T : List Nat) : Prop where
  rep : SRep K e a w F x v T
  nodup : T.Nodup
  own : ∀ b ∈ T, B ≤ b ∧ b < w.heap.size ∧ ¬ F b
  apart : ∀ b ∈ T, ∀ s, b ∉ S s

theorem Hand.of_pure {x : AV} {v : Value} (h : SRep K e a w F x v []) : Hand K B F S e a w x v [] :=
  ⟨h, List.nodup_nil, by simp, by simp⟩

/-- A slot turns. -/
theorem EnvRel.set (h : EnvRel K F0 B n w0 F S e a w) {d : Nat} (hd : d < n) (hn : NoRef e d) {x : AV} {v : Value} {T : List Nat} (hh : Hand K B F S e a w x v T)
    (hx : refRoot x ≠ some d) : EnvRel K F0 B n w0 F (updS S d T) (upd e d x) (a.put (some d) v) w := by
  have hda : d < a.tmps.size := h.size ▸ hd
  refine ⟨by simp [Act.put, h.size], by simpa [Act.put] using h.defers, ?_, ?_, ?_, ?_, h.free, h.old, h.keeps, h.below, h.base⟩
  · intro s
    rw [getD_put a d s v hda]
    by_cases hs : s = d
    · subst hs
      rw [if_pos rfl, upd_same, updS_same]
      exact hh.rep.put hda hx
    · rw [if_neg hs, upd_ne e x hs, updS_ne S T hs]
      exact (h.rep s).put hda (hn s)
  · intro s
    by_cases hs : s = d
    · subst hs; rw [updS_same]; exact hh.nodup
    · rw [updS_ne S T hs]; exact h.nodup s
  · intro s t b hst hb
    by_cases hs : s = d
    · subst hs
      rw [updS_same] at hb
      rw [updS_ne S T (Ne.symm hst)]
      exact hh.apart b hb t
    · rw [updS_ne S T hs] at hb
      by_cases ht : t = d
      · subst ht; rw [updS_same]; exact fun hb' => hh.apart b hb' s hb
      · rw [updS_ne S T ht]; exact h.apart s t b hst hb
  · intro s b hb
    by_cases hs : s = d
    · subst hs; rw [updS_same] at hb; exact hh.own b hb
    · rw [updS_ne S T hs] at hb; exact h.own s b hb

/-- A slot is emptied in thought alone: the frame is as it was. -/
theorem EnvRel.forget (h : EnvRel K F0 B n w0 F S e a w) (d : Nat) (hn : NoRef e d) : EnvRel K F0 B n w0 F (updS S d []) (upd e d .undef) a w := by
  refine ⟨h.size, h.defers, ?_, ?_, ?_, ?_, h.free, h.old, h.keeps, h.below, h.base⟩
  · intro s
    by_cases hs : s = d
    · subst hs; rw [upd_same, updS_same]; exact .val (.val .undef)
    · rw [upd_ne e _ hs, updS_ne S _ hs]
      exact (h.rep s).env fun s' hs' _ => upd_ne e _ fun he => hn s (by rw [hs', he])
  · intro s
    by_cases hs : s = d
    · subst hs; rw [updS_same]; exact List.nodup_nil
    · rw [updS_ne S _ hs]; exact h.nodup s
  · intro s t b hst hb
    by_cases hs : s = d
    · subst hs; rw [updS_same] at hb; cases hb
    · rw [updS_ne S _ hs] at hb
      by_cases ht : t = d
      · subst ht; rw [updS_same]; simp
      · rw [updS_ne S _ ht]; exact h.apart s t b hst hb
  · intro s b hb
    by_cases hs : s = d
    · subst hs; rw [updS_same] at hb; cases hb
    · rw [updS_ne S _ hs] at hb; exact h.own s b hb

/-- References are forgotten, by a map that leaves all else. -/
theorem EnvRel.weaken (h : EnvRel K F0 B n w0 F S e a w) (f : AV → AV) (hf : ∀ x, f x = x ∨ (refRoot x ≠ none ∧ f x = .undef)) :
    EnvRel K F0 B n w0 F S (fun s => f (e s)) a w := by
  have hown : ∀ s, isOwner (e s) = true → f (e s) = e s := fun s hs => by
    rcases hf (e s) with h1 | ⟨h1, _⟩
    · exact h1
    · cases he : e s <;> simp [he, isOwner] at hs <;> simp [he, refRoot] at h1
  refine ⟨h.size, h.defers, ?_, h.nodup, h.apart, h.own, h.free, h.old, h.keeps, h.below, h.base⟩
  intro s
  have hr := h.rep s
  show SRep K _ a w F (f (e s)) _ _
  rcases hf (e s) with h1 | ⟨h1, h2⟩
  · rw [h1]
    exact hr.env fun s' _ ho => hown s' ho
  · rw [h2]
    have hS : S s = [] := by
      generalize a.tmps.getD s undef = v at hr
      generalize S s = T at hr ⊢
      generalize e s = x at hr h1
      cases hr with
      | val h => rw [TRep_refRoot h] at h1; exact absurd rfl h1
      | box => simp [refRoot] at h1
      | ref => rfl
      | ptr => rfl
    rw [hS]; exact .val (.val .undef)

theorem killR_spec (d : Nat) (x : AV) : killR d x = x ∨ (refRoot x ≠ none ∧ killR d x = .undef) := by
  cases x with
  | ref s c => simp only [killR]; split <;> simp [refRoot]
  | ptr s c r o => simp only [killR]; split <;> simp [refRoot]
  | _ => exact .inl rfl
theorem killR_noRef (d : Nat) (x : AV) : refRoot (killR d x) ≠ some d := by
  cases x with
  | ref s c => simp only [killR]; split <;> simp_all [refRoot]
  | ptr s c r o => simp only [killR]; split <;> simp_all [refRoot]
  | _ => simp [killR, refRoot]
theorem killR_owner (d : Nat) {x : AV} (h : isOwner x = true) : killR d x = x := by
  cases x <;> first | rfl | simp [isOwner] at h
theorem EnvRel.kill (h : EnvRel K F0 B n w0 F S e a w) (d : Nat) : EnvRel K F0 B n w0 F S (kill d e) a w := h.weaken (killR d) (killR_spec d)
theorem noRef_kill (d : Nat) (e : Env) : NoRef (kill d e) d := fun s => killR_noRef d (e s)

/-- A slot's value is taken out of it. -/
theorem EnvRel.drop (h : EnvRel K F0 B n w0 F S e a w) (d : Nat) : EnvRel K F0 B n w0 F (updS S d []) (drop e d) a w :=
  (h.kill d).forget d (noRef_kill d e)

theorem EnvRel.hand (h : EnvRel K F0 B n w0 F S e a w) (d : Nat) {x : AV} (hx : e d = x) (hr : refRoot x = none) {e' : Env} {a' : Act} :
    Hand K B F (updS S d []) e' a' w x (a.tmps.getD d undef) (S d) := by
  refine ⟨?_, h.nodup d, fun b hb => h.own d b hb, fun b hb s => ?_⟩
  · have h0 := h.rep d
    rw [hx] at h0
    generalize a.tmps.getD d undef = v at h0
    generalize S d = T at h0
    cases h0 with
    | val h => exact .val h
    | box cs b cells ty S hg h => exact .box cs b cells ty S hg h
    | ref => simp [refRoot] at hr
    | ptr => simp [refRoot] at hr
  · by_cases hs : s = d
    · subst hs; rw [updS_same]; simp
    · rw [updS_ne S _ hs]; exact h.apart d s b (Ne.symm hs) hb

/-- The machine's 'put'. -/
theorem EnvRel.put (h : EnvRel K F0 B n w0 F S e a w) {d : Nat} (hd : d < n) {x : AV} {v : Value} {T : List Nat} (hh : Hand K B F S e a w x v T) {solo : Bool} {e' : Env}
    (hp : put solo e (some d) x = some e') : ∃ S', EnvRel K F0 B n w0 F S' e' (a.put (some d) v) w := by
  simp only [Go.AM.put] at hp
  split at hp
  · rename_i ho
    split at hp
    · simp at hp; subst hp
      have hk := h.kill d
      rcases killR_spec d x with h1 | ⟨h1, h2⟩
      · refine ⟨_, hk.set hd (noRef_kill d e) (x := killR d x) ⟨?_, hh.nodup, hh.own, hh.apart⟩ (killR_noRef d x)⟩
        rw [h1]
        exact hh.rep.env fun s _ ho => killR_owner d ho
      · refine ⟨_, hk.set hd (noRef_kill d e) (x := killR d x) (T := []) ⟨?_, List.nodup_nil, by simp, by simp⟩ (killR_noRef d x)⟩
        rw [h2]; exact .val (.val .undef)
    · cases hp
  · rename_i ho
    simp at hp; subst hp
    have hn := h.noRef (d := d) (by simpa using ho)
    refine ⟨_, h.set hd hn hh ?_⟩
    intro hx
    have := hh.rep.isOwner_root hx
    rw [this] at ho; simp at ho

theorem EnvRel.putN (h : EnvRel K F0 B n w0 F S e a w) {d : Option Nat} (hd : ∀ k, d = some k → k < n) {x : AV} {v : Value} {T : List Nat} (hh : Hand K B F S e a w x v T) {solo : Bool} {e' : Env}
    (hp : Go.AM.put solo e d x = some e') : ∃ S', EnvRel K F0 B n w0 F S' e' (a.put d v) w := by
  cases d with
  | none => simp [Go.AM.put] at hp; subst hp; exact ⟨S, h⟩
  | some d => exact h.put (hd d rfl) hh hp

theorem heap_keeps {w w' : World} (hb : Below w.heap.size w w') {b : Nat} (h : b < w.heap.size) : w'.heap[b]? = w.heap[b]? := hb.block b h

/-- Memory grows: what was there is as it was. -/
theorem EnvRel.hdr_ext (h : EnvRel K F0 B n w0 F S e a w) {w' : World} (hw : ∀ b, b < w.heap.size → w'.heap[b]? = w.heap[b]?) {s : Nat} {c : Option Nat}
    (hc : (content e s c).isSome = true) : hdr a w' s c = hdr a w s c := by
  cases c with
  | none => rfl
  | some k =>
    have hr := h.rep s
    have ho := h.own s
    unfold hdr
    simp only []
    generalize a.tmps.getD s undef = v at hr
    generalize S s = T at hr ho
    cases hs : e s with
    | box cs =>
      rw [hs] at hr
      cases hr with
      | val h => cases h with
        | val h => cases h with
          | cell h => cases h with
            | pure h hc => simp [isCell] at hc
      | box cs b cells ty S hg h =>
        simp only []
        rw [World.cell?_of_block (w := w) (hw b (ho b (by simp)).2.1)]
    | _ => simp [content, hs] at hc

theorem SRep.ext {x : AV} {v : Value} {T : List Nat} (h : SRep K e a w F x v T) {w' : World} {F' : Nat → Prop} (hF : ∀ b, F b → F' b)
    (hw : ∀ b, b < w.heap.size → w'.heap[b]? = w.heap[b]?) (hFl : ∀ b, F b → b < w.heap.size) (hT : ∀ b ∈ T, b < w.heap.size)
    (hcon : ∀ s c, (content e s c).isSome = true → hdr a w' s c = hdr a w s c) : SRep K e a w' F' x v T := by
  cases h with
  | val h => exact .val (h.mono hF (fun b hb => hw b (hFl b hb)) fun b hb => hw b (hT b hb))
  | box cs b cells ty S hg h => exact .box cs b cells ty S ((hw b (hT b (by simp))).trans hg) (h.mono hF (fun b hb => hw b (hFl b hb)) fun b hb => hw b (hT b (by simp [hb])))
  | ref s c v hr hb h hK => exact .ref s c v hr hb (by rw [hcon s c hr]; exact h) hK
  | ptr s c row off rows r b hr hrow hb hK => exact .ptr s c row off rows r b hr hrow (by rw [hcon s c (by simp [hr])]; exact hb) hK

theorem EnvRel.ext (h : EnvRel K F0 B n w0 F S e a w) {w' : World} {F' : Nat → Prop} (hb : Below w.heap.size w w') (hF : ∀ b, F b → F' b)
    (hF' : ∀ b, F' b → F b ∨ (w.heap.size ≤ b ∧ b < w'.heap.size)) : EnvRel K F0 B n w0 F' S e a w' := by
  refine ⟨h.size, h.defers, fun s => (h.rep s).ext hF hb.block h.free (fun b hb' => (h.own s b hb').2.1) fun s c hc => h.hdr_ext hb.block hc, h.nodup, h.apart, ?_, ?_, ?_, ?_, ?_, ?_⟩
  · intro s b hs
    obtain ⟨h1, h2, h3⟩ := h.own s b hs
    refine ⟨h1, Nat.lt_of_lt_of_le h2 hb.size, fun hf => ?_⟩
    rcases hF' b hf with hf | ⟨hf, _⟩
    · exact h3 hf
    · omega
  · intro b hf
    rcases hF' b hf with hf | ⟨_, hf⟩
    · exact Nat.lt_of_lt_of_le (h.free b hf) hb.size
    · exact hf
  · intro b hf
    rcases hF' b hf with hf | ⟨hf, _⟩
    · exact h.old b hf
    · exact .inr (Nat.le_trans h.base hf)
  · exact fun b hb => hF b (h.keeps b hb)
  · exact h.below.trans (hb.mono h.base)
  · exact Nat.le_trans h.base hb.size

end
end Go.AM
