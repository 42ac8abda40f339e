/- YtcinobbeapgklaaAmDraw2: two operations change places. No statement of the seat is proved here. -/
import Derived.Test.YtcinobbeapgklaaAmDraw
namespace Go.AM

section
variable {K : List Nat} {e e' : Env} {C : Nat → List AV → Option AV}

theorem upd_comm (e : Env) {s t : Nat} (x y : AV) (h : s ≠ t) : upd (upd e s x) t y = upd (upd e t y) s x := by
  funext u
  unfold upd
  by_cases h1 : u = t
  · subst h1; simp [Ne.symm h]
  · by_cases h2 : u = s
    · subst h2; simp [h]
    · simp [h1, h2]

theorem kill_id (hrt : Rt K e) {s : Nat} (hs : inA K s = false) : kill s e = e := by
  funext t
  unfold kill
  rcases killR_spec s (e t) with h | ⟨h1, h2⟩
  · exact h
  · exfalso
    cases het : e t with
    | ref r c =>
      rw [het] at h2
      simp only [killR] at h2
      split at h2
      · rename_i hr; subst hr; have := (hrt t r (by rw [het]; rfl)).2; rw [hs] at this; cases this
      · cases h2
    | ptr r c row off =>
      rw [het] at h2
      simp only [killR] at h2
      split at h2
      · rename_i hr; subst hr; have := (hrt t r (by rw [het]; rfl)).2; rw [hs] at this; cases this
      · cases h2
    | _ => rw [het] at h1; simp [refRoot] at h1
theorem drop_id (hrt : Rt K e) {s : Nat} (hs : inA K s = false) : drop e s = upd e s .undef := by
  unfold drop; rw [kill_id hrt hs]
theorem Rt.upd_temp (hrt : Rt K e) {s : Nat} (hs : inA K s = false) : Rt K (upd e s .undef) := by
  intro t r hr
  by_cases ht : t = s
  · subst ht; rw [upd_same] at hr; simp [refRoot] at hr
  · rw [upd_ne _ _ ht] at hr
    obtain ⟨h1, h2⟩ := hrt t r hr
    have hrs : r ≠ s := fun he => by subst he; rw [hs] at h2; cases h2
    exact ⟨by rw [upd_ne _ _ hrs]; exact h1, h2⟩
theorem Rt.upd_any (hrt : Rt K e) {d : Nat} (hd : isOwner (e d) = false) {v : AV} (hv : ∀ r, refRoot v = some r → isOwner (e r) = true ∧ inA K r = true) : Rt K (upd e d v) := by
  intro t r hr
  have hrd : isOwner (e r) = true → r ≠ d := fun h he => by subst he; rw [hd] at h; cases h
  by_cases ht : t = d
  · subst ht; rw [upd_same] at hr
    obtain ⟨h1, h2⟩ := hv r hr
    exact ⟨by rw [upd_ne _ _ (hrd h1)]; exact h1, h2⟩
  · rw [upd_ne _ _ ht] at hr
    obtain ⟨h1, h2⟩ := hrt t r hr
    exact ⟨by rw [upd_ne _ _ (hrd h1)]; exact h1, h2⟩

theorem put_frame {d : Nat} {v : AV} {o : Option Nat} {y : AV} (h : o ≠ some d) : put false (upd e d v) o y = (put false e o y).map (upd · d v) := by
  cases o with
  | none => rfl
  | some k =>
    have hk : k ≠ d := fun he => h (by rw [he])
    simp only [put, upd_ne e v hk]
    split
    · simp
    · simp only [Option.map_some]
      rw [upd_comm e v y (Ne.symm hk)]

def takeF (e : Env) (x : AX) : Option (AV × Env) :=
  if isRef (rd e x) then none else
  match x with
  | .t s => if owns (e s) then some (e s, upd e s .undef) else some (rd e x, e)
  | _ => some (rd e x, e)
theorem softN_fzV {x : AX} (h : softN e x = true) : fzV e x = e := by
  cases x with
  | v s => exact fzV_soft (x := .v s) h
  | _ => rfl
theorem take_eq (hrt : Rt K e) {x : AX} (hx : okX K x = true) (hs : softN e x = true) : take false e x = takeF e x := by
  unfold take takeF
  simp only [softN_fzV hs]
  cases hr : rd e x with
  | ref s c =>
    cases c with
    | none =>
      simp only [isRef, if_true]
      split <;> simp
    | some k => rfl
  | ptr s c row off => rfl
  | _ =>
    simp only [isRef, Bool.false_eq_true, if_false]
    cases x with
    | t s =>
      simp only []
      rw [drop_id hrt (by simpa [okX] using hx)]
    | v s => rfl
    | c y => rfl

theorem takeF_some {x : AX} {y : AV} {e1 : Env} (h : takeF e x = some (y, e1)) : e1 = e ∨ ∃ s, x = .t s ∧ e1 = upd e s .undef := by
  unfold takeF at h
  split at h
  · cases h
  · cases x with
    | t s =>
      simp only [] at h
      split at h
      · simp only [Option.some.injEq, Prod.mk.injEq] at h; exact .inr ⟨s, rfl, h.2.symm⟩
      · simp only [Option.some.injEq, Prod.mk.injEq] at h; exact .inl h.2.symm
    | v s => simp only [Option.some.injEq, Prod.mk.injEq] at h; exact .inl h.2.symm
    | c y => simp only [Option.some.injEq, Prod.mk.injEq] at h; exact .inl h.2.symm

theorem rd_frame {d : Nat} {v : AV} {x : AX} (hd : d ∉ slotsX x) : rd (upd e d v) x = rd e x := by
  cases x with
  | c y => rfl
  | t s => have : s ≠ d := fun he => hd (by simp [slotsX, he]); simp only [rd, upd_ne e v this]
  | v s => have : s ≠ d := fun he => hd (by simp [slotsX, he]); simp only [rd, upd_ne e v this]
theorem softN_frame {d : Nat} {v : AV} {x : AX} (hd : d ∉ slotsX x) : softN (upd e d v) x = softN e x := by
  cases x with
  | c y => rfl
  | t s => have : s ≠ d := fun he => hd (by simp [slotsX, he]); simp only [softN, upd_ne e v this]
  | v s => have : s ≠ d := fun he => hd (by simp [slotsX, he]); simp only [softN, softX, upd_ne e v this]
theorem takeF_frame {d : Nat} {v : AV} {x : AX} (hd : d ∉ slotsX x) : takeF (upd e d v) x = (takeF e x).map fun q => (q.1, upd q.2 d v) := by
  unfold takeF
  rw [rd_frame hd]
  split
  · rfl
  · cases x with
    | t s =>
      have hs : s ≠ d := fun he => hd (by simp [slotsX, he])
      simp only [upd_ne e v hs]
      split
      · simp only [Option.map_some]; rw [upd_comm e v .undef (Ne.symm hs)]
      · rfl
    | v s => rfl
    | c y => rfl

def takeAllF (e : Env) : List AX → Option (List AV × Env)
  | [] => some ([], e)
  | x :: l => match takeF e x with
    | some (v, e1) => if isVal v then
        match takeAllF e1 l with
        | some (vs, e2) => some (v :: vs, e2)
        | none => none
      else none
    | none => none
theorem takeAll_eq : ∀ {xs : List AX} {e : Env} (_ : Rt K e) (_ : xs.all (okX K) = true) (_ : xs.all (softN e) = true), takeAll false e xs = takeAllF e xs
  | [], e, _, _, _ => rfl
  | x :: xs, e, hrt, hx, hs => by
    simp only [List.all_cons, Bool.and_eq_true] at hx hs
    simp only [takeAll, takeAllF, take_eq hrt hx.1 hs.1]
    cases ht : takeF e x with
    | none => rfl
    | some q =>
      obtain ⟨y, e1⟩ := q
      simp only []
      split
      · have h1 : Rt K e1 ∧ xs.all (softN e1) = true := by
          rcases takeF_some ht with rfl | ⟨s, rfl, rfl⟩
          · exact ⟨hrt, hs.2⟩
          · refine ⟨hrt.upd_temp (by simpa [okX] using hx.1), ?_⟩
            rw [List.all_eq_true]
            intro z hz
            have hzs := List.all_eq_true.1 hs.2 z hz
            have hzk := List.all_eq_true.1 hx.2 z hz
            cases z with
            | c y => exact hzs
            | t u =>
              simp only [softN] at hzs ⊢
              by_cases hus : u = s
              · subst hus; rw [upd_same]
              · rw [upd_ne _ _ hus]; exact hzs
            | v u =>
              have hus : u ≠ s := fun he => by
                subst he
                simp only [okX] at hzk hx
                rw [hzk] at hx; simp at hx
              simp only [softN, softX, upd_ne _ _ hus] at hzs ⊢
              exact hzs
        rw [takeAll_eq h1.1 hx.2 h1.2]
        cases takeAllF e1 xs <;> rfl
      · rfl
    
theorem takeAllF_frame {d : Nat} {v : AV} : ∀ {xs : List AX} {e : Env} (_ : d ∉ slotsL xs), takeAllF (upd e d v) xs = (takeAllF e xs).map fun q => (q.1, upd q.2 d v)
  | [], e, _ => rfl
  | x :: xs, e, hd => by
    simp only [slotsL, List.flatMap_cons, List.mem_append, not_or] at hd
    simp only [takeAllF, takeF_frame hd.1]
    cases takeF e x with
    | none => rfl
    | some q =>
      obtain ⟨y, e1⟩ := q
      simp only [Option.map_some]
      split
      · rw [takeAllF_frame hd.2]
        cases takeAllF e1 xs with
        | none => rfl
        | some q => rfl
      · rfl

/-- What taking leaves: the temporaries that were taken are empty. -/
theorem takeAllF_some : ∀ {xs : List AX} {e : Env} {vs : List AV} {e1 : Env} (_ : takeAllF e xs = some (vs, e1)) (s : Nat), s ∉ tempsL xs → e1 s = e s
  | [], e, vs, e1, h, s, _ => by simp [takeAllF] at h; rw [h.2]
  | x :: xs, e, vs, e1, h, s, hs => by
    simp only [tempsL, List.flatMap_cons, List.mem_append, not_or] at hs
    simp only [takeAllF] at h
    split at h
    · rename_i y e2 ht
      split at h
      · split at h
        · rename_i vs' e3 ht2
          simp only [Option.some.injEq, Prod.mk.injEq] at h
          obtain ⟨_, rfl⟩ := h
          rw [takeAllF_some ht2 s hs.2]
          rcases takeF_some ht with rfl | ⟨t, rfl, rfl⟩
          · rfl
          · exact upd_ne _ _ fun he => hs.1 (by simp [tempsX, he])
        · cases h
      · cases h
    · cases h

theorem storeAt_frame {d : Nat} {v : AV} {p nv : AV} {m : Nat} (hd : ∀ r, refRoot p = some r → r ≠ d) : storeAt false (upd e d v) p m nv = (storeAt false e p m nv).map (upd · d v) := by
  unfold storeAt
  simp only []
  split
  · cases p with
    | ptr s c row off =>
      have hs : s ≠ d := hd s rfl
      cases c with
      | none =>
        simp only [upd_ne e v hs]
        cases hes : e s with
        | box cs =>
          simp only []
          split
          · split
            · simp
            · simp only [Option.map_some]; rw [upd_comm e v _ (Ne.symm hs)]
          · rfl
        | own z rows =>
          simp only []
          cases rows[row]? with
          | none => rfl
          | some r =>
            simp only []
            split
            · simp only [Option.map_some]; rw [upd_comm e v _ (Ne.symm hs)]
            · rfl
        | _ => rfl
      | some k =>
        simp only [upd_ne e v hs]
        cases hes : e s with
        | box cs =>
          simp only []
          cases cs[k]? with
          | none => rfl
          | some q =>
            cases q with
            | own z rows =>
              simp only []
              cases rows[row]? with
              | none => rfl
              | some r =>
                simp only []
                split
                · simp only [Option.map_some]; rw [upd_comm e v _ (Ne.symm hs)]
                · rfl
            | _ => rfl
        | _ => rfl
    | _ => rfl
  · rfl

theorem storeAt_like {p nv : AV} {m : Nat} {e1 : Env} (h : storeAt false e p m nv = some e1) (s : Nat) : Like (e s) (e1 s) := by
  have key : ∀ r y, Like (e r) y → e1 = upd e r y → Like (e s) (e1 s) := fun r y hl he => by
    subst he
    by_cases hs : s = r
    · subst hs; rw [upd_same]; exact hl
    · rw [upd_ne _ _ hs]; exact .refl _
  unfold storeAt at h
  simp only [] at h
  split at h
  · cases p with
    | ptr r c row off =>
      cases c with
      | none =>
        simp only [] at h
        cases hes : e r with
        | box cs =>
          simp only [hes] at h
          split at h
          · split at h
            · simp at h
            · simp only [Option.some.injEq] at h; exact key r _ (.inr (.inl ⟨_, _, hes, rfl⟩)) h.symm
          · cases h
        | own z rows =>
          simp only [hes] at h
          split at h
          · split at h
            · simp only [Option.some.injEq] at h; exact key r _ (.inr (.inr ⟨_, _, _, _, hes, rfl⟩)) h.symm
            · cases h
          · cases h
        | _ => simp [hes] at h
      | some k =>
        simp only [] at h
        cases hes : e r with
        | box cs =>
          simp only [hes] at h
          split at h
          · split at h
            · split at h
              · simp only [Option.some.injEq] at h; exact key r _ (.inr (.inl ⟨_, _, hes, rfl⟩)) h.symm
              · cases h
            · cases h
          · cases h
        | _ => simp [hes] at h
    | _ => simp at h
  · cases h


theorem mem_slotsL {xs : List AX} {x : AX} {s : Nat} (hx : x ∈ xs) (hs : s ∈ slotsX x) : s ∈ slotsL xs := List.mem_flatMap.2 ⟨x, hx, hs⟩

/-- An operation of kind N, beside a slot that it does not name. -/
theorem stepN_frame (hrt : Rt K e) {op : AOp} (hk : kindOf op = .N) (hok : op.xs.all (okX K) = true) (hs : op.xs.all (softN e) = true) {o : Option Nat} {d : Nat} {v : AV} (hd : d ∉ slotsL op.xs) (ho : o ≠ some d)
    (hno : isOwner (e d) = false) (hv : ∀ r, refRoot v = some r → isOwner (e r) = true ∧ inA K r = true) : stepOp C false (upd e d v) o op = (stepOp C false e o op).map (upd · d v) := by
  have hrt' := hrt.upd_any hno hv
  have soft' : ∀ x ∈ op.xs, softN (upd e d v) x = true := fun x hx => by
    rw [softN_frame fun h => hd (mem_slotsL hx h)]; exact List.all_eq_true.1 hs x hx
  cases op with
  | box x =>
    have hx := List.all_eq_true.1 hok x (by simp [AOp.xs])
    have hsx := List.all_eq_true.1 hs x (by simp [AOp.xs])
    have hdx : d ∉ slotsX x := fun h => hd (mem_slotsL (by simp [AOp.xs]) h)
    simp only [stepOp, take_eq hrt hx hsx, take_eq hrt' hx (soft' x (by simp [AOp.xs])), takeF_frame hdx]
    cases takeF e x with
    | none => rfl
    | some q =>
      obtain ⟨y, e1⟩ := q
      simp only [Option.map_some]
      split
      · exact put_frame ho
      · rfl
  | store m x w =>
    have hx := List.all_eq_true.1 hok w (by simp [AOp.xs])
    have hsx := List.all_eq_true.1 hs w (by simp [AOp.xs])
    have hdx : d ∉ slotsX w := fun h => hd (mem_slotsL (by simp [AOp.xs]) h)
    have hdp : d ∉ slotsX x := fun h => hd (mem_slotsL (by simp [AOp.xs]) h)
    have hroot : ∀ r, refRoot (rd e x) = some r → r ≠ d := fun r hr he => by
      subst he
      have : isOwner (e r) = true := by
        cases x with
        | c y =>
          have := List.all_eq_true.1 hok (.c y) (by simp [AOp.xs])
          simp only [rd] at hr
          simp [okX, hr] at this
        | t s =>
          simp only [rd] at hr
          cases hes : e s with
          | own z rs => rw [hes] at hr; simp [refRoot] at hr
          | box cs => rw [hes] at hr; simp [refRoot] at hr
          | _ => rw [hes] at hr; exact (hrt s r (by rw [hes]; exact hr)).1
        | v s =>
          simp only [rd] at hr
          cases hes : e s with
          | own z rs => rw [hes] at hr; simp [refRoot] at hr; subst hr; rw [hes]; rfl
          | box cs => rw [hes] at hr; simp [refRoot] at hr; subst hr; rw [hes]; rfl
          | _ => rw [hes] at hr; exact (hrt s r (by rw [hes]; exact hr)).1
      rw [hno] at this; cases this
    simp only [stepOp, take_eq hrt hx hsx, take_eq hrt' hx (soft' w (by simp [AOp.xs])), takeF_frame hdx, rd_frame hdp]
    cases takeF e w with
    | none => rfl
    | some q =>
      obtain ⟨y, e1⟩ := q
      simp only [Option.map_some]
      split
      · exact storeAt_frame hroot
      · rfl
  | build zero parts =>
    have hmap : (AOp.build zero parts).xs = parts.map (·.2.2) := rfl
    rw [hmap] at hok hs hd soft'
    simp only [stepOp, takeAll_eq hrt hok hs, takeAll_eq hrt' hok (List.all_eq_true.2 soft'), takeAllF_frame hd]
    cases takeAllF e (parts.map (·.2.2)) with
    | none => rfl
    | some q =>
      obtain ⟨vs, e1⟩ := q
      simp only [Option.map_some]
      split
      · split
        · exact put_frame ho
        · rfl
      · rfl
  | _ => simp [kindOf] at hk

theorem put_like {o : Option Nat} {y : AV} {e1 : Env} (h : put false e o y = some e1) {s : Nat} (hs : o ≠ some s) : e1 s = e s := by
  cases o with
  | none => simp [put] at h; rw [h]
  | some k =>
    simp only [put] at h
    split at h
    · simp at h
    · simp only [Option.some.injEq] at h
      subst h
      exact upd_ne _ _ fun he => hs (by rw [he])

/-- What an operation of kind N leaves alone. -/
theorem stepN_like (hrt : Rt K e) {op : AOp} (hk : kindOf op = .N) (hok : op.xs.all (okX K) = true) (hs : op.xs.all (softN e) = true) {o : Option Nat} {e1 : Env} (h : stepOp C false e o op = some e1) {s : Nat}
    (hso : o ≠ some s) (hst : s ∉ tempsL op.xs) : Like (e s) (e1 s) := by
  have tk : ∀ {x : AX} {y : AV} {e2 : Env}, takeF e x = some (y, e2) → s ∉ tempsX x → e2 s = e s := fun {x y e2} ht hx => by
    rcases takeF_some ht with rfl | ⟨t, rfl, rfl⟩
    · rfl
    · exact upd_ne _ _ fun he => hx (by simp [tempsX, he])
  cases op with
  | box x =>
    have hx := List.all_eq_true.1 hok x (by simp [AOp.xs])
    have hsx := List.all_eq_true.1 hs x (by simp [AOp.xs])
    simp only [stepOp, take_eq hrt hx hsx] at h
    split at h
    · rename_i y e2 ht
      split at h
      · rw [put_like h hso, tk ht fun hh => hst (List.mem_flatMap.2 ⟨x, by simp [AOp.xs], hh⟩)]; exact .refl _
      · cases h
    · cases h
  | store m x w =>
    have hx := List.all_eq_true.1 hok w (by simp [AOp.xs])
    have hsx := List.all_eq_true.1 hs w (by simp [AOp.xs])
    simp only [stepOp, take_eq hrt hx hsx] at h
    split at h
    · rename_i y e2 ht
      split at h
      · rw [← tk ht fun hh => hst (List.mem_flatMap.2 ⟨w, by simp [AOp.xs], hh⟩)]; exact storeAt_like h s
      · cases h
    · cases h
  | build zero parts =>
    have hmap : (AOp.build zero parts).xs = parts.map (·.2.2) := rfl
    rw [hmap] at hok hs hst
    simp only [stepOp, takeAll_eq hrt hok hs] at h
    split at h
    · rename_i vs e2 ht
      split at h
      · split at h
        · rw [put_like h hso, takeAllF_some ht s hst]; exact .refl _
        · cases h
      · cases h
    · cases h
  | _ => simp [kindOf] at hk

theorem Like.owner {a b : AV} (h : Like a b) : isOwner a = isOwner b := by
  rcases h with rfl | ⟨x, y, rfl, rfl⟩ | ⟨z, r, z', r', rfl, rfl⟩ <;> rfl
theorem Like.symm {a b : AV} (h : Like a b) : Like b a := by
  rcases h with rfl | ⟨x, y, rfl, rfl⟩ | ⟨z, r, z', r', rfl, rfl⟩
  · exact .inl rfl
  · exact .inr (.inl ⟨_, _, rfl, rfl⟩)
  · exact .inr (.inr ⟨_, _, _, _, rfl, rfl⟩)

end
end Go.AM
