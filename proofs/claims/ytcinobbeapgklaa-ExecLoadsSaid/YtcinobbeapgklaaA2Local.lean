/- YtcinobbeapgklaaA2Local: what an operation looks at. No statement of the seat is proved here. -/
import Derived.Test.YtcinobbeapgklaaA2Fn
namespace Go.A2
section
variable {X : Tab} {e e' : Env X}

/-- Two environments say the same of some slots. -/
def Agree (A : List Nat) (e e' : Env X) : Prop := ∀ s ∈ A, e' s = e s
theorem Agree.sub {A B : List Nat} (h : Agree A e e') (hs : ∀ s ∈ B, s ∈ A) : Agree B e e' := fun s hb => h s (hs s hb)
theorem Agree.upd {A : List Nat} (h : Agree A e e') (s : Nat) (v : AV X) : Agree A (upd e s v) (upd e' s v) := fun t ht => by
  unfold Go.A2.upd; split
  · rfl
  · exact h t ht
theorem Agree.applyU {A : List Nat} : ∀ (u : Ups X) {e e' : Env X}, Agree A e e' → Agree A (applyU e u) (applyU e' u)
  | [], _, _, h => h
  | (s, v) :: u, _, _, h => Agree.applyU u (h.upd s v)
theorem rd_agree {x : AX X} {A : List Nat} (h : Agree A e e') (hx : ∀ s ∈ slotX x, s ∈ A) : Go.A2.rd e' x = Go.A2.rd e x := by
  cases x with
  | c y => rfl
  | t s => simp only [Go.A2.rd]; rw [h s (hx s (by simp [slotX]))]
  | v s => simp only [Go.A2.rd]; rw [h s (hx s (by simp [slotX]))]
theorem cont_agree {A : List Nat} (h : Agree A e e') {s : Nat} (hs : s ∈ A) (q : List PS) (g : Nat) : cont e' s q g = cont e s q g := cont_congr (h s hs) q g
theorem setMask_agree {A : List Nat} (h : Agree A e e') {s : Nat} (hs : s ∈ A) (q : List PS) (o : Own) : setMask e' s q o = setMask e s q o := by
  unfold setMask; rw [h s hs]
theorem takeRef_agree {A : List Nat} (h : Agree A e e') {s : Nat} (hs : s ∈ A) (q : List PS) (g : Nat) : takeRef e' s q g = takeRef e s q g := by
  unfold takeRef; rw [cont_agree h hs, setMask_agree h hs]
/-- All that an operand leads to. -/
def Sees (A : List Nat) (e : Env X) (x : AX X) : Prop := ∀ s ∈ touchX e x, s ∈ A
theorem Sees.slot {A : List Nat} {x : AX X} (h : Sees A e x) : ∀ s ∈ slotX x, s ∈ A := fun s hs => h s (List.mem_append_left _ hs)
theorem Sees.root {A : List Nat} {x : AX X} (h : Sees A e x) : ∀ s ∈ rootsOf (Go.A2.rd e x), s ∈ A := fun s hs => h s (List.mem_append_right _ hs)
theorem rd_ref {s r : Nat} {q : List PS} {g : Nat} (h : e s = .ref r q g) : Go.A2.rd e (.v s) = .ref r q g ∧ Go.A2.rd e (.t s) = .ref r q g := by
  simp only [Go.A2.rd, h, and_self]
theorem take_agree {A : List Nat} (h : Agree A e e') {x : AX X} (hx : Sees A e x) : Go.A2.take e' x = Go.A2.take e x := by
  cases x with
  | c y => cases y <;> rfl
  | t s =>
    simp only [Go.A2.take]
    rw [h s (hx.slot s (by simp [slotX]))]
    cases hes : e s with
    | ref r q g => simp only []; exact takeRef_agree h (hx.root r (by rw [(rd_ref hes).2]; simp [rootsOf, rootOf])) q g
    | _ => rfl
  | v s =>
    simp only [Go.A2.take]
    rw [h s (hx.slot s (by simp [slotX]))]
    cases hes : e s with
    | ref r q g => simp only []; exact takeRef_agree h (hx.root r (by rw [(rd_ref hes).1]; simp [rootsOf, rootOf])) q g
    | _ => rfl
theorem slOf_agree {A : List Nat} (h : Agree A e e') {v : AV X} (hv : ∀ s ∈ rootsOf v, s ∈ A) : slOf e' v = slOf e v := by
  cases v with
  | ref s q g => exact cont_agree h (hv s (by simp [rootsOf, rootOf])) q g
  | val T v o => cases T <;> first | rfl | (cases o <;> rfl)
  | _ => rfl
theorem ptrTy_agree {A : List Nat} (h : Agree A e e') {b : Base} {q : List PS} (hv : ∀ s ∈ rootsOf (.ptr b q : AV X), s ∈ A) : ptrTy e' b q = ptrTy e b q := by
  cases b with
  | box s g => simp only [ptrTy]; rw [h s (hv s (by simp [rootsOf, rootOf]))]
  | elem s p g i => simp only [ptrTy]; rw [cont_agree h (hv s (by simp [rootsOf, rootOf]))]
theorem loadV_agree {A : List Nat} (h : Agree A e e') {T : X.Ty} {v : AV X} {d : Option Nat} (hv : ∀ s ∈ rootsOf v, s ∈ A) : loadV e' T v d = loadV e T v d := by
  cases v with
  | ptr b q =>
    cases b with
    | box s g => simp only [loadV]; rw [h s (hv s (by simp [rootsOf, rootOf]))]
    | elem s p g i => simp only [loadV]; rw [cont_agree h (hv s (by simp [rootsOf, rootOf]))]
  | _ => rfl
theorem storeV_agree {A : List Nat} (h : Agree A e e') {g0 : Nat} {T : X.Ty} {x : AV X} {v : X.den T} {o : Own} (hv : ∀ s ∈ rootsOf x, s ∈ A) : storeV e' g0 T x v o = storeV e g0 T x v o := by
  cases x with
  | ptr b q =>
    cases b with
    | box s g => simp only [storeV]; rw [h s (hv s (by simp [rootsOf, rootOf]))]
    | elem s p g i => simp only [storeV]; rw [cont_agree h (hv s (by simp [rootsOf, rootOf])), h s (hv s (by simp [rootsOf, rootOf]))]
  | _ => rfl
theorem grab_agree {A : List Nat} (h : Agree A e e') {x : AX X} (hx : Sees A e x) : Go.A2.grab e' x = Go.A2.grab e x := by
  have key : ∀ s, Sees A e (.v s) → Go.A2.grab e' (.v s) = Go.A2.grab e (.v s) := fun s hx => by
    simp only [Go.A2.grab]
    rw [h s (hx.slot s (by simp [slotX]))]
    cases hes : e s with
    | ref r q g =>
      have hr : r ∈ A := hx.root r (by rw [(rd_ref hes).1]; simp [rootsOf, rootOf])
      simp only []
      rw [cont_agree h hr, setMask_agree h hr]
    | val T v o => cases T <;> first | rfl | (cases o <;> rfl)
    | _ => rfl
  cases x with
  | c y => cases y <;> first | rfl | (rename_i T v o; cases T <;> first | rfl | (cases o <;> rfl))
  | t s => exact key s hx
  | v s => exact key s hx

theorem allO_congr {α β : Type} {f g : α → Option β} : ∀ {l : List α}, (∀ x ∈ l, f x = g x) → allO f l = allO g l
  | [], _ => rfl
  | x :: l, h => by
    simp only [allO]
    rw [h x (by simp), allO_congr fun y hy => h y (by simp [hy])]
theorem mem_rootsL {l : List (AV X)} {x : AV X} (hx : x ∈ l) : ∀ s ∈ rootOf x, s ∈ rootsL l := by
  induction l with
  | nil => cases hx
  | cons y l ih =>
    intro s hs
    simp only [rootsL]
    rcases List.mem_cons.1 hx with rfl | hx
    · exact List.mem_append_left _ hs
    · exact List.mem_append_right _ (ih hx s hs)
theorem capArg_agree {A : List Nat} (h : Agree A e e') {v : AV X} (hv : ∀ s ∈ rootOf v, s ∈ A) : capArg e' v = capArg e v := by
  cases v with
  | ptr b q =>
    cases b with
    | box s g => simp only [capArg]; rw [h s (hv s (by simp [rootOf]))]
    | elem s p g i => rfl
  | _ => rfl
theorem argV_agree {A : List Nat} (h : Agree A e e') {v : AV X} (hv : ∀ s ∈ rootsOf v, s ∈ A) : argV e' v = argV e v := by
  cases v with
  | ref s q g => simp only [argV]; rw [cont_agree h (hv s (by simp [rootsOf, rootOf]))]
  | ptr b q =>
    cases b with
    | box s g =>
      cases q with
      | nil => simp only [argV]; rw [h s (hv s (by simp [rootsOf, rootOf]))]
      | cons => rfl
    | elem s p g i => rfl
  | fn f as bs =>
    simp only [argV]
    have hr : ∀ s, s ∈ rootsL as ++ rootsL bs → s ∈ A := fun s hs => hv s hs
    rw [allO_congr (f := capArg e') (g := capArg e) (l := as) fun x hx => capArg_agree h fun s hs => hr s (List.mem_append_left _ (mem_rootsL hx s hs)),
      allO_congr (f := capArg e') (g := capArg e) (l := bs) fun x hx => capArg_agree h fun s hs => hr s (List.mem_append_right _ (mem_rootsL hx s hs))]
  | _ => rfl
theorem argOf_agree {A : List Nat} (h : Agree A e e') {x : AX X} (hx : Sees A e x) : argOf e' x = argOf e x := by
  unfold argOf
  rw [rd_agree h hx.slot]
  exact argV_agree h hx.root
/-- What taking turns: a slot is emptied, or its mask is set. -/
def Soft (e e1 : Env X) : Prop := ∀ s, e1 s = e s ∨ e1 s = .undef ∨ ∃ m, e1 s = withMask (e s) m ∧ (slotC (e s)).isSome = true
theorem soft_one {s : Nat} {v : AV X} (h : v = .undef ∨ ∃ m, v = withMask (e s) m ∧ (slotC (e s)).isSome = true) : Soft e (applyU e [(s, v)]) := fun t => by
  show Go.A2.upd e s v t = e t ∨ _
  by_cases ht : t = s
  · subst ht
    rcases h with rfl | ⟨m, rfl, hm⟩
    · exact .inr (.inl (upd_same e t _))
    · exact .inr (.inr ⟨m, upd_same e t _, hm⟩)
  · exact .inl (upd_ne e v ht)
theorem take_soft {x : AX X} {T : X.Ty} {v : X.den T} {o : Own} {u : Ups X} (h : Go.A2.take e x = some ⟨T, v, o, u⟩) : Soft e (applyU e u) := by
  have ref : ∀ {r q g}, takeRef e r q g = some ⟨T, v, o, u⟩ → Soft e (applyU e u) := fun {r q g} h => by
    unfold takeRef at h
    split at h
    · rename_i hc hm
      cases h
      obtain ⟨T, v, o0, m, k1, k2, rfl⟩ := setMask_some hm
      exact soft_one (.inr ⟨m, rfl, by rw [k1]; rfl⟩)
    · cases h
  cases x with
  | c y =>
    cases y with
    | val T' v' o' =>
      simp only [Go.A2.take] at h
      split at h
      · cases h; exact fun s => .inl rfl
      · cases h
    | _ => simp [Go.A2.take] at h
  | t s =>
    simp only [Go.A2.take] at h
    split at h
    · rename_i T' v' o' hes
      split at h
      · cases h; exact fun s => .inl rfl
      · cases h; exact soft_one (.inl rfl)
    · exact ref h
    · cases h
  | v s =>
    simp only [Go.A2.take] at h
    split at h
    · rename_i T' v' o' hes
      split at h
      · cases h; exact fun s => .inl rfl
      · split at h
        · cases h; exact soft_one (.inr ⟨.no, by rw [hes]; rfl, by rw [hes]; rfl⟩)
        · cases h
    · exact ref h
    · cases h
theorem Sees.soft {A : List Nat} {e1 : Env X} (hs : Soft e e1) {x : AX X} (h : Sees A e x) : Sees A e1 x := fun t ht => by
  rcases List.mem_append.1 ht with ht | ht
  · exact h.slot t ht
  · have key : ∀ s, Sees A e (.v s) → t ∈ rootsOf (Go.A2.rd e1 (.v s)) → t ∈ A := fun s h ht => by
      rcases hs s with h1 | h1 | ⟨m, h1, h2⟩
      · refine h.root t ?_
        simp only [Go.A2.rd] at ht ⊢
        rw [h1] at ht; exact ht
      · simp only [Go.A2.rd, h1] at ht; simp [rootsOf, rootOf] at ht
      · have hts : t = s := by
          cases hes : e s with
          | val T v o =>
            rw [hes] at h1
            simp only [withMask] at h1
            simp only [Go.A2.rd, h1] at ht
            cases T with
            | slice b t' => cases m <;> simp [rootsOf, rootOf] at ht <;> exact ht
            | _ => simp [rootsOf, rootOf] at ht
          | box g T v o =>
            rw [hes] at h1
            simp only [withMask] at h1
            simp only [Go.A2.rd, h1] at ht
            simpa [rootsOf, rootOf] using ht
          | _ => rw [hes] at h2; cases h2
        subst hts
        exact h.slot t (by simp [slotX])
    cases x with
    | c y => exact h.root t ht
    | t s => exact key s h ht
    | v s => exact key s h ht
theorem takeAll_agree {A : List Nat} : ∀ {l : List (Nat × AX X)} {e e' : Env X}, Agree A e e' → (∀ q ∈ l, Sees A e q.2) → Go.A2.takeAll e' l = Go.A2.takeAll e l
  | [], _, _, _, _ => rfl
  | (j, x) :: l, e, e', h, hl => by
    simp only [Go.A2.takeAll]
    rw [take_agree h (hl (j, x) (by simp))]
    cases ht : Go.A2.take e x with
    | none => rfl
    | some y =>
      obtain ⟨T, v, o, u⟩ := y
      simp only []
      rw [takeAll_agree (h.applyU u) fun q hq => (hl q (by simp [hq])).soft (take_soft ht)]
theorem freezeAll_agree {A : List Nat} : ∀ {l : List (Nat × List PS)} {e e' : Env X}, Agree A e e' → (∀ q ∈ l, q.1 ∈ A) → Go.A2.freezeAll e' l = Go.A2.freezeAll e l
  | [], _, _, _, _ => rfl
  | (s, q) :: l, e, e', h, hl => by
    simp only [Go.A2.freezeAll]
    rw [setMask_agree h (hl (s, q) (by simp))]
    cases setMask e s q .no with
    | none => rfl
    | some u => simp only []; rw [freezeAll_agree (h.applyU u) fun q hq => hl q (by simp [hq])]
theorem giveBack_agree {A : List Nat} (h : Agree A e e') {g : Nat} : ∀ {as : List (Arg X)} {os : List (AV X)}, (∀ a ∈ as, ∀ s, a.back = some s → s ∈ A) → giveBack e' g as os = giveBack e g as os
  | [], [], _ => rfl
  | [], _ :: _, _ => rfl
  | _ :: _, [], _ => rfl
  | a :: as, o :: os, ha => by
    simp only [giveBack]
    rw [giveBack_agree h fun a' ha' => ha a' (by simp [ha'])]
    cases hb : a.back with
    | none => rfl
    | some s =>
      have hs := h s (ha a (by simp) s hb)
      cases o <;> simp only [hs]

theorem allO_argOf {A : List Nat} (h : Agree A e e') {l : List (AX X)} (hl : ∀ x ∈ l, Sees A e x) : allO (argOf e') l = allO (argOf e) l := allO_congr fun x hx => argOf_agree h (hl x hx)
theorem callArgs_agree {A : List Nat} (h : Agree A e e') {op : AOp X} (hop : ∀ x ∈ op.xs, Sees A e x) : callArgs e' op = callArgs e op := by
  cases op with
  | call f args => simp only [callArgs]; rw [allO_argOf (l := args) h hop]
  | callv x args =>
    have hx := hop x (by simp [AOp.xs])
    simp only [callArgs]
    rw [rd_agree h hx.slot]
    cases hr : Go.A2.rd e x with
    | fn f first caps =>
      simp only []
      have hroot : ∀ s, s ∈ rootsL first ++ rootsL caps → s ∈ A := fun s hs => hx.root s (by rw [hr]; exact hs)
      rw [allO_argOf h fun y hy => hop y (by simp [AOp.xs, hy]), allO_congr (f := capArg e') (g := capArg e) (l := first) fun y hy => capArg_agree h fun s hs => hroot s (List.mem_append_left _ (mem_rootsL hy s hs)),
        allO_congr (f := capArg e') (g := capArg e) (l := caps) fun y hy => capArg_agree h fun s hs => hroot s (List.mem_append_right _ (mem_rootsL hy s hs))]
    | _ => rfl
  | _ => rfl
/-- What an argument leads to, the caller's operand leads to. -/
theorem argV_roots {v : AV X} {a : Arg X} (h : argV e v = some a) : (∀ s, a.back = some s → s ∈ rootsOf v) ∧ ∀ r ∈ a.roots, r.1 ∈ rootsOf v := by
  cases v with
  | ref s q g =>
    simp only [argV] at h
    split at h
    · cases h; exact ⟨by simp, by simp [rootsOf, rootOf]⟩
    · cases h
  | ptr b q =>
    cases b with
    | box s g =>
      cases q with
      | nil =>
        simp only [argV] at h
        split at h
        · split at h
          · cases h; exact ⟨by simp [rootsOf, rootOf], by simp⟩
          · cases h
        · cases h
      | cons => simp [argV] at h
    | elem s p g i => simp [argV] at h
  | val T v o =>
    simp only [argV] at h
    split at h
    · cases h; exact ⟨by simp, by simp⟩
    · cases h
  | rptr T v => simp only [argV, Option.some.injEq] at h; subst h; exact ⟨by simp, by simp⟩
  | fn f as bs =>
    simp only [argV] at h
    split at h
    · cases h; exact ⟨by simp, by simp⟩
    · cases h
  | _ => simp [argV] at h
theorem capArg_roots {v : AV X} {a : Arg X} (h : capArg e v = some a) : a.back = none ∧ a.roots = [] := by
  cases v with
  | ptr b q =>
    cases b with
    | box s g =>
      simp only [capArg] at h
      split at h
      · split at h
        · split at h
          · cases h; exact ⟨rfl, rfl⟩
          · cases h
        · cases h
      · cases h
    | elem s p g i => simp [capArg] at h
  | val T v o =>
    simp only [capArg] at h
    split at h
    · cases h; exact ⟨rfl, rfl⟩
    · cases h
  | rptr T v => simp only [capArg, Option.some.injEq] at h; subst h; exact ⟨rfl, rfl⟩
  | _ => simp [capArg] at h
theorem afterCall_agree {A : List Nat} (h : Agree A e e') {g : Nat} {as : List (Arg X)} (ha : ∀ a ∈ as, (∀ s, a.back = some s → s ∈ A) ∧ ∀ r ∈ a.roots, r.1 ∈ A) {d : Option Nat} {r : Ret X} : afterCall e' g as d r = afterCall e g as d r := by
  unfold afterCall
  simp only []
  rw [giveBack_agree h fun a hm => (ha a hm).1, freezeAll_agree (l := as.flatMap (·.roots)) h fun q hq => by
    obtain ⟨a, hm, hq⟩ := List.mem_flatMap.1 hq
    exact (ha a hm).2 q hq]

theorem oNat_agree {A : List Nat} (h : Agree A e e') {x : Option (AX X)} (hx : ∀ y, x = some y → Sees A e y) : oNat e' x = oNat e x := by
  cases x with
  | none => rfl
  | some y => simp only [oNat]; rw [rd_agree h (hx y rfl).slot]
theorem callArgs_roots {A : List Nat} {op : AOp X} (hop : ∀ x ∈ op.xs, Sees A e x) {f : Nat} {as : List (Arg X)} (h : callArgs e op = some (f, as)) : ∀ a ∈ as, (∀ s, a.back = some s → s ∈ A) ∧ ∀ r ∈ a.roots, r.1 ∈ A := by
  have args : ∀ {l : List (AX X)} {as : List (Arg X)}, (∀ x ∈ l, Sees A e x) → allO (argOf e) l = some as → ∀ a ∈ as, (∀ s, a.back = some s → s ∈ A) ∧ ∀ r ∈ a.roots, r.1 ∈ A := fun {l as} hl h a ha => by
    obtain ⟨i, hi, rfl⟩ := List.mem_iff_getElem.1 ha
    obtain ⟨x, hx, hax⟩ := allO_get' h (List.getElem?_eq_getElem hi)
    have hs := hl x (List.mem_of_getElem? hx)
    obtain ⟨h1, h2⟩ := argV_roots hax
    exact ⟨fun s h => hs.root s (h1 s h), fun r h => hs.root r.1 (h2 r h)⟩
  have caps : ∀ {l : List (AV X)} {as : List (Arg X)}, allO (capArg e) l = some as → ∀ a ∈ as, (∀ s, a.back = some s → s ∈ A) ∧ ∀ r ∈ a.roots, r.1 ∈ A := fun {l as} h a ha => by
    obtain ⟨i, hi, rfl⟩ := List.mem_iff_getElem.1 ha
    obtain ⟨x, hx, hax⟩ := allO_get' h (List.getElem?_eq_getElem hi)
    obtain ⟨h1, h2⟩ := capArg_roots hax
    rw [h1, h2]; simp
  cases op with
  | call f' l =>
    simp only [callArgs] at h
    split at h
    · rename_i as' h1
      simp only [Option.some.injEq, Prod.mk.injEq] at h
      obtain ⟨_, rfl⟩ := h
      exact args hop h1
    · cases h
  | callv x l =>
    simp only [callArgs] at h
    split at h
    · split at h
      · rename_i as' fs cs h1 h2 h3
        simp only [Option.some.injEq, Prod.mk.injEq] at h
        obtain ⟨_, rfl⟩ := h
        intro a ha
        rcases List.mem_append.1 ha with ha | ha
        · rcases List.mem_append.1 ha with ha | ha
          · exact caps h2 a ha
          · exact args (fun y hy => hop y (by simp [AOp.xs, hy])) h1 a ha
        · exact caps h3 a ha
      · cases h
    · cases h
  | _ => simp [callArgs] at h

/-- An operation does the same where what it looks at is the same. -/
theorem eff_agree {A : List Nat} (h : Agree A e e') {ans : Ret X} {g : Nat} {d : Option Nat} {op : AOp X} (hop : ∀ x ∈ op.xs, Sees A e x) : eff ans g e' d op = eff ans g e d op := by
  have rdx : ∀ x ∈ op.xs, Go.A2.rd e' x = Go.A2.rd e x := fun x hx => rd_agree h (hop x hx).slot
  have call : ∀ op, (∀ x ∈ op.xs, Sees A e x) → (match callArgs e' op with | some (_, as) => afterCall e' g as d ans | none => none) = (match callArgs e op with | some (_, as) => afterCall e g as d ans | none => none) := fun op hop => by
    rw [callArgs_agree h hop]
    cases hc : callArgs e op with
    | none => rfl
    | some q => obtain ⟨f, as⟩ := q; exact afterCall_agree h (callArgs_roots hop hc)
  cases op with
  | move x =>
    have hx := hop x (by simp [AOp.xs])
    have hr := rdx x (by simp [AOp.xs])
    cases x with
    | c y => rfl
    | t s => simp only [eff]; rw [h s (hx.slot s (by simp [slotX])), hr]
    | v s => simp only [eff]; rw [h s (hx.slot s (by simp [slotX])), hr]
  | pick c a b => simp only [eff]; rw [rdx c (by simp [AOp.xs]), rdx a (by simp [AOp.xs]), rdx b (by simp [AOp.xs])]
  | alloc T => rfl
  | box T x => simp only [eff]; rw [take_agree h (hop x (by simp [AOp.xs]))]
  | load T x => simp only [eff]; rw [rdx x (by simp [AOp.xs])]; exact loadV_agree h (hop x (by simp [AOp.xs])).root
  | store T x v =>
    simp only [eff]
    rw [take_agree h (hop v (by simp [AOp.xs]))]
    cases ht : Go.A2.take e v with
    | none => rfl
    | some y =>
      obtain ⟨T', v', o, u⟩ := y
      simp only []
      have hx := (hop x (by simp [AOp.xs])).soft (take_soft ht)
      rw [rd_agree (h.applyU u) hx.slot]
      cases castT v' T with
      | none => rfl
      | some v2 => simp only []; rw [storeV_agree (h.applyU u) hx.root]
  | fld i j x =>
    simp only [eff]; rw [rdx x (by simp [AOp.xs])]
    cases hr : Go.A2.rd e x with
    | ptr b q => simp only []; rw [ptrTy_agree h (by rw [← hr]; exact (hop x (by simp [AOp.xs])).root)]
    | _ => rfl
  | nilCheck x =>
    simp only [eff]; rw [rdx x (by simp [AOp.xs])]
    cases hr : Go.A2.rd e x with
    | ptr b q => simp only []; rw [ptrTy_agree h (by rw [← hr]; exact (hop x (by simp [AOp.xs])).root)]
    | _ => rfl
  | extract x i =>
    have hx := hop x (by simp [AOp.xs])
    cases x with
    | t s => simp only [eff]; rw [h s (hx.slot s (by simp [slotX]))]
    | _ => rfl
  | call f args => simp only [eff]; exact call _ hop
  | callv x args => simp only [eff]; exact call _ hop
  | len b x => cases b <;> simp only [eff] <;> rw [rdx x (by simp [AOp.xs])]; rw [slOf_agree h (hop x (by simp [AOp.xs])).root]
  | bad => rfl
  | isNil n x => rfl
  | idxA n t x i =>
    simp only [eff]; rw [rdx x (by simp [AOp.xs]), rdx i (by simp [AOp.xs])]
    have hroot := (hop x (by simp [AOp.xs])).root
    generalize Go.A2.rd e x = y at hroot
    generalize Go.A2.rd e i = z
    cases y with
    | ptr b q =>
      cases z with
      | val T v o =>
        cases T with
        | int k => exact congrArg (fun z => if z = some (.arr n t) then (idx? n (v : W k)).bind fun j => some (outU d (.ptr b (q ++ [.idx j]))) else none) (ptrTy_agree h hroot)
        | _ => rfl
      | _ => rfl
    | rptr T v => cases z with
      | val T v o => cases T <;> rfl
      | _ => rfl
    | _ => rfl
  | idxS b t x i =>
    simp only [eff]; rw [rdx x (by simp [AOp.xs]), rdx i (by simp [AOp.xs])]
    have hroot := (hop x (by simp [AOp.xs])).root
    generalize Go.A2.rd e x = y at hroot
    generalize Go.A2.rd e i = z
    cases y with
    | ref s q g' =>
      cases z with
      | val T v o =>
        cases T with
        | int k =>
          have hc : cont e' s q g' = cont e s q g' := cont_agree h (hroot s (by simp [rootsOf, rootOf])) q g'
          show (match cont e' s q g' with | some ⟨b', t', l⟩ => if b = b' ∧ t = t' then (idx? l.l.length (v : W k)).bind fun j => some (outU d (.ptr (.elem s q g' j) [])) else none | none => none) = (match cont e s q g' with | some ⟨b', t', l⟩ => if b = b' ∧ t = t' then (idx? l.l.length (v : W k)).bind fun j => some (outU d (.ptr (.elem s q g' j) [])) else none | none => none)
          rw [hc]
        | _ => rfl
      | _ => rfl
    | val T v o => cases z with
      | val T v o => cases T <;> rfl
      | _ => rfl
    | _ => rfl
  | idxStr x i => simp only [eff]; rw [rdx x (by simp [AOp.xs]), rdx i (by simp [AOp.xs])]
  | part i j x => simp only [eff]; rw [rdx x (by simp [AOp.xs])]
  | idxV n t x i => simp only [eff]; rw [rdx x (by simp [AOp.xs]), rdx i (by simp [AOp.xs])]
  | bin o x y => simp only [eff]; rw [rdx x (by simp [AOp.xs]), rdx y (by simp [AOp.xs])]
  | eq T n x y => simp only [eff]; rw [rdx x (by simp [AOp.xs]), rdx y (by simp [AOp.xs])]
  | un o x => simp only [eff]; rw [rdx x (by simp [AOp.xs])]
  | conv k x => simp only [eff]; rw [rdx x (by simp [AOp.xs])]
  | build i ps => simp only [eff]; rw [takeAll_agree (l := ps) h fun q hq => hop q.2 (List.mem_map.2 ⟨q, hq, rfl⟩)]
  | buildA n t ps => simp only [eff]; rw [takeAll_agree (l := ps) h fun q hq => hop q.2 (List.mem_map.2 ⟨q, hq, rfl⟩)]
  | buildSlice b t n ps => simp only [eff]; rw [takeAll_agree (l := ps) h fun q hq => hop q.2 (List.mem_map.2 ⟨q, hq, rfl⟩)]
  | mm m args =>
    simp only [eff]
    rw [show args.map (Go.A2.rd e') = args.map (Go.A2.rd e) from List.map_congr_left fun x hx => rdx x hx]
  | append b t x y =>
    simp only [eff]
    rw [grab_agree h (hop x (by simp [AOp.xs])), rdx y (by simp [AOp.xs]), slOf_agree h (hop y (by simp [AOp.xs])).root]
  | makeSlice b t x y => simp only [eff]; rw [rdx x (by simp [AOp.xs]), rdx y (by simp [AOp.xs])]
  | slice T x lo hi mx =>
    simp only [eff]
    rw [take_agree h (hop x (by simp [AOp.xs])), oNat_agree (x := lo) h fun y hy => hop y (by subst hy; simp [AOp.xs]), oNat_agree (x := hi) h fun y hy => hop y (by subst hy; simp [AOp.xs]),
      oNat_agree (x := mx) h fun y hy => hop y (by subst hy; simp [AOp.xs])]
  | makeFunc f a b =>
    simp only [eff]
    rw [allO_congr (f := fun x => capRef (Go.A2.rd e' x)) (g := fun x => capRef (Go.A2.rd e x)) (l := a) fun x hx => by rw [rdx x (List.mem_append_left _ hx)],
      allO_congr (f := fun x => capRef (Go.A2.rd e' x)) (g := fun x => capRef (Go.A2.rd e x)) (l := b) fun x hx => by rw [rdx x (List.mem_append_right _ hx)]]
end
end Go.A2
