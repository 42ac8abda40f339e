/- YtcinobbeapgklaaA2Draw: a region that draws its order: whatever order is drawn, the machine's run in the text's order stands for it. No statement of the seat is proved here. -/
import Derived.Test.YtcinobbeapgklaaA2Fn
import Derived.Test.YtcinobbeapgklaaA2Keys2
namespace Go.A2

theorem mask_bit {acc : List Nat} : ∀ (l : List Edge) (s k : Nat), (l.foldl (fun s e => if Region.binds .any e then s ||| 2 ^ e.on ||| acc.getD e.on 0 else s) s).testBit k = true →
    s.testBit k = true ∨ ∃ e ∈ l, Region.binds .any e = true ∧ (k = e.on ∨ (acc.getD e.on 0).testBit k = true)
  | [], s, k, h => .inl h
  | e :: l, s, k, h => by
    simp only [List.foldl_cons] at h
    rcases mask_bit l _ k h with h1 | ⟨e', he, hb, hk⟩
    · split at h1
      · rename_i hb
        rw [Nat.testBit_or, Nat.testBit_or, Bool.or_eq_true, Bool.or_eq_true, Nat.testBit_two_pow] at h1
        rcases h1 with (h1 | h1) | h1
        · exact .inl h1
        · exact .inr ⟨e, by simp, hb, .inl (of_decide_eq_true h1).symm⟩
        · exact .inr ⟨e, by simp, hb, .inr h1⟩
      · exact .inl h1
    · exact .inr ⟨e', by simp [he], hb, hk⟩

/-- What the bits say. -/
def MaskOk (acc : List Nat) (pre : List Oper) : Prop := acc.length = pre.length ∧
  ∀ (i : Nat) o, pre[i]? = some o → ∀ k, (acc.getD i 0).testBit k = true → ∃ e ∈ o.after, Region.binds .any e = true ∧ (k = e.on ∨ (e.on < i ∧ (acc.getD e.on 0).testBit k = true))

theorem masksFrom_ok : ∀ (l : List Oper) (acc : List Nat) (pre : List Oper), MaskOk acc pre → MaskOk (masksFrom acc l) (pre ++ l)
  | [], acc, pre, h => by simpa [masksFrom] using h
  | o :: l, acc, pre, h => by
    have h1 : MaskOk (acc ++ [mask acc o]) (pre ++ [o]) := by
      refine ⟨by simp [h.1], fun i q hq k hk => ?_⟩
      rcases Nat.lt_trichotomy i pre.length with hi | hi | hi
      · rw [List.getElem?_append_left hi] at hq
        have hg : (acc ++ [mask acc o]).getD i 0 = acc.getD i 0 := by
          simp [List.getD_eq_getElem?_getD, List.getElem?_append, h.1, hi]
        rw [hg] at hk
        obtain ⟨e, he, hb, hkk⟩ := h.2 i q hq k hk
        refine ⟨e, he, hb, hkk.imp id fun ⟨h2, h3⟩ => ⟨h2, ?_⟩⟩
        rw [show (acc ++ [mask acc o]).getD e.on 0 = acc.getD e.on 0 by
          simp [List.getD_eq_getElem?_getD, List.getElem?_append, h.1, Nat.lt_trans h2 hi]]
        exact h3
      · subst hi
        have hqo : q = o := by simpa using hq.symm
        subst hqo
        have hg : (acc ++ [mask acc q]).getD pre.length 0 = mask acc q := by
          simp [List.getD_eq_getElem?_getD, ← h.1]
        rw [hg] at hk
        unfold mask at hk
        rcases mask_bit _ _ _ hk with h2 | ⟨e, he, hb, hkk⟩
        · simp at h2
        · refine ⟨e, by simpa using he, hb, hkk.imp id fun h2 => ?_⟩
          have hlt : e.on < pre.length := by
            rcases Nat.lt_or_ge e.on pre.length with h3 | h3
            · exact h3
            · have hlen := h.1
              rw [List.getD_eq_getElem?_getD, List.getElem?_eq_none (by omega)] at h2
              simp at h2
          refine ⟨hlt, ?_⟩
          rw [show (acc ++ [mask acc q]).getD e.on 0 = acc.getD e.on 0 by
            simp [List.getD_eq_getElem?_getD, List.getElem?_append, h.1, hlt]]
          exact h2
      · rw [List.getElem?_eq_none (by simp; omega)] at hq; cases hq
    have := masksFrom_ok l _ _ h1
    simpa [masksFrom] using this

theorem masks_ok (ops : List Oper) : MaskOk (masks ops) ops := by
  have := masksFrom_ok ops [] [] ⟨rfl, by simp⟩
  simpa [masks] using this

/-- Nothing is listed ahead of what it stands behind. -/
def Closed (ops : Array Oper) (listed : Array Bool) : Prop := ∀ (j : Nat) o, listed.getD j false = true → ops[j]? = some o → ∀ e ∈ o.after, Region.binds .any e = true → listed.getD e.on false = true

theorem closed_bits {ops : Array Oper} {listed : Array Bool} (hcl : Closed ops listed) : ∀ (i : Nat) o, ops[i]? = some o → (∀ e ∈ o.after, Region.binds .any e = true → listed.getD e.on false = true) →
    ∀ k, ((masks ops.toList).getD i 0).testBit k = true → listed.getD k false = true := by
  intro i
  induction i using Nat.strongRecOn with
  | _ i ih =>
    intro o ho hr k hk
    obtain ⟨e, he, hb, hkk⟩ := (masks_ok ops.toList).2 i o (by simpa using ho) k hk
    rcases hkk with rfl | ⟨hlt, hbit⟩
    · exact hr e he hb
    · have hle := hr e he hb
      cases hoe : ops[e.on]? with
      | none =>
        have := (masks_ok ops.toList).1
        rw [List.getD_eq_getElem?_getD, List.getElem?_eq_none (by
          rw [this]
          have := Array.getElem?_eq_none_iff.1 hoe
          simpa using this)] at hbit
        simp at hbit
      | some oe => exact ih e.on hlt oe hoe (hcl e.on oe hle hoe) k hbit

def rem (listed : Array Bool) (m : Nat) : List Nat := (List.range m).filter fun j => !listed.getD j true

theorem rem_split {listed : Array Bool} {m i : Nat} (hi : i < m) (hl : listed.getD i true = false) : ∃ p q, rem listed m = p ++ i :: q ∧ (∀ k ∈ p, k < i ∧ listed.getD k true = false) ∧ rem (listed.setIfInBounds i true) m = p ++ q := by
  have hsz : i < listed.size := by
    rcases Nat.lt_or_ge i listed.size with h | h
    · exact h
    · simp [Array.getD_eq_getD_getElem?, Array.getElem?_eq_none h] at hl
  have hset : ∀ j, (listed.setIfInBounds i true).getD j true = if j = i then true else listed.getD j true := fun j => by
    by_cases hj : j = i
    · subst hj; simp [Array.getD_eq_getD_getElem?, hsz]
    · rw [if_neg hj]; simp [Array.getD_eq_getD_getElem?, Array.getElem?_setIfInBounds_ne (Ne.symm hj)]
  have hr : List.range m = List.range i ++ i :: (List.range' (i + 1) (m - i - 1)) := by
    rw [List.range_eq_range', List.range_eq_range']
    have h1 : List.range' 0 m = List.range' 0 i ++ List.range' (0 + i) (m - i) := by
      rw [List.range'_append_1]; congr 1; omega
    rw [h1]
    congr 1
    rw [show m - i = (m - i - 1) + 1 by omega, List.range'_succ]
    simp
  refine ⟨(List.range i).filter fun j => !listed.getD j true, (List.range' (i + 1) (m - i - 1)).filter fun j => !listed.getD j true, ?_, ?_, ?_⟩
  · unfold rem
    rw [hr, List.filter_append, List.filter_cons]
    simp [hl]
  · intro k hk
    obtain ⟨h1, h2⟩ := List.mem_filter.1 hk
    exact ⟨List.mem_range.1 h1, by simpa using h2⟩
  · unfold rem
    rw [hr, List.filter_append, List.filter_cons]
    rw [hset i]
    simp only [if_true, Bool.not_true, Bool.false_eq_true, if_false]
    congr 1
    · refine List.filter_congr fun j hj => ?_
      have : j ≠ i := by have := List.mem_range.1 hj; omega
      rw [hset, if_neg this]
    · refine List.filter_congr fun j hj => ?_
      have : j ≠ i := by have := List.mem_range'_1.1 hj; omega
      rw [hset, if_neg this]

theorem getD_ft {listed : Array Bool} {j : Nat} (h : listed.getD j true = false) : listed.getD j false = false := by
  rcases Nat.lt_or_ge j listed.size with hs | hs
  · simp [Array.getD_eq_getD_getElem?, hs] at h ⊢; exact h
  · simp [Array.getD_eq_getD_getElem?, Array.getElem?_eq_none hs]

section
variable {X : Tab}
theorem applyU_off {s : Nat} : ∀ {u : Ups X} {e : Env X}, (∀ y ∈ u, y.1 ≠ s) → applyU e u s = e s
  | [], e, _ => rfl
  | (t, v) :: u, e, h => by
    simp only [applyU]
    rw [applyU_off fun y hy => h y (List.mem_cons_of_mem _ hy), upd_ne]
    exact fun hs => h (t, v) (List.mem_cons_self ..) hs.symm
/-- What an update gives at a slot hangs on what was there alone. -/
theorem applyU_at {s : Nat} : ∀ {u : Ups X} {e e' : Env X}, e s = e' s → applyU e u s = applyU e' u s
  | [], e, e', h => h
  | (t, v) :: u, e, e', h => by
    simp only [applyU]
    refine applyU_at ?_
    unfold upd; split
    · rfl
    · exact h
theorem applyU_comm {u v : Ups X} {e : Env X} (h : ∀ y ∈ u, ∀ z ∈ v, y.1 ≠ z.1) : applyU (applyU e u) v = applyU (applyU e v) u := by
  funext s
  by_cases hu : ∃ y ∈ u, y.1 = s
  · obtain ⟨y, hy, rfl⟩ := hu
    rw [applyU_off fun z hz => (h y hy z hz).symm]
    exact applyU_at (applyU_off fun z hz => (h y hy z hz).symm).symm
  · rw [applyU_off (u := u) (e := applyU e v) fun y hy hs => hu ⟨y, hy, hs⟩]
    exact applyU_at (applyU_off fun y hy hs => hu ⟨y, hy, hs⟩)
theorem disj_spec {a b : List Nat} (h : disj a b = true) : ∀ x ∈ a, ∀ y ∈ b, x ≠ y := fun x hx y hy he => by
  have := List.all_eq_true.1 (List.all_eq_true.1 h x hx) y hy
  subst he; simp at this
theorem touchX_agree {e e' : Env X} {x : AX X} (h : Agree (touchX e x) e e') : touchX e' x = touchX e x := by
  unfold touchX
  rw [rd_agree h fun s hs => List.mem_append_left _ hs]
theorem touch_agree {e e' : Env X} {o : AOpr X} (h : Agree (touch e o) e e') : touch e' o = touch e o := by
  unfold touch
  congr 1
  have : ∀ {l : List (AX X)}, (∀ x ∈ l, Agree (touchX e x) e e') → l.flatMap (touchX e') = l.flatMap (touchX e) := fun {l} hl => by
    induction l with
    | nil => rfl
    | cons x l ih =>
      simp only [List.flatMap_cons]
      rw [touchX_agree (hl x (List.mem_cons_self ..)), ih fun y hy => hl y (List.mem_cons_of_mem _ hy)]
  exact this fun x hx => h.sub fun s hs => List.mem_append_right _ (List.mem_flatMap.2 ⟨x, hx, hs⟩)
end

section
variable {P : Program} {Γ : Cx}
theorem Ran.agree {e e' : Env Γ.X} {g : Nat} {o : AOpr Γ.X} {us : Ups Γ.X} (h : Ran P e g o us) (ha : Agree (touch e o) e e') : Ran P e' g o us := by
  obtain ⟨ans, h1, h2⟩ := h
  have hs : ∀ x ∈ o.op.xs, Sees (touch e o) e x := fun x hx s hs => List.mem_append_right _ (List.mem_flatMap.2 ⟨x, hx, hs⟩)
  refine ⟨ans, by rw [eff_agree ha hs]; exact h1, ?_⟩
  rw [callArgs_agree ha hs]
  exact h2
theorem Took.agree {e e' : Env Γ.X} {g : Nat} {o : AOpr Γ.X} {us : Ups Γ.X} (h : Took P e g o us) (ha : Agree (touch e o) e e') : Took P e' g o us := by
  unfold Took at *
  cases hg : o.guard with
  | none => rw [hg] at h; exact h.agree ha
  | some q =>
    obtain ⟨s, want⟩ := q
    rw [hg] at h
    have hs := ha s (List.mem_append_left _ (by rw [hg]; simp))
    rcases h with ⟨b, ov, h1, h2⟩ | ⟨h1, h2⟩
    · exact .inl ⟨b, ov, hs.trans h1, h2.imp_left fun h => ⟨h.1, h.2.agree ha⟩⟩
    · exact .inr ⟨hs.trans h1, h2⟩
theorem Ran.key {e : Env Γ.X} {g : Nat} {o : AOpr Γ.X} {us : Ups Γ.X} (h : Ran P e g o us) : ∀ y ∈ us, y.1 ∈ keysOf e o.dst o.op := by
  obtain ⟨ans, h1, _⟩ := h
  exact eff_key h1
theorem Took.key {e : Env Γ.X} {g : Nat} {o : AOpr Γ.X} {us : Ups Γ.X} (h : Took P e g o us) : ∀ y ∈ us, y.1 ∈ keysOf e o.dst o.op := by
  unfold Took at h
  cases hg : o.guard with
  | none => rw [hg] at h; exact h.key
  | some q =>
    obtain ⟨s, want⟩ := q
    rw [hg] at h
    rcases h with ⟨b, ov, _, h2⟩ | ⟨_, rfl⟩
    · rcases h2 with ⟨_, h2⟩ | ⟨_, rfl⟩
      · exact h2.key
      · intro y hy
        exact List.mem_append_left _ (mem_outU hy)
    · intro y hy
      exact List.mem_append_left _ (mem_outU hy)

/-- The operations that are left, in the text's order: what each turns, and where. -/
def Chain (P : Program) (al : List (AOpr Γ.X)) (us : Nat → Ups Γ.X) (ft : Nat → Foot) : List Nat → Env Γ.X → Prop
  | [], _ => True
  | i :: l, e => ∃ o, al[i]? = some o ∧ Took P e (i + 1) o (us i) ∧ (∀ s ∈ touch e o, s ∈ (ft i).rs) ∧ (∀ y ∈ us i, y.1 ∈ (ft i).ws) ∧ Chain P al us ft l (applyU e (us i))
def fin (us : Nat → Ups Γ.X) : List Nat → Env Γ.X → Env Γ.X
  | [], e => e
  | i :: l, e => fin us l (applyU e (us i))
theorem Chain.congr {al : List (AOpr Γ.X)} {us us' : Nat → Ups Γ.X} {ft ft' : Nat → Foot} : ∀ {l : List Nat} {e : Env Γ.X}, (∀ i ∈ l, us' i = us i ∧ ft' i = ft i) → Chain P al us ft l e → Chain P al us' ft' l e
  | [], e, _, _ => trivial
  | i :: l, e, h, ⟨o, h1, h2, h3, h4, h5⟩ => by
    obtain ⟨g1, g2⟩ := h i (List.mem_cons_self ..)
    refine ⟨o, h1, by rw [g1]; exact h2, by rw [g2]; exact h3, by rw [g1, g2]; exact h4, ?_⟩
    rw [g1]
    exact Chain.congr (fun j hj => h j (List.mem_cons_of_mem _ hj)) h5
theorem fin_congr {us us' : Nat → Ups Γ.X} : ∀ {l : List Nat} {e : Env Γ.X}, (∀ i ∈ l, us' i = us i) → fin us' l e = fin us l e
  | [], e, _ => rfl
  | i :: l, e, h => by
    simp only [fin]
    rw [h i (List.mem_cons_self ..), fin_congr fun j hj => h j (List.mem_cons_of_mem _ hj)]

theorem drawK_chain {C : CK Γ.X} (hC : CSound P C) {al : List (AOpr Γ.X)} {ms : List Nat} {k : Env Γ.X → Option (Ret Γ.X)} {r : Ret Γ.X} : ∀ {l pre : List (AOpr Γ.X)} {fs : List Foot} {e : Env Γ.X}, al = pre ++ l → fs.length = pre.length →
    drawK C (pre.length + 1) l (ms.drop pre.length) fs e k = some r → ∃ (us : Nat → Ups Γ.X) (ft : Nat → Foot), (∀ (i : Nat) f, fs[i]? = some f → ft i = f) ∧ Chain P al us ft (List.range' pre.length l.length) e ∧
      (∀ i, pre.length ≤ i → i < al.length → ∀ j, j < i → (ms.getD i 0).testBit j = true ∨ apart (ft j) (ft i) = true) ∧ k (fin us (List.range' pre.length l.length) e) = some r
  | [], pre, fs, e, hal, hfs, h => by
    refine ⟨fun _ => [], fun i => (fs[i]?).getD ⟨[], []⟩, fun i f hf => by simp [hf], trivial, fun i hi hl => ?_, h⟩
    rw [hal] at hl; simp at hl; omega
  | o :: l, pre, fs, e, hal, hfs, h => by
    simp only [drawK] at h
    split at h
    · rename_i hap
      obtain ⟨u, h1, h2⟩ := stepK_took hC h
      rw [List.tail_drop] at h2
      obtain ⟨us, ft, k1, k2, k3, k4⟩ := drawK_chain hC (al := al) (ms := ms) (l := l) (pre := pre ++ [o]) (fs := fs ++ [⟨touch e o, keysOf e o.dst o.op⟩]) (e := applyU e u) (by rw [hal]; simp) (by simp [hfs]) (by simpa using h2)
      have hfto : ft pre.length = ⟨touch e o, keysOf e o.dst o.op⟩ := k1 pre.length _ (by simp [← hfs])
      have hon : al[pre.length]? = some o := by rw [hal]; simp
      have hlen : (pre ++ [o]).length = pre.length + 1 := by simp
      rw [hlen] at k2 k3 k4
      have hc : ∀ i ∈ List.range' (pre.length + 1) l.length, (if i = pre.length then u else us i) = us i := fun i hi => by
        have := List.mem_range'_1.1 hi
        rw [if_neg (by omega)]
      refine ⟨fun i => if i = pre.length then u else us i, ft, fun i f hf => k1 i f ?_, ?_, ?_, ?_⟩
      · rw [List.getElem?_append_left (List.getElem?_eq_some_iff.1 hf).1]; exact hf
      · rw [List.length_cons, List.range'_succ]
        refine ⟨o, hon, ?_, ?_, ?_, ?_⟩
        · simpa using h1
        · rw [hfto]; exact fun s hs => hs
        · rw [hfto]; simpa using fun a b => h1.key (a, b)
        · simp only [if_true]
          exact Chain.congr (fun i hi => ⟨hc i hi, rfl⟩) k2
      · intro i hi hl j hj
        by_cases hip : i = pre.length
        · subst hip
          obtain ⟨fj, hfj⟩ : ∃ fj, fs[j]? = some fj := ⟨_, List.getElem?_eq_getElem (by omega)⟩
          have := List.all_eq_true.1 hap (fj, j) (List.mem_zipIdx_iff_getElem?.2 hfj)
          rw [hfto, k1 j fj (by rw [List.getElem?_append_left (List.getElem?_eq_some_iff.1 hfj).1]; exact hfj)]
          have hm : (ms.drop pre.length).headD 0 = ms.getD pre.length 0 := by
            rw [List.headD_eq_head?_getD, List.head?_drop, List.getD_eq_getElem?_getD]
          rw [hm] at this
          exact Bool.or_eq_true_iff.1 this
        · exact k3 i (by omega) hl j hj
      · rw [List.length_cons, List.range'_succ]
        simp only [fin, if_true]
        rw [fin_congr hc]
        exact k4
    · cases h

/-- One that stands apart from those ahead of it goes first. -/
theorem bubble {al : List (AOpr Γ.X)} {us : Nat → Ups Γ.X} {ft : Nat → Foot} {i : Nat} (q : List Nat) : ∀ (p : List Nat) {e : Env Γ.X}, (∀ k ∈ p, apart (ft k) (ft i) = true) → Chain P al us ft (p ++ i :: q) e →
    (∃ o, al[i]? = some o ∧ Took P e (i + 1) o (us i) ∧ (∀ s ∈ touch e o, s ∈ (ft i).rs) ∧ (∀ y ∈ us i, y.1 ∈ (ft i).ws)) ∧ Chain P al us ft (p ++ q) (applyU e (us i)) ∧ fin us (p ++ q) (applyU e (us i)) = fin us (p ++ i :: q) e
  | [], e, _, ⟨o, h1, h2, h3, h4, h5⟩ => ⟨⟨o, h1, h2, h3, h4⟩, h5, rfl⟩
  | k :: p, e, ha, ⟨ok, h1, h2, h3, h4, h5⟩ => by
    obtain ⟨⟨oi, g1, g2, g3, g4⟩, g5, g6⟩ := bubble q p (fun j hj => ha j (List.mem_cons_of_mem _ hj)) h5
    have hap := ha k (List.mem_cons_self ..)
    unfold apart at hap
    rw [Bool.and_eq_true, Bool.and_eq_true] at hap
    obtain ⟨⟨a1, a2⟩, a3⟩ := hap
    have b1 : Agree (touch (applyU e (us k)) oi) (applyU e (us k)) e := fun s hs => (applyU_off fun y hy => disj_spec a1 _ (h4 y hy) _ (g3 s hs)).symm
    have b2 : Agree (touch e ok) e (applyU e (us i)) := fun s hs => applyU_off fun y hy => disj_spec a2 _ (g4 y hy) _ (h3 s hs)
    have hcomm : applyU (applyU e (us k)) (us i) = applyU (applyU e (us i)) (us k) := applyU_comm fun y hy z hz => disj_spec a3 _ (h4 y hy) _ (g4 z hz)
    refine ⟨⟨oi, g1, g2.agree b1, ?_, g4⟩, ⟨ok, h1, h2.agree b2, ?_, h4, ?_⟩, ?_⟩
    · rw [touch_agree b1]; exact g3
    · rw [touch_agree b2]; exact h3
    · rw [← hcomm]; exact g5
    · simp only [List.cons_append, fin]
      rw [← hcomm]; exact g6
end
end Go.A2
