/- YtcinobbeapgklaaAmDraw4: a region that draws its order. No statement of the seat is proved here. -/
import Derived.Test.YtcinobbeapgklaaAmDraw3
import Derived.Orders
namespace Go.AM
open Go.RowKit (Below)

theorem mask_bit {acc : List Nat} : ∀ (l : List Edge) (s k : Nat), (l.foldl (fun s e => if Region.binds .any e then s ||| 2 ^ e.on ||| acc.getD e.on 0 else s) s).testBit k = true →
    s.testBit k = true ∨ ∃ e ∈ l, Region.binds .any e = true ∧ (k = e.on ∨ (acc.getD e.on 0).testBit k = true)
  | [], s, k, h => .inl h
  | e :: l, s, k, h => by
    simp only [List.foldl_cons] at h
    rcases mask_bit l _ k h with h1 | ⟨e', he, hb, hk⟩
    · split at h1
      · rename_i hb
        rw [Nat.testBit_or, Nat.testBit_or, Bool.or_eq_true, Bool.or_eq_true, Nat.testBit_two_pow] at h1
        rcases h1 with (h1 | h1) | h1
        · exact .inl h1
        · exact .inr ⟨e, by simp, hb, .inl (of_decide_eq_true h1).symm⟩
        · exact .inr ⟨e, by simp, hb, .inr h1⟩
      · exact .inl h1
    · exact .inr ⟨e', by simp [he], hb, hk⟩

/-- What the bits say. -/
def MaskOk (acc : List Nat) (pre : List Oper) : Prop := acc.length = pre.length ∧
  ∀ (i : Nat) o, pre[i]? = some o → ∀ k, (acc.getD i 0).testBit k = true → ∃ e ∈ o.after, Region.binds .any e = true ∧ (k = e.on ∨ (e.on < i ∧ (acc.getD e.on 0).testBit k = true))

theorem masksFrom_ok : ∀ (l : List Oper) (acc : List Nat) (pre : List Oper), MaskOk acc pre → MaskOk (masksFrom acc l) (pre ++ l)
  | [], acc, pre, h => by simpa [masksFrom] using h
  | o :: l, acc, pre, h => by
    have h1 : MaskOk (acc ++ [mask acc o]) (pre ++ [o]) := by
      refine ⟨by simp [h.1], fun i q hq k hk => ?_⟩
      rcases Nat.lt_trichotomy i pre.length with hi | hi | hi
      · rw [List.getElem?_append_left hi] at hq
        have hg : (acc ++ [mask acc o]).getD i 0 = acc.getD i 0 := by
          simp [List.getD_eq_getElem?_getD, List.getElem?_append, h.1, hi]
        rw [hg] at hk
        obtain ⟨e, he, hb, hkk⟩ := h.2 i q hq k hk
        refine ⟨e, he, hb, hkk.imp id fun ⟨h2, h3⟩ => ⟨h2, ?_⟩⟩
        rw [show (acc ++ [mask acc o]).getD e.on 0 = acc.getD e.on 0 by
          simp [List.getD_eq_getElem?_getD, List.getElem?_append, h.1, Nat.lt_trans h2 hi]]
        exact h3
      · subst hi
        have hqo : q = o := by simpa using hq.symm
        subst hqo
        have hg : (acc ++ [mask acc q]).getD pre.length 0 = mask acc q := by
          simp [List.getD_eq_getElem?_getD, ← h.1]
        rw [hg] at hk
        unfold mask at hk
        rcases mask_bit _ _ _ hk with h2 | ⟨e, he, hb, hkk⟩
        · simp at h2
        · refine ⟨e, by simpa using he, hb, hkk.imp id fun h2 => ?_⟩
          have hlt : e.on < pre.length := by
            rcases Nat.lt_or_ge e.on pre.length with h3 | h3
            · exact h3
            · have hlen := h.1
              rw [List.getD_eq_getElem?_getD, List.getElem?_eq_none (by omega)] at h2
              simp at h2
          refine ⟨hlt, ?_⟩
          rw [show (acc ++ [mask acc q]).getD e.on 0 = acc.getD e.on 0 by
            simp [List.getD_eq_getElem?_getD, List.getElem?_append, h.1, hlt]]
          exact h2
      · rw [List.getElem?_eq_none (by simp; omega)] at hq; cases hq
    have := masksFrom_ok l _ _ h1
    simpa [masksFrom] using this

theorem masks_ok (ops : List Oper) : MaskOk (masks ops) ops := by
  have := masksFrom_ok ops [] [] ⟨rfl, by simp⟩
  simpa [masks] using this

/-- Nothing is listed ahead of what it stands behind. -/
def Closed (ops : Array Oper) (listed : Array Bool) : Prop := ∀ (j : Nat) o, listed.getD j false = true → ops[j]? = some o → ∀ e ∈ o.after, Region.binds .any e = true → listed.getD e.on false = true

theorem closed_bits {ops : Array Oper} {listed : Array Bool} (hcl : Closed ops listed) : ∀ (i : Nat) o, ops[i]? = some o → (∀ e ∈ o.after, Region.binds .any e = true → listed.getD e.on false = true) →
    ∀ k, ((masks ops.toList).getD i 0).testBit k = true → listed.getD k false = true := by
  intro i
  induction i using Nat.strongRecOn with
  | _ i ih =>
    intro o ho hr k hk
    obtain ⟨e, he, hb, hkk⟩ := (masks_ok ops.toList).2 i o (by simpa using ho) k hk
    rcases hkk with rfl | ⟨hlt, hbit⟩
    · exact hr e he hb
    · have hle := hr e he hb
      cases hoe : ops[e.on]? with
      | none =>
        have := (masks_ok ops.toList).1
        rw [List.getD_eq_getElem?_getD, List.getElem?_eq_none (by
          rw [this]
          have := Array.getElem?_eq_none_iff.1 hoe
          simpa using this)] at hbit
        simp at hbit
      | some oe => exact ih e.on hlt oe hoe (hcl e.on oe hle hoe) k hbit

section
variable {P : Program} {K : List Nat} {F0 : Nat → Prop} {B n : Nat} {w0 : World} {e : Env} {a : Act} {w : World} {C : Nat → List AV → Option AV}

theorem Sim.rt (h : Sim K F0 B n w0 e a w) : Rt K e := by
  obtain ⟨F, S, h⟩ := h
  intro s r hr
  have hs := h.rep s
  refine ⟨hs.isOwner_root hr, ?_⟩
  generalize a.tmps.getD s Go.undef = v at hs
  generalize S s = T at hs
  generalize e s = x at hs hr
  cases hs with
  | val h => rw [TRep_refRoot h] at hr; cases hr
  | box => simp [refRoot] at hr
  | ref s' c v h1 h2 h3 hK => simp [refRoot] at hr; subst hr; exact hK
  | ptr s' c row off rows r' b h1 h2 h3 hK => simp [refRoot] at hr; subst hr; exact hK

theorem wp_exists {o : Oper} {next : Act → World → Prop} (h : o.wp P a w next fun _ _ _ => False) : ∃ a' w', next a' w' := by
  unfold Oper.wp at h
  cases hr : (execOp a.eval o).run P w with
  | halt x w' => rw [hr] at h; cases x <;> simp [Oper.upon] at h
  | ok nx w' =>
    rw [hr] at h
    cases nx <;> simp only [Oper.upon] at h
    · exact ⟨_, _, h⟩
    · exact ⟨_, _, h⟩
    · obtain ⟨en, w'', fr, hR, _⟩ := h []
      cases en with
      | returned v => exact ⟨_, _, hR⟩
      | panicked c => exact hR.elim
      | outgrown => obtain ⟨_, _, hf⟩ := hR; exact hf.elim
    · exact ⟨_, _, h⟩
    · obtain ⟨v, w'', hR, _⟩ := h default []
      exact ⟨_, _, hR⟩

/-- What the abstract machine comes to, the model can come to. -/
theorem Sim.next (hC : Sound P C) (h : Sim K F0 B n w0 e a w) {ops : Array Oper} {solo : Bool} {o : Oper} {ao : AOpr} (hco : compOper P K n ops solo o = some ao) {e' : Env} (hs : Go.AM.step C e ao = some e') :
    ∃ a' w', Sim K F0 B n w0 e' a' w' := by
  have := h.step hC hco hs (next := fun a' w' => Sim K F0 B n w0 e' a' w') (Q := fun _ _ _ => False) fun _ _ h => h
  split at this
  · exact wp_exists this
  · exact ⟨_, _, this⟩

def runIdx (C : Nat → List AV → Option AV) (al : List AOpr) : List Nat → Env → Option Env
  | [], e => some e
  | i :: l, e => match al[i]? with
    | some o => match step C e o with
      | some e1 => runIdx C al l e1
      | none => none
    | none => none

theorem runIdx_range (C : Nat → List AV → Option AV) (al : List AOpr) : ∀ (l pre : List AOpr) (e : Env), al = pre ++ l → runIdx C al (List.range' pre.length l.length) e = runOps C l e
  | [], pre, e, _ => rfl
  | o :: l, pre, e, h => by
    have ho : al[pre.length]? = some o := by rw [h]; simp
    simp only [List.length_cons, List.range'_succ, runIdx, ho, runOps]
    cases step C e o with
    | none => rfl
    | some e1 =>
      have := runIdx_range C al l (pre ++ [o]) e1 (by rw [h]; simp)
      simpa using this

/-- One that stands in no order with those ahead of it goes first. -/
theorem bubble (hC : Sound P C) {ops : Array Oper} {al : List AOpr} (hal : ∀ (j : Nat) o, al[j]? = some o → ∃ oo solo, compOper P K n ops solo oo = some o) (hK : ∀ (j : Nat) o, al[j]? = some o → o.op.xs.all (okX K) = true) {i : Nat} {oi : AOpr} (hi : al[i]? = some oi) (q : List Nat) {e' : Env} :
    ∀ (p : List Nat) {e : Env} {a : Act} {w : World}, Sim K F0 B n w0 e a w → (∀ k ∈ p, ∃ ok, al[k]? = some ok ∧ indep ok oi = true) → runIdx C al (p ++ i :: q) e = some e' →
    ∃ e1, step C e oi = some e1 ∧ runIdx C al (p ++ q) e1 = some e'
  | [], e, a, w, h, _, hr => by
    simp only [List.nil_append, runIdx, hi] at hr
    cases hs : step C e oi with
    | none => rw [hs] at hr; cases hr
    | some e1 => rw [hs] at hr; exact ⟨e1, rfl, hr⟩
  | k :: p, e, a, w, h, hind, hr => by
    obtain ⟨ok, hok, hin⟩ := hind k (by simp)
    simp only [List.cons_append, runIdx, hok] at hr
    cases hs : step C e ok with
    | none => rw [hs] at hr; cases hr
    | some ek =>
      rw [hs] at hr
      obtain ⟨oo, solo, hco⟩ := hal k ok hok
      obtain ⟨a', w', h'⟩ := h.next hC hco hs
      obtain ⟨e1', h1, h2⟩ := bubble hC hal hK hi q p h' (fun j hj => hind j (by simp [hj])) hr
      obtain ⟨e1, h3, h4⟩ := commute hin (hK k ok hok) (hK i oi hi) h.rt hs h1
      refine ⟨e1, h3, ?_⟩
      simp only [List.cons_append, runIdx, hok, h4]
      exact h2

def rem (listed : Array Bool) (m : Nat) : List Nat := (List.range m).filter fun j => !listed.getD j true

theorem rem_split {listed : Array Bool} {m i : Nat} (hi : i < m) (hl : listed.getD i true = false) : ∃ p q, rem listed m = p ++ i :: q ∧ (∀ k ∈ p, k < i ∧ listed.getD k true = false) ∧ rem (listed.setIfInBounds i true) m = p ++ q := by
  have hsz : i < listed.size := by
    rcases Nat.lt_or_ge i listed.size with h | h
    · exact h
    · simp [Array.getD_eq_getD_getElem?, Array.getElem?_eq_none h] at hl
  have hset : ∀ j, (listed.setIfInBounds i true).getD j true = if j = i then true else listed.getD j true := fun j => by
    by_cases hj : j = i
    · subst hj; simp [Array.getD_eq_getD_getElem?, hsz]
    · rw [if_neg hj]; simp [Array.getD_eq_getD_getElem?, Array.getElem?_setIfInBounds_ne (Ne.symm hj)]
  have hr : List.range m = List.range i ++ i :: (List.range' (i + 1) (m - i - 1)) := by
    rw [List.range_eq_range', List.range_eq_range']
    have h1 : List.range' 0 m = List.range' 0 i ++ List.range' (0 + i) (m - i) := by
      rw [List.range'_append_1]; congr 1; omega
    rw [h1]
    congr 1
    rw [show m - i = (m - i - 1) + 1 by omega, List.range'_succ]
    simp
  refine ⟨(List.range i).filter fun j => !listed.getD j true, (List.range' (i + 1) (m - i - 1)).filter fun j => !listed.getD j true, ?_, ?_, ?_⟩
  · unfold rem
    rw [hr, List.filter_append, List.filter_cons]
    simp [hl]
  · intro k hk
    obtain ⟨h1, h2⟩ := List.mem_filter.1 hk
    exact ⟨List.mem_range.1 h1, by simpa using h2⟩
  · unfold rem
    rw [hr, List.filter_append, List.filter_cons]
    rw [hset i]
    simp only [if_true, Bool.not_true, Bool.false_eq_true, if_false]
    congr 1
    · refine List.filter_congr fun j hj => ?_
      have : j ≠ i := by have := List.mem_range.1 hj; omega
      rw [hset, if_neg this]
    · refine List.filter_congr fun j hj => ?_
      have : j ≠ i := by have := List.mem_range'_1.1 hj; omega
      rw [hset, if_neg this]

theorem getD_ft {listed : Array Bool} {j : Nat} (h : listed.getD j true = false) : listed.getD j false = false := by
  rcases Nat.lt_or_ge j listed.size with hs | hs
  · simp [Array.getD_eq_getD_getElem?, hs] at h ⊢; exact h
  · simp [Array.getD_eq_getD_getElem?, Array.getElem?_eq_none hs]

/-- Whatever order is drawn. -/
theorem Sim.any (hC : Sound P C) {ops : Array Oper} {al : List AOpr} (hlen : al.length = ops.size) (hal : ∀ (j : Nat) o, al[j]? = some o → ∃ oo solo, ops[j]? = some oo ∧ compOper P K n ops solo oo = some o) (hok : drawOk K ops al = true) {Q : Exit → Act → World → Prop} {e' : Env} :
    ∀ (fuel : Nat) (listed : Array Bool) {e : Env} {a : Act} {w : World}, listed.size = ops.size → (rem listed ops.size).length = fuel → Closed ops listed → Sim K F0 B n w0 e a w → runIdx C al (rem listed ops.size) e = some e' →
    (∀ a' w', Sim K F0 B n w0 e' a' w' → Q .normal a' w') → wpAny P .any ops Q fuel listed a w := by
  have hok' : (∀ (j : Nat) o, al[j]? = some o → o.op.xs.all (okX K) = true) ∧ (∀ (j : Nat) o, ops[j]? = some o → ∀ e ∈ o.after, Region.binds .any e = true → e.on < j) ∧
      (∀ (i : Nat) oi, al[i]? = some oi → ∀ k, k < i → ((masks ops.toList).getD i 0).testBit k = true ∨ ∃ ok, al[k]? = some ok ∧ indep ok oi = true) := by
    unfold drawOk at hok
    simp only [Bool.and_eq_true] at hok
    obtain ⟨⟨h1, h2⟩, h3⟩ := hok
    refine ⟨fun j o hj => List.all_eq_true.1 h1 o (List.mem_of_getElem? hj), fun j o hj ed he hb => ?_, fun i oi hi k hk => ?_⟩
    · have := List.all_eq_true.1 h2 (o, j) (by
        rw [List.mem_zipIdx_iff_getElem?]; simpa using hj)
      have := Array.all_eq_true_iff_forall_mem.1 this ed he
      simpa [hb] using this
    · have := List.all_eq_true.1 h3 (oi, i) (by rw [List.mem_zipIdx_iff_getElem?]; simpa using hi)
      have := List.all_eq_true.1 this k (List.mem_range.2 hk)
      rcases Bool.or_eq_true_iff.1 this with h | h
      · exact .inl h
      · right
        cases hak : al[k]? with
        | none => simp [hak] at h
        | some ok => simp [hak] at h; exact ⟨ok, rfl, h⟩
  obtain ⟨hK, hback, hpair⟩ := hok'
  have hal' : ∀ (j : Nat) o, al[j]? = some o → ∃ oo solo, compOper P K n ops solo oo = some o := fun j o hj => let ⟨oo, solo, _, h⟩ := hal j o hj; ⟨oo, solo, h⟩
  intro fuel
  induction fuel with
  | zero =>
    intro listed e a w hsz hrem hcl h hr hQ
    have hnil : rem listed ops.size = [] := List.eq_nil_of_length_eq_zero hrem
    rw [hnil] at hr
    simp only [runIdx, Option.some.injEq] at hr; subst hr
    refine ⟨?_, hQ _ _ h⟩
    cases hrd : Region.ready .any ops listed with
    | nil => rfl
    | cons j l =>
      have hj := mem_ready.1 (show j ∈ Region.ready .any ops listed by rw [hrd]; simp)
      obtain ⟨h1, o, ho, _⟩ := hj
      have : j ∈ rem listed ops.size := List.mem_filter.2 ⟨List.mem_range.2 (Array.getElem?_eq_some_iff.1 ho).1, by rw [h1]; rfl⟩
      rw [hnil] at this; cases this
  | succ fuel ih =>
    intro listed e a w hsz hrem hcl h hr hQ
    have ready_of : ∀ i, i ∈ Region.ready .any ops listed → i < ops.size ∧ listed.getD i true = false ∧ ∃ o, ops[i]? = some o ∧ ∀ ed ∈ o.after, Region.binds .any ed = true → listed.getD ed.on false = true := fun i hi => by
      obtain ⟨h1, o, ho, h2⟩ := mem_ready.1 hi
      exact ⟨(Array.getElem?_eq_some_iff.1 ho).1, h1, o, ho, h2⟩
    refine ⟨fun hnil => ?_, fun i hi => ?_⟩
    · -- the least that is not listed is ready
      exfalso
      cases hrm : rem listed ops.size with
      | nil => rw [hrm] at hrem; cases hrem
      | cons j l =>
        have hj : j ∈ rem listed ops.size := by rw [hrm]; simp
        obtain ⟨hj1, hj2⟩ := List.mem_filter.1 hj
        have hjl : listed.getD j true = false := by simpa using hj2
        have hjs := List.mem_range.1 hj1
        have least : ∀ k, k < j → listed.getD k false = true := fun k hk => by
          obtain ⟨p, q, h1, h2, _⟩ := rem_split hjs hjl
          cases hp : p with
          | nil =>
            cases hkl : listed.getD k false with
            | true => rfl
            | false =>
              exfalso
              have hk' : listed.getD k true = false := by
                have : k < listed.size := by omega
                simp [Array.getD_eq_getD_getElem?, this] at hkl ⊢; exact hkl
              have : k ∈ rem listed ops.size := List.mem_filter.2 ⟨List.mem_range.2 (by omega), by rw [hk']; rfl⟩
              rw [h1, hp] at this
              have hpw : (rem listed ops.size).Pairwise (· < ·) := List.Pairwise.filter _ (List.pairwise_lt_range)
              rw [h1, hp] at hpw
              simp only [List.nil_append, List.mem_cons] at this
              rcases this with h3 | h3
              · omega
              · have := (List.pairwise_cons.1 hpw).1 k h3; omega
          | cons x p' =>
            exfalso
            rw [hrm] at h1
            rw [hp] at h1 h2
            simp only [List.cons_append, List.cons.injEq] at h1
            have := (h2 x (by simp)).1
            omega
        have : j ∈ Region.ready .any ops listed := mem_ready.2 ⟨hjl, ops[j], Array.getElem?_eq_getElem hjs, fun ed he hb => least _ (hback j _ (Array.getElem?_eq_getElem hjs) ed he hb)⟩
        rw [hnil] at this; cases this
    · obtain ⟨his, hil, o, ho, hedges⟩ := ready_of i hi
      obtain ⟨p, q, h1, h2, h3⟩ := rem_split his hil
      have hoi : ∃ oi, al[i]? = some oi := ⟨al[i]'(by omega), List.getElem?_eq_getElem (by omega)⟩
      obtain ⟨oi, hoi⟩ := hoi
      obtain ⟨oo, solo, hoo, hco⟩ := hal i oi hoi
      rw [ho] at hoo; cases hoo
      rw [h1] at hr
      have hind : ∀ k ∈ p, ∃ ok, al[k]? = some ok ∧ indep ok oi = true := fun k hk => by
        obtain ⟨hki, hkl⟩ := h2 k hk
        rcases hpair i oi hoi k hki with hbit | hin
        · have := closed_bits hcl i o ho hedges k hbit
          rw [getD_ft hkl] at this; cases this
        · exact hin
      obtain ⟨e1, hs, hr1⟩ := bubble hC hal' hK hoi q p h hind hr
      have hcl' : Closed ops (listed.setIfInBounds i true) := fun j oj hj hoj ed he hb => by
        have hset : ∀ j, (listed.setIfInBounds i true).getD j false = if j = i then true else listed.getD j false := fun j => by
          by_cases hj : j = i
          · subst hj; simp [Array.getD_eq_getD_getElem?, hsz, his]
          · rw [if_neg hj]; simp [Array.getD_eq_getD_getElem?, Array.getElem?_setIfInBounds_ne (Ne.symm hj)]
        rw [hset]
        split
        · rfl
        · rw [hset] at hj
          split at hj
          · rename_i hji; subst hji
            rw [ho] at hoj; cases hoj
            exact hedges ed he hb
          · exact hcl j oj hj hoj ed he hb
      have hlen' : (rem (listed.setIfInBounds i true) ops.size).length = fuel := by
        rw [h3]; rw [h1] at hrem; simp at hrem ⊢; omega
      have hstep := h.step hC hco hs (next := wpAny P .any ops Q fuel (listed.setIfInBounds i true)) (Q := Q) fun a' w' h' =>
        ih (listed.setIfInBounds i true) (by simp [hsz]) hlen' hcl' h' (by rw [h3]; exact hr1) hQ
      unfold wpOp
      simp only [ho]
      split
      · rename_i hw
        rw [if_pos hw] at hstep
        exact .inl hstep
      · rename_i hw
        rw [if_neg hw] at hstep
        exact hstep

end
end Go.AM
