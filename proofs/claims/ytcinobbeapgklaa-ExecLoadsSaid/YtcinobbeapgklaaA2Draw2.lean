/- YtcinobbeapgklaaA2Draw2: whatever order a region draws, the machine's run in the text's order stands for it. No statement of the seat is proved here. -/
import Derived.Test.YtcinobbeapgklaaA2Draw
namespace Go.A2
section
variable {P : Program} {Γ : Cx}
section
variable {K : List Nat} {N : Slots} {F0 B U : Nat → Prop} {w0 : World} {e : Env Γ.X} {a : Act} {w : World} {C : CK Γ.X}

/-- Which generation numbers are used up. -/
def usedUp (listed : Array Bool) (g : Nat) : Prop := g < 1 ∨ ∃ i, g = i + 1 ∧ listed.getD i false = true

/-- Whatever order is drawn. -/
theorem Sim.any (hX : TabOk Γ.X) {n : Nat} {lent : List Nat} (hN : N.fits n lent) {ops : Array Oper} {al : List (AOpr Γ.X)} (hal : allO (compOper P Γ K n lent ops) ops.toList = some al) (hok : aheadOk ops = true) {us : Nat → Ups Γ.X} {ft : Nat → Foot}
    (hpair : ∀ i, i < ops.size → ∀ j, j < i → ((masks ops.toList).getD i 0).testBit j = true ∨ apart (ft j) (ft i) = true) {Q : Exit → Act → World → Prop} {e' : Env Γ.X} :
    ∀ (fuel : Nat) (listed : Array Bool) {e : Env Γ.X} {a : Act} {w : World}, listed.size = ops.size → (rem listed ops.size).length = fuel → Closed ops listed → Sim N F0 B (usedUp listed) w0 e a w → Chain P al us ft (rem listed ops.size) e → fin us (rem listed ops.size) e = e' →
    (∀ U a' w', (∀ g, U g → g < ops.size + 1) → Sim N F0 B U w0 e' a' w' → Q .normal a' w') → wpAny P .any ops Q fuel listed a w := by
  have hback : ∀ (j : Nat) o, ops[j]? = some o → ∀ e ∈ o.after, Region.binds .any e = true → e.on < j := fun j o hj ed he hb => by
    have := List.all_eq_true.1 hok (o, j) (by rw [List.mem_zipIdx_iff_getElem?]; simpa using hj)
    have := Array.all_eq_true_iff_forall_mem.1 this ed he
    simpa [hb] using this
  have hused : ∀ {listed : Array Bool}, listed.size = ops.size → ∀ g, usedUp listed g → g < ops.size + 1 := fun {listed} hsz g hg => by
    rcases hg with hg | ⟨i, rfl, hi⟩
    · omega
    · rcases Nat.lt_or_ge i listed.size with h | h
      · omega
      · simp [Array.getD_eq_getD_getElem?, Array.getElem?_eq_none h] at hi
  intro fuel
  induction fuel with
  | zero =>
    intro listed e a w hsz hrem hcl h hch hr hQ
    have hnil : rem listed ops.size = [] := List.eq_nil_of_length_eq_zero hrem
    rw [hnil] at hr
    simp only [fin] at hr; subst hr
    refine ⟨?_, hQ _ _ _ (hused hsz) h⟩
    cases hrd : Region.ready .any ops listed with
    | nil => rfl
    | cons j l =>
      have hj := mem_ready.1 (show j ∈ Region.ready .any ops listed by rw [hrd]; simp)
      obtain ⟨h1, o, ho, _⟩ := hj
      have : j ∈ rem listed ops.size := List.mem_filter.2 ⟨List.mem_range.2 (Array.getElem?_eq_some_iff.1 ho).1, by rw [h1]; rfl⟩
      rw [hnil] at this; cases this
  | succ fuel ih =>
    intro listed e a w hsz hrem hcl h hch hr hQ
    have ready_of : ∀ i, i ∈ Region.ready .any ops listed → i < ops.size ∧ listed.getD i true = false ∧ ∃ o, ops[i]? = some o ∧ ∀ ed ∈ o.after, Region.binds .any ed = true → listed.getD ed.on false = true := fun i hi => by
      obtain ⟨h1, o, ho, h2⟩ := mem_ready.1 hi
      exact ⟨(Array.getElem?_eq_some_iff.1 ho).1, h1, o, ho, h2⟩
    refine ⟨fun hnil => ?_, fun i hi => ?_⟩
    · exfalso
      cases hrm : rem listed ops.size with
      | nil => rw [hrm] at hrem; cases hrem
      | cons j l =>
        have hj : j ∈ rem listed ops.size := by rw [hrm]; simp
        obtain ⟨hj1, hj2⟩ := List.mem_filter.1 hj
        have hjl : listed.getD j true = false := by simpa using hj2
        have hjs := List.mem_range.1 hj1
        have least : ∀ k, k < j → listed.getD k false = true := fun k hk => by
          obtain ⟨p, q, h1, h2, _⟩ := rem_split hjs hjl
          cases hp : p with
          | nil =>
            cases hkl : listed.getD k false with
            | true => rfl
            | false =>
              exfalso
              have hk' : listed.getD k true = false := by
                have : k < listed.size := by omega
                simp [Array.getD_eq_getD_getElem?, this] at hkl ⊢; exact hkl
              have : k ∈ rem listed ops.size := List.mem_filter.2 ⟨List.mem_range.2 (by omega), by rw [hk']; rfl⟩
              rw [h1, hp] at this
              have hpw : (rem listed ops.size).Pairwise (· < ·) := List.Pairwise.filter _ (List.pairwise_lt_range)
              rw [h1, hp] at hpw
              simp only [List.nil_append, List.mem_cons] at this
              rcases this with h3 | h3
              · omega
              · have := (List.pairwise_cons.1 hpw).1 k h3; omega
          | cons x p' =>
            exfalso
            rw [hrm] at h1
            rw [hp] at h1 h2
            simp only [List.cons_append, List.cons.injEq] at h1
            have := (h2 x (by simp)).1
            omega
        have : j ∈ Region.ready .any ops listed := mem_ready.2 ⟨hjl, ops[j], Array.getElem?_eq_getElem hjs, fun ed he hb => least _ (hback j _ (Array.getElem?_eq_getElem hjs) ed he hb)⟩
        rw [hnil] at this; cases this
    · obtain ⟨his, hil, o, ho, hedges⟩ := ready_of i hi
      obtain ⟨p, q, h1, h2, h3⟩ := rem_split his hil
      rw [h1] at hr hch
      have hap : ∀ k ∈ p, apart (ft k) (ft i) = true := fun k hk => by
        obtain ⟨hki, hkl⟩ := h2 k hk
        rcases hpair i his k hki with hbit | hin
        · have := closed_bits hcl i o ho hedges k hbit
          rw [getD_ft hkl] at this; cases this
        · exact hin
      obtain ⟨⟨oi, hoi, htook, _, _⟩, hch1, hfin⟩ := bubble q p hap hch
      have hco : compOper P Γ K n lent ops o = some oi := by
        obtain ⟨hl1, hl2⟩ := allO_spec hal
        obtain ⟨oi1, g2, g1⟩ := hl2 i o (by simpa using ho)
        rw [hoi] at g2; cases g2; exact g1
      have hset : ∀ j, (listed.setIfInBounds i true).getD j false = if j = i then true else listed.getD j false := fun j => by
        by_cases hj : j = i
        · subst hj; simp [Array.getD_eq_getD_getElem?, hsz, his]
        · rw [if_neg hj]; simp [Array.getD_eq_getD_getElem?, Array.getElem?_setIfInBounds_ne (Ne.symm hj)]
      have hcl' : Closed ops (listed.setIfInBounds i true) := fun j oj hj hoj ed he hb => by
        rw [hset]
        split
        · rfl
        · rw [hset] at hj
          split at hj
          · rename_i hji; subst hji
            rw [ho] at hoj; cases hoj
            exact hedges ed he hb
          · exact hcl j oj hj hoj ed he hb
      have hlen' : (rem (listed.setIfInBounds i true) ops.size).length = fuel := by
        rw [h3]; rw [h1] at hrem; simp at hrem ⊢; omega
      have hg : ¬ usedUp listed (i + 1) := fun hg => by
        rcases hg with hg | ⟨j, hj, hjl⟩
        · omega
        · have : j = i := by omega
          subst this
          rw [getD_ft hil] at hjl; cases hjl
      have hstep := h.took hX hg hN hco htook (next := wpAny P .any ops Q fuel (listed.setIfInBounds i true)) (Q := Q) fun a' w' h' =>
        ih (listed.setIfInBounds i true) (by simp [hsz]) hlen' hcl' (h'.weakU fun g hg => by
          rcases hg with (hg | ⟨j, rfl, hj⟩) | hg
          · exact .inl hg
          · refine .inr ⟨j, rfl, ?_⟩
            rw [hset]
            split
            · rfl
            · exact hj
          · exact .inr ⟨i, hg, by rw [hset, if_pos rfl]⟩) (by rw [h3]; exact hch1) (by rw [h3, hfin]; exact hr) hQ
      unfold wpOp
      simp only [ho]
      split
      · rename_i hw
        rw [if_pos hw] at hstep
        exact .inl hstep
      · rename_i hw
        rw [if_neg hw] at hstep
        exact hstep
end

theorem drawSound (hX : TabOk Γ.X) {C : CK Γ.X} (hC : CSound P C) : DrawSound P Γ C := by
  intro N F0 B w0 e a w r K n lent hN ops al hal hok k hsim hdraw Q hQ
  obtain ⟨us, ft, h1, h2, h3, h4⟩ := drawK_chain hC (al := al) (ms := masks ops.toList) (l := al) (pre := []) (fs := []) (e := e) rfl rfl (by simpa using hdraw)
  have hlen : al.length = ops.size := by simpa using (allO_spec hal).1
  simp only [List.length_nil] at h2 h4
  have hrem : rem (Array.replicate ops.size false) ops.size = List.range' 0 al.length := by
    unfold rem
    rw [hlen, ← List.range_eq_range']
    refine List.filter_eq_self.2 fun j hj => ?_
    have := List.mem_range.1 hj
    simp [Array.getD_eq_getD_getElem?, this]
  refine Sim.any (K := K) hX hN hal hok (us := us) (ft := ft) (fun i hi j hj => h3 i (by simp) (by omega) j hj) ops.size _ (by simp) (by rw [hrem]; simp [hlen]) ?_ (hsim.weakU fun g hg => .inl hg) (by rw [hrem]; exact h2) rfl ?_
  · intro j o hj
    simp only [Array.getD_eq_getD_getElem?, Array.getElem?_replicate] at hj
    split at hj <;> cases hj
  · intro U a' w' hU h'
    rw [hrem] at h'
    exact hQ (ops.size + 1) _ a' w' (h'.weakU hU) h4
end
end Go.A2
