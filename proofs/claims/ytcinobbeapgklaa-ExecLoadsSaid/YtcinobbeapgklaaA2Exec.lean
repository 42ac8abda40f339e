/- YtcinobbeapgklaaA2Exec: regions in the text's order; code. No statement of the seat is proved here. -/
import Derived.Test.YtcinobbeapgklaaA2Norm
namespace Go.A2
section
variable {P : Program} {Γ : Cx}
section
variable {K : List Nat} {N : Slots} {F0 B U : Nat → Prop} {w0 : World} {F : Nat → Prop} {S : Nat → List Nat} {e : Env Γ.X} {a : Act} {w : World} {C : CK Γ.X} {r : Ret Γ.X}

theorem Sim.weakU {U' : Nat → Prop} (h : Sim N F0 B U w0 e a w) (hU : ∀ g, U g → U' g) : Sim N F0 B U' w0 e a w := by
  obtain ⟨F, S, h⟩ := h
  exact ⟨F, S, h.weakU hU⟩
theorem Sim.restrict (h : Sim N F0 B U w0 e a w) (K : List Nat) : Sim N F0 B (· < 1) w0 (Go.A2.restrict K e) a w := by
  obtain ⟨F, S, h⟩ := h
  obtain ⟨S', h'⟩ := h.restrict K
  exact ⟨F, S', h'⟩
theorem Sim.marked (hX : TabOk Γ.X) (h : Sim N F0 B (· < 1) w0 e a w) (D : List (Nat × Sh)) : Sim N F0 B (· < 1) w0 (Go.A2.marked D e) a w := by
  obtain ⟨F, S, h⟩ := h
  exact h.marked hX D

/-- A frame's slots fit the function. -/
def Slots.fits (N : Slots) (n : Nat) (lent : List Nat) : Prop := N.n = n ∧ ∀ q ∈ N.V, inK lent q.1 = true
theorem dst_ok {n : Nat} {lent : List Nat} (hN : N.fits n lent) {o : Oper} (h : dstOk n lent o = true) : (∀ k, o.dst = some k → N.ok k) ∧ ((∃ t x v, o.op = .store t x v) → o.dst = none) := by
  unfold dstOk at h
  rw [Bool.and_eq_true] at h
  refine ⟨fun k hk => ?_, fun ⟨t, x, v, ho⟩ => ?_⟩
  · have h1 := h.1
    rw [hk] at h1
    simp only [Bool.and_eq_true, decide_eq_true_eq, Bool.not_eq_true'] at h1
    refine ⟨by rw [hN.1]; exact h1.1, fun q hq he => ?_⟩
    have := hN.2 q hq
    rw [he, h1.2] at this; cases this
  · have h2 := h.2
    rw [ho] at h2
    simpa using h2

/-- An operation's run: what it turns. -/
def Ran (P : Program) (e : Env Γ.X) (g : Nat) (o : AOpr Γ.X) (us : Ups Γ.X) : Prop := ∃ ans, eff ans g e o.dst o.op = some us ∧ ∀ f as, callArgs e o.op = some (f, as) → Spec P f (as.map (·.a)) ans
def Took (P : Program) (e : Env Γ.X) (g : Nat) (o : AOpr Γ.X) (us : Ups Γ.X) : Prop :=
  match o.guard with
  | none => Ran P e g o us
  | some (s, want) => (∃ (b : Bool) (ov : Own), e s = .val .bool b ov ∧ ((b = want ∧ Ran P e g o us) ∨ (b ≠ want ∧ us = outU o.dst (.tup [])))) ∨ (e s = .tup [] ∧ us = outU o.dst (.tup []))
theorem stepK_took {C : CK Γ.X} (hC : CSound P C) {g : Nat} {e : Env Γ.X} {o : AOpr Γ.X} {k : Env Γ.X → Option (Ret Γ.X)} {r : Ret Γ.X} (h : Go.A2.stepK C g e o k = some r) : ∃ us, Took P e g o us ∧ k (applyU e us) = some r := by
  unfold Go.A2.stepK at h
  unfold Took
  have ran : effK C g e o.dst o.op k = some r → ∃ us, Ran P e g o us ∧ k (applyU e us) = some r := fun h => by
    obtain ⟨ans, us, h1, h2, h3⟩ := effK_eff hC h
    exact ⟨us, ⟨ans, h1, h3⟩, h2⟩
  cases hg : o.guard with
  | none => rw [hg] at h; exact ran h
  | some q =>
    obtain ⟨s, want⟩ := q
    rw [hg] at h
    cases want with
    | true =>
      simp only [] at h ⊢
      split at h
      · rename_i b ov hb
        have hsb : ∀ {z : Bool}, b = z → setB e (.t s) z = e := fun {z} hz => by subst hz; exact setB_self (o := ov) (by simp only [Go.A2.rd, hb])
        rcases cond_some h with ⟨hz, h'⟩ | ⟨hz, h'⟩
        · rw [hsb hz] at h'
          obtain ⟨us, h1, h2⟩ := ran h'
          exact ⟨us, .inl ⟨b, ov, hb, .inl ⟨hz, h1⟩⟩, h2⟩
        · rw [hsb hz] at h'
          exact ⟨_, .inl ⟨b, ov, hb, .inr ⟨fun hh => Bool.noConfusion (hh.symm.trans hz), rfl⟩⟩, h'⟩
      · rename_i hb; exact ⟨_, .inr ⟨hb, rfl⟩, h⟩
      · cases h
    | false =>
      simp only [] at h ⊢
      split at h
      · rename_i b ov hb
        have hsb : ∀ {z : Bool}, b = z → setB e (.t s) z = e := fun {z} hz => by subst hz; exact setB_self (o := ov) (by simp only [Go.A2.rd, hb])
        rcases cond_some h with ⟨hz, h'⟩ | ⟨hz, h'⟩
        · rw [hsb hz] at h'
          exact ⟨_, .inl ⟨b, ov, hb, .inr ⟨fun hh => Bool.noConfusion (hh.symm.trans hz), rfl⟩⟩, h'⟩
        · rw [hsb hz] at h'
          obtain ⟨us, h1, h2⟩ := ran h'
          exact ⟨us, .inl ⟨b, ov, hb, .inl ⟨hz, h1⟩⟩, h2⟩
      · rename_i hb; exact ⟨_, .inr ⟨hb, rfl⟩, h⟩
      · cases h

theorem tup0 : SRep e a w F (.tup [] : AV Γ.X) Go.undef [] := SRep.tup [] [] (fun _ => []) rfl (fun i x u h => by simp at h)
theorem tup0_inv {u : Value} {S : List Nat} (h : SRep e a w F (.tup [] : AV Γ.X) u S) : u = Go.undef := by
  cases h with
  | u h => cases h
  | tup l us Ss hl h =>
    cases us with
    | nil => rfl
    | cons _ _ => cases hl
/-- One operation, as the machine took it. -/
theorem Sim.took (hX : TabOk Γ.X) (h : Sim N F0 B U w0 e a w) {g : Nat} (hg : ¬ U g) {n : Nat} {lent : List Nat} (hN : N.fits n lent) {ops : Array Oper} {o : Oper} {ao : AOpr Γ.X} (hco : compOper P Γ K n lent ops o = some ao) {us : Ups Γ.X} (hs : Took P e g ao us)
    {next : Act → World → Prop} {Q : Exit → Act → World → Prop} (hnext : ∀ a' w', Sim N F0 B (withG U g) w0 (applyU e us) a' w' → next a' w') :
    if Region.wanted o (yielded ops a.tmps) then o.wp P a w next Q else next (a.put o.dst Go.undef) w := by
  obtain ⟨F, S, h⟩ := h
  unfold compOper at hco
  split at hco
  · rename_i hdok
    obtain ⟨hd, hst⟩ := dst_ok hN hdok
    have run : ∀ {gd : Option (Nat × Bool)}, Ran P e g ({ dst := o.dst, op := (compOp P Γ K o.type o.op).getD .bad, guard := gd } : AOpr Γ.X) us → o.wp P a w next Q := fun {gd} hr => by
      obtain ⟨ans, h1, h3⟩ := hr
      cases hcc : compOp P Γ K o.type o.op with
      | none => rw [hcc] at h1; simp [eff] at h1
      | some ao =>
        rw [hcc] at h1 h3
        exact h.stepOp hX hg hcc hd hst h1 h3 hnext
    split at hco
    · rename_i hgd
      simp only [Option.some.injEq] at hco; subst hco
      have hw : Region.wanted o (yielded ops a.tmps) = true := by simp [Region.wanted, hgd]
      rw [if_pos hw]
      exact run hs
    · rename_i gd want hgd
      split at hco
      · rename_i t ht
        simp only [Option.some.injEq] at hco; subst hco
        have skip : us = outU o.dst (.tup []) → next (a.put o.dst Go.undef) w := fun h' => by
          have := h.out (U := U) (g := g) hd hg (Hand.ofPure (x := .tup []) (u := Go.undef) tup0 trivial) trivial
          rw [h'] at hnext
          exact hnext _ _ this
        rcases hs with ⟨b, ov, hb, hor⟩ | ⟨hb, hus⟩
        case inr =>
          have hv : a.tmps.getD t Go.undef = Go.undef := by
            have := h.rep t
            rw [hb] at this
            exact tup0_inv this
          have hy : yielded ops a.tmps gd = none := by
            unfold yielded
            rw [ht]
            simp only [Option.bind_some]
            rcases Nat.lt_or_ge t a.tmps.size with hlt | hlt
            · rw [Array.getElem?_eq_getElem hlt]
              simp [Array.getD_eq_getD_getElem?, hlt] at hv
              simp [hv, Go.undef]
            · rw [Array.getElem?_eq_none hlt]
          rw [if_neg (by simp [Region.wanted, hgd, hy])]
          exact skip hus
        have hv : a.tmps.getD t Go.undef = .bool b := by
          obtain ⟨cs, k1, k2⟩ := h.valAt hb
          have := k1.boolInv
          subst this
          unfold valOk at k2
          rw [if_neg (by simp [aggB])] at k2
          exact (List.cons.inj k2).1.symm
        have hlt : t < a.tmps.size := by
          rcases Nat.lt_or_ge t a.tmps.size with h | h
          · exact h
          · simp [Array.getD_eq_getD_getElem?, Array.getElem?_eq_none h, Go.undef] at hv
        have hy : yielded ops a.tmps gd = some b := by
          unfold yielded
          have hbind : ((ops[gd]?).bind (·.dst)).bind (a.tmps[·]?) = some (.bool b) := by
            rw [ht]
            simp only [Option.bind_some]
            rw [Array.getElem?_eq_getElem hlt]
            simp [Array.getD_eq_getD_getElem?, hlt] at hv
            simp [hv]
          rw [hbind]
        have hw : Region.wanted o (yielded ops a.tmps) = (b == want) := by
          simp only [Region.wanted, hgd, hy]
          cases b <;> cases want <;> rfl
        rcases hor with ⟨hbw, h'⟩ | ⟨hbw, h'⟩
        · subst hbw
          rw [if_pos (by rw [hw]; simp)]
          exact run h'
        · rw [if_neg (by rw [hw]; simpa using hbw)]
          exact skip h'
      · cases hco
  · cases hco

/-- One operation, with its guard. -/
theorem Sim.stepK (hX : TabOk Γ.X) (hC : CSound P C) {g : Nat} (h : Sim N F0 B (· < g) w0 e a w) {n : Nat} {lent : List Nat} (hN : N.fits n lent) {ops : Array Oper} {o : Oper} {ao : AOpr Γ.X} (hco : compOper P Γ K n lent ops o = some ao) {k : Env Γ.X → Option (Ret Γ.X)} (hs : Go.A2.stepK C g e ao k = some r)
    {next : Act → World → Prop} {Q : Exit → Act → World → Prop} (hnext : ∀ e1 a' w', Sim N F0 B (· < g + 1) w0 e1 a' w' → k e1 = some r → next a' w') :
    if Region.wanted o (yielded ops a.tmps) then o.wp P a w next Q else next (a.put o.dst Go.undef) w := by
  obtain ⟨us, h1, h2⟩ := stepK_took hC hs
  exact h.took hX (g := g) (Nat.lt_irrefl g) hN hco h1 fun a' w' h' => hnext _ _ _ (h'.weakU fun q hq => by rcases hq with hq | hq; exact Nat.lt_succ_of_lt hq; exact hq ▸ Nat.lt_succ_self _) h2

/-- A region, in the text's order. -/
theorem Sim.runK (hX : TabOk Γ.X) (hC : CSound P C) {n : Nat} {lent : List Nat} (hN : N.fits n lent) {ops : Array Oper} {Q : Exit → Act → World → Prop} : ∀ {l : List Oper} {al : List (AOpr Γ.X)} {g : Nat} {e : Env Γ.X} {a : Act} {w : World} {k : Env Γ.X → Option (Ret Γ.X)}, Sim N F0 B (· < g) w0 e a w → allO (compOper P Γ K n lent ops) l = some al →
    Go.A2.runK C g al e k = some r → (∀ g e1 a' w', Sim N F0 B (· < g) w0 e1 a' w' → k e1 = some r → Q .normal a' w') → wpList P ops Q l a w
  | [], al, g, e, a, w, k, h, hco, hr, hQ => by
    simp [allO] at hco; subst hco
    exact hQ _ _ _ _ h hr
  | o :: l, al, g, e, a, w, k, h, hco, hr, hQ => by
    simp only [allO] at hco
    split at hco
    · rename_i ao al' h1 h2
      simp only [Option.some.injEq] at hco; subst hco
      simp only [Go.A2.runK] at hr
      refine wpList_step fun K' hK' => ?_
      exact h.stepK hX hC hN h1 hr fun e1 a' w' h' hk => hK' _ _ (Sim.runK hX hC hN h' h2 hk hQ)
    · cases hco
end
end
end Go.A2
