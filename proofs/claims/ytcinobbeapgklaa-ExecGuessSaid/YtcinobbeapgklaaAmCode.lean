/- YtcinobbeapgklaaAmCode: the abstract machine's runs of code stand for the model's. No statement of the seat is proved here. -/
import Derived.Test.YtcinobbeapgklaaAmStep3
import Derived.LoopN
import Derived.Tactics
namespace Go.AM
open Go.RowKit (Below)

theorem mkE_map (K : List Nat) (g : Nat → AV) (s : Nat) : mkE (K.map fun k => (k, g k)) s = if inA K s then g s else .undef := by
  induction K with
  | nil => rfl
  | cons k K ih =>
    simp only [List.map_cons, mkE, inA, List.any_cons]
    by_cases hs : s = k
    · subst hs; simp
    · have : (k == s) = false := by simpa using Ne.symm hs
      simp only [hs, if_false, this, Bool.false_or]
      exact ih

section
variable {P : Program} {K : List Nat} {F0 : Nat → Prop} {B n : Nat} {w0 : World} {F : Nat → Prop} {S : Nat → List Nat} {e : Env} {a : Act} {w : World} {C : Nat → List AV → Option AV}

open Classical in
/-- Some slots are forgotten, and all that refers to them. -/
theorem EnvRel.weakenTo (h : EnvRel K F0 B n w0 F S e a w) (e' : Env) (he : ∀ s, e' s = e s ∨ e' s = .undef) (hr : ∀ s r, refRoot (e' s) = some r → e' r = e r) : Sim K F0 B n w0 e' a w := by
  refine ⟨F, fun s => if e' s = e s then S s else [], h.size, h.defers, ?_, ?_, ?_, ?_, h.free, h.old, h.keeps, h.below, h.base⟩
  · intro s
    by_cases hs : e' s = e s
    · simp only [hs, if_true]
      exact (h.rep s).env fun r hr' _ => hr s r (by rw [hs]; exact hr')
    · simp only [hs, if_false]
      rcases he s with h1 | h1
      · exact absurd h1 hs
      · rw [h1]; exact .val (.val .undef)
  · intro s
    show (if e' s = e s then S s else []).Nodup
    split
    · exact h.nodup s
    · exact List.nodup_nil
  · intro s t b hst hb
    show b ∉ (if e' t = e t then S t else [])
    have hb' : b ∈ (if e' s = e s then S s else []) := hb
    split at hb'
    · split
      · exact h.apart s t b hst hb'
      · simp
    · cases hb'
  · intro s b hb
    have hb' : b ∈ (if e' s = e s then S s else []) := hb
    split at hb'
    · exact h.own s b hb'
    · cases hb'

theorem Sim.clean (h : Sim K F0 B n w0 e a w) (A : List Nat) : Sim K F0 B n w0 (clean A e) a w := by
  obtain ⟨F, S, h⟩ := h
  have key : ∀ x, cleanR A x = x ∨ cleanR A x = .undef := fun x => by
    cases x with
    | ref s c => simp only [cleanR]; split <;> simp
    | ptr s c r o => simp only [cleanR]; split <;> simp
    | _ => exact .inl rfl
  refine h.weakenTo _ (fun s => ?_) fun s r hr => ?_
  · unfold Go.AM.clean
    split
    · exact .inr rfl
    · exact key _
  · have ho : isOwner (e r) = true ∧ inA A r = false := by
      unfold Go.AM.clean at hr
      split at hr
      · simp [refRoot] at hr
      · have hx : refRoot (e s) = some r ∧ inA A r = false := by
          cases hes : e s with
          | ref s' c =>
            simp only [hes, cleanR] at hr
            split at hr
            · simp [refRoot] at hr
            · rename_i hna; simp [refRoot] at hr; subst hr; exact ⟨rfl, by simpa using hna⟩
          | ptr s' c r' o =>
            simp only [hes, cleanR] at hr
            split at hr
            · simp [refRoot] at hr
            · rename_i hna; simp [refRoot] at hr; subst hr; exact ⟨rfl, by simpa using hna⟩
          | _ => simp [hes, cleanR, refRoot] at hr
        exact ⟨(h.rep s).isOwner_root hx.1, hx.2⟩
    unfold Go.AM.clean
    rw [ho.2]
    simp only [Bool.false_eq_true, if_false]
    cases her : e r <;> simp [her, isOwner] at ho <;> rfl

theorem Sim.restrict (h : Sim K F0 B n w0 e a w) : Sim K F0 B n w0 (restrict K e) a w := by
  obtain ⟨F, S, h⟩ := h
  have key : ∀ x, keepR K x = x ∨ keepR K x = .undef := fun x => by
    cases x with
    | ref s c => simp only [keepR]; split <;> simp
    | ptr s c r o => simp only [keepR]; split <;> simp
    | _ => exact .inl rfl
  have hrs : ∀ s, Go.AM.restrict K e s = if inA K s then keepR K (e s) else .undef := fun s => mkE_map K (fun k => keepR K (e k)) s
  refine h.weakenTo _ (fun s => ?_) fun s r hr => ?_
  · rw [hrs]
    split
    · exact key _
    · exact .inr rfl
  · rw [hrs] at hr
    have ho : isOwner (e r) = true ∧ inA K r = true := by
      split at hr
      · have hx : refRoot (e s) = some r ∧ inA K r = true := by
          cases hes : e s with
          | ref s' c =>
            simp only [hes, keepR] at hr
            split at hr
            · rename_i hna; simp [refRoot] at hr; subst hr; exact ⟨rfl, hna⟩
            · simp [refRoot] at hr
          | ptr s' c r' o =>
            simp only [hes, keepR] at hr
            split at hr
            · rename_i hna; simp [refRoot] at hr; subst hr; exact ⟨rfl, hna⟩
            · simp [refRoot] at hr
          | _ => simp [hes, keepR, refRoot] at hr
        exact ⟨(h.rep s).isOwner_root hx.1, hx.2⟩
      · simp [refRoot] at hr
    rw [hrs, if_pos ho.2]
    cases her : e r <;> simp [her, isOwner] at ho <;> rfl

theorem compOp_bad {solo : Bool} {d : Option Nat} {e' : Env} (hs : Go.AM.stepOp C solo e d .bad = some e') : False := by simp [Go.AM.stepOp] at hs

theorem act_stepOp {o : AOpr} {e' : Env} (hs : act C e o = some e') : Go.AM.stepOp C o.solo e o.dst o.op = some e' := by
  unfold act at hs
  split at hs
  · exact hs
  · cases hs

/-- An operation of a region, with its guard. -/
theorem Sim.step (hC : Sound P C) (h : Sim K F0 B n w0 e a w) {ops : Array Oper} {solo : Bool} {o : Oper} {ao : AOpr} (hco : compOper P K n ops solo o = some ao) {e' : Env} (hs : Go.AM.step C e ao = some e')
    {next : Act → World → Prop} {Q : Exit → Act → World → Prop} (hnext : ∀ a' w', Sim K F0 B n w0 e' a' w' → next a' w') :
    if Region.wanted o (yielded ops a.tmps) then o.wp P a w next Q else next (a.put o.dst Go.undef) w := by
  obtain ⟨F, S, h⟩ := h
  unfold compOper at hco
  split at hco
  · rename_i hdok
    unfold dstOk at hdok
    rw [Bool.and_eq_true] at hdok
    have hd : ∀ k, o.dst = some k → k < n := fun k hk => by
      have := hdok.1
      rw [hk] at this
      simpa using this
    have hst : (∃ t x v, o.op = .store t x v) → o.dst = none := fun ⟨t, x, v, ho⟩ => by
      have := hdok.2
      rw [ho] at this
      simpa using this
    have run : Go.AM.stepOp C solo e o.dst ((compOp P K o.op).getD .bad) = some e' → o.wp P a w next Q := fun hr => by
      cases hcc : compOp P K o.op with
      | none => rw [hcc] at hr; exact (compOp_bad (by simpa using hr)).elim
      | some ao => rw [hcc] at hr; exact h.stepOp hC hcc (by simpa using hr) hd hst hnext
    split at hco
    · rename_i hg
      simp only [Option.some.injEq] at hco; subst hco
      have hw : Region.wanted o (yielded ops a.tmps) = true := by simp [Region.wanted, hg]
      rw [if_pos hw]
      simp only [Go.AM.step] at hs
      exact run (act_stepOp hs)
    · rename_i g want hg
      split at hco
      · rename_i t ht
        simp only [Option.some.injEq] at hco; subst hco
        simp only [Go.AM.step] at hs
        split at hs
        · rename_i b hb
          have hv : a.tmps.getD t Go.undef = .bool b := by
            have hr := h.rep t
            rw [hb] at hr
            have := (hr.cell rfl).1
            generalize a.tmps.getD t Go.undef = u at this
            cases this; rfl
          have hlt : t < a.tmps.size := by
            rcases Nat.lt_or_ge t a.tmps.size with h | h
            · exact h
            · simp [Array.getD_eq_getD_getElem?, Array.getElem?_eq_none h, Go.undef] at hv
          have hy : yielded ops a.tmps g = some b := by
            unfold yielded
            have hbind : ((ops[g]?).bind (·.dst)).bind (a.tmps[·]?) = some (.bool b) := by
              rw [ht]
              simp only [Option.bind_some]
              rw [Array.getElem?_eq_getElem hlt]
              simp [Array.getD_eq_getD_getElem?, hlt] at hv
              simp [hv]
            rw [hbind]
          have hw : Region.wanted o (yielded ops a.tmps) = (b == want) := by
            simp only [Region.wanted, hg, hy]
            cases b <;> cases want <;> rfl
          split at hs
          · rename_i hbw
            subst hbw
            rw [if_pos (by rw [hw]; simp)]
            exact run (act_stepOp hs)
          · rename_i hbw
            rw [if_neg (by rw [hw]; simpa using hbw)]
            obtain ⟨S2, h2⟩ := h.putN hd (Hand.of_pure (.val (.val .undef))) hs
            exact hnext _ _ ⟨F, S2, h2⟩
        · cases hs
      · cases hco
  · cases hco

/-- A region, in the text's order. -/
theorem Sim.runOps (hC : Sound P C) {ops : Array Oper} {solo : Bool} {Q : Exit → Act → World → Prop} : ∀ {l : List Oper} {al : List AOpr} {e e' : Env} {a : Act} {w : World}, Sim K F0 B n w0 e a w → mapO (compOper P K n ops solo) l = some al →
    Go.AM.runOps C al e = some e' → (∀ a' w', Sim K F0 B n w0 e' a' w' → Q .normal a' w') → wpList P ops Q l a w
  | [], al, e, e', a, w, h, hco, hr, hQ => by
    simp [mapO] at hco; subst hco
    simp [Go.AM.runOps] at hr; subst hr
    exact hQ _ _ h
  | o :: l, al, e, e', a, w, h, hco, hr, hQ => by
    simp only [mapO] at hco
    split at hco
    · rename_i ao al' h1 h2
      simp only [Option.some.injEq] at hco; subst hco
      simp only [Go.AM.runOps] at hr
      split at hr
      · rename_i e1 hs
        refine wpList_step fun K' hK' => ?_
        exact h.step hC h1 hs fun a' w' h' => hK' _ _ (Sim.runOps hC h' h2 hr hQ)
      · cases hr
    · cases hco

end
end Go.AM
