/- YtcinobbeapgklaaAmExec: the abstract machine's runs of code stand for the model's. No statement of the seat is proved here. -/
import Derived.Test.YtcinobbeapgklaaAmDraw4
namespace Go.AM
open Go.RowKit (Below)

section
variable {P : Program} {K : List Nat} {F0 : Nat → Prop} {B n : Nat} {w0 : World} {F : Nat → Prop} {S : Nat → List Nat} {e : Env} {a : Act} {w : World} {C : Nat → List AV → Option AV}

def exOf : AExit → Exit
  | .normal => .normal
  | .exit id => .exit id
  | .ret => .ret

theorem Sim.drew (h : Sim K F0 B n w0 e a w) : Sim K F0 B n w0 e a { w with drawn := w.drawn + 1 } := by
  obtain ⟨F, S, h⟩ := h
  exact ⟨F, S, h.ext (Below.refl _ _).drew (fun _ hb => hb) fun _ hb => .inl hb⟩

theorem mapO_inv {α β : Type} {f : α → Option β} : ∀ {l : List α} {l' : List β}, mapO f l = some l' → l'.length = l.length ∧ ∀ (j : Nat) y, l'[j]? = some y → ∃ x, l[j]? = some x ∧ f x = some y
  | [], l', h => by simp [mapO] at h; subst h; simp
  | x :: l, l', h => by
    simp only [mapO] at h
    split at h
    · rename_i y ys h1 h2
      simp only [Option.some.injEq] at h; subst h
      obtain ⟨h3, h4⟩ := mapO_inv h2
      refine ⟨by simp [h3], fun j y' hj => ?_⟩
      cases j with
      | zero => simp at hj; subst hj; exact ⟨x, rfl, h1⟩
      | succ j => obtain ⟨x', h5, h6⟩ := h4 j y' (by simpa using hj); exact ⟨x', by simpa using h5, h6⟩
    · cases h

theorem rem_none (m : Nat) : rem (Array.replicate m false) m = List.range m := by
  unfold rem
  refine List.filter_eq_self.2 fun j hj => ?_
  have := List.mem_range.1 hj
  simp [Array.getD_eq_getD_getElem?, this]

theorem Sim.draw (hC : Sound P C) {ops : Array Oper} {al : List AOpr} (hal : compDraw P K n ops = some al) (hok : drawOk K ops al = true) {e' : Env} (h : Sim K F0 B n w0 e a w) (hr : Go.AM.runOps C al e = some e') {Q : Exit → Act → World → Prop}
    (hQ : ∀ a' w', Sim K F0 B n w0 e' a' w' → Q .normal a' w') : wpAny P .any ops Q ops.size (Array.replicate ops.size false) a w := by
  obtain ⟨h1, h2⟩ := mapO_inv hal
  have hlen : al.length = ops.size := by simpa using h1
  refine Sim.any hC hlen (fun j o hj => ?_) hok ops.size _ (by simp) (by rw [rem_none]; simp) (fun j o hj => ?_) h ?_ hQ
  · obtain ⟨⟨oo, k⟩, h3, h4⟩ := h2 j o hj
    have h5 := List.mem_zipIdx_iff_getElem?.1 (List.mem_of_getElem? h3)
    have h6 : k = j := by
      rw [List.getElem?_zipIdx] at h3
      cases hq : ops.toList[j]? with
      | none => simp [hq] at h3
      | some x => simp [hq] at h3; exact h3.2.symm
    subst h6
    exact ⟨oo, _, by simpa using h5, h4⟩
  · exfalso
    rcases Nat.lt_or_ge j ops.size with hlt | hge
    · simp [Array.getD_eq_getD_getElem?, hlt] at hj
    · simp [Array.getD_eq_getD_getElem?, Nat.not_lt.2 hge] at hj
  · rw [rem_none]
    have := runIdx_range C al al [] e rfl
    rw [← hlen, List.range_eq_range']
    exact this.trans hr

/-- A run of code. -/
theorem Sim.exec (hm : P.follows .mixedOrders = true) (hC : Sound P C) (N : Nat) : ∀ (c : Code) {ac : ACode} (_ : compCode P K n c = some ac) {e e' : Env} {x : AExit} {a : Act} {w : World} (_ : Sim K F0 B n w0 e a w) (_ : exec C K N ac e = some (x, e'))
    {Q : Exit → Act → World → Prop} (_ : ∀ a' w', Sim K F0 B n w0 e' a' w' → Q (exOf x) a' w'), c.wp P Q a w := by
  intro c
  induction c with
  | skip =>
    intro ac hco e e' x a w h hr Q hQ
    simp only [compCode, Option.some.injEq] at hco; subst hco
    simp only [Go.AM.exec, Option.some.injEq, Prod.mk.injEq] at hr
    obtain ⟨rfl, rfl⟩ := hr
    exact wp_skip (hQ _ _ h)
  | region id ops draw =>
    intro ac hco e e' x a w h hr Q hQ
    cases draw with
    | true =>
      simp only [compCode] at hco
      split at hco
      · rename_i al hal
        split at hco
        · rename_i hok
          simp only [Option.some.injEq] at hco; subst hco
          simp only [Go.AM.exec] at hr
          split at hr
          · rename_i e1 hr1
            simp only [Option.some.injEq, Prod.mk.injEq] at hr
            obtain ⟨rfl, rfl⟩ := hr
            exact wp_region_any hm (Sim.draw hC hal hok (h.clean _).drew hr1 fun a' w' h' => hQ _ _ h'.restrict)
          · cases hr
        · simp only [Option.some.injEq] at hco; subst hco; simp [Go.AM.exec] at hr
      · simp only [Option.some.injEq] at hco; subst hco; simp [Go.AM.exec] at hr
    | false =>
      simp only [compCode] at hco
      cases hm : mapO (compOper P K n ops true) ops.toList with
      | none => simp [hm] at hco
      | some al =>
        simp [hm] at hco; subst hco
        simp only [Go.AM.exec] at hr
        split at hr
        · rename_i e1 hr1
          simp only [Option.some.injEq, Prod.mk.injEq] at hr
          obtain ⟨rfl, rfl⟩ := hr
          exact wp_region_list ((h.clean _).runOps hC hm hr1 fun a' w' h' => hQ _ _ h'.restrict)
        · cases hr
  | seq c1 c2 ih1 ih2 =>
    intro ac hco e e' x a w h hr Q hQ
    simp only [compCode] at hco
    split at hco
    · rename_i a1 a2 h1 h2
      simp only [Option.some.injEq] at hco; subst hco
      simp only [Go.AM.exec] at hr
      refine wp_seq ?_
      split at hr
      · rename_i e1 hr1
        exact ih1 h1 h hr1 fun a' w' h' => ih2 h2 h' hr hQ
      · rename_i r hne hr1
        refine ih1 h1 h hr fun a' w' h' => ?_
        cases x with
        | normal => exact absurd hr (hr1 e')
        | exit id => exact hQ _ _ h'
        | ret => exact hQ _ _ h'
    · cases hco
  | cond c c1 c2 ih1 ih2 =>
    intro ac hco e e' x a w h hr Q hQ
    simp only [compCode] at hco
    split at hco
    · rename_i xc a1 a2 hc h1 h2
      simp only [Option.some.injEq] at hco; subst hco
      obtain ⟨F, S, h0⟩ := h
      simp only [Go.AM.exec] at hr
      split at hr
      · rename_i hb
        exact wp_cond_true (h0.rdBool hc hb) (ih1 h1 ⟨F, S, h0⟩ hr hQ)
      · rename_i hb
        exact wp_cond_false (h0.rdBool hc hb) (ih2 h2 ⟨F, S, h0⟩ hr hQ)
      · cases hr
    · cases hco
  | block id c ih =>
    intro ac hco e e' x a w h hr Q hQ
    simp only [compCode] at hco
    cases hc : compCode P K n c with
    | none => simp [hc] at hco
    | some a1 =>
      simp [hc] at hco; subst hco
      simp only [Go.AM.exec] at hr
      refine wp_block ?_
      split at hr
      · rename_i j e1 hr1
        split at hr
        · rename_i hj
          simp only [Option.some.injEq, Prod.mk.injEq] at hr
          obtain ⟨rfl, rfl⟩ := hr
          exact ih hc h hr1 fun a' w' h' => by simp only [exOf, Exit.inBlock, hj, if_true]; exact hQ _ _ h'
        · rename_i hj
          simp only [Option.some.injEq, Prod.mk.injEq] at hr
          obtain ⟨rfl, rfl⟩ := hr
          exact ih hc h hr1 fun a' w' h' => by simp only [exOf, Exit.inBlock, hj, if_false]; exact hQ _ _ h'
      · rename_i r hne
        refine ih hc h hr fun a' w' h' => ?_
        cases x with
        | normal => exact hQ _ _ h'
        | exit j => exact absurd hr (hne j e')
        | ret => exact hQ _ _ h'
  | loop c ih =>
    intro ac hco e e' x a w h hr Q hQ
    simp only [compCode] at hco
    cases hc : compCode P K n c with
    | none => simp [hc] at hco
    | some a1 =>
      simp [hc] at hco; subst hco
      simp only [Go.AM.exec] at hr
      have key : ∀ m e a w, Sim K F0 B n w0 e a w → iter (Go.AM.exec C K N a1) m e = some (x, e') → Code.rounds P c Q m a w := by
        intro m
        induction m with
        | zero => intro e a w _ hi; simp [iter] at hi
        | succ m ihm =>
          intro e a w h hi
          simp only [iter] at hi
          show c.wp P (Exit.then (Code.rounds P c Q m) Q) a w
          split at hi
          · rename_i e1 hr1
            exact ih hc h hr1 fun a' w' h' => ihm e1 a' w' h' hi
          · rename_i r hne
            refine ih hc h hi fun a' w' h' => ?_
            cases x with
            | normal => exact absurd hi (hne e')
            | exit j => exact hQ _ _ h'
            | ret => exact hQ _ _ h'
      exact wp_loop_rounds N (key N e a w h hr)
  | exit id =>
    intro ac hco e e' x a w h hr Q hQ
    simp only [compCode, Option.some.injEq] at hco; subst hco
    simp only [Go.AM.exec, Option.some.injEq, Prod.mk.injEq] at hr
    obtain ⟨rfl, rfl⟩ := hr
    exact wp_exit (hQ _ _ h)
  | ret =>
    intro ac hco e e' x a w h hr Q hQ
    simp only [compCode, Option.some.injEq] at hco; subst hco
    simp only [Go.AM.exec, Option.some.injEq, Prod.mk.injEq] at hr
    obtain ⟨rfl, rfl⟩ := hr
    exact wp_ret (hQ _ _ h)
  | _ =>
    intro ac hco e e' x a w h hr Q hQ
    simp only [compCode, Option.some.injEq] at hco; subst hco
    simp [Go.AM.exec] at hr

end
end Go.AM
