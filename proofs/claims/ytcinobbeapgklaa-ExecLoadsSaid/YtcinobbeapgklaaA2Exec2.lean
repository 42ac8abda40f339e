/- YtcinobbeapgklaaA2Exec2: code. No statement of the seat is proved here. -/
import Derived.Test.YtcinobbeapgklaaA2Exec
import Derived.Orders
import Derived.LoopN
namespace Go.A2
section
variable {X : Tab}
/-- As 'execK', with the marks' code in place. -/
def execT (C : CK X) (K : List Nat) (N : Nat) : ACode X → Env X → Kon X → Option (Ret X)
  | .skip, e, k => k .normal e
  | .region ops, e, k => runK C 1 ops e fun e1 => k .normal (restrict K e1)
  | .draw ops ms, e, k => drawK C 1 ops ms [] e fun e1 => k .normal (restrict K e1)
  | .seq a b, e, k => execT C K N a e fun x e1 => match x with
    | .normal => execT C K N b e1 k
    | x => k x e1
  | .cond c a b, e, k => match rd e c with
    | .val .bool v _ => cond v (execT C K N a (setB e c true) k) (execT C K N b (setB e c false) k)
    | _ => none
  | .block id a, e, k => execT C K N a e fun x e1 => match x with
    | .exit j => if j = id then k .normal e1 else k (.exit j) e1
    | x => k x e1
  | .loop a, e, k => iterK (execT C K N a) N e k
  | .exit id, e, k => k (.exit id) e
  | .ret, e, k => k .ret e
  | .mark _ D a, e, k => execT C K N a (marked D e) k
  | .trim D a, e, k => execT C K N a e fun x e1 => k x (marked D e1)
  | .bad, _, _ => none
def runFnT (C : CK X) (N : Nat) (af : AFn X) (args : List (AV X)) (k : Ret X → Option (Ret X)) : Option (Ret X) :=
  if args.length = af.np then execT C af.keep N af.body (entry args) (endK af k) else none
end

section
variable {P : Program} {Γ : Cx}
def exOf : AExit → Exit
  | .normal => .normal
  | .exit id => .exit id
  | .ret => .ret
section
variable {K : List Nat} {N : Slots} {F0 B U : Nat → Prop} {w0 : World} {F : Nat → Prop} {S : Nat → List Nat} {e : Env Γ.X} {a : Act} {w : World} {C : CK Γ.X} {r : Ret Γ.X}

/-- What is known of regions that draw their order. -/
def DrawSound (P : Program) (Γ : Cx) (C : CK Γ.X) : Prop := ∀ {N : Slots} {F0 B : Nat → Prop} {w0 : World} {e : Env Γ.X} {a : Act} {w : World} {r : Ret Γ.X} {K : List Nat} {n : Nat} {lent : List Nat} (_ : N.fits n lent) {ops : Array Oper} {al : List (AOpr Γ.X)}
  (_ : allO (compOper P Γ K n lent ops) ops.toList = some al) (_ : aheadOk ops = true) {k : Env Γ.X → Option (Ret Γ.X)} (_ : Sim N F0 B (· < 1) w0 e a w) (_ : drawK C 1 al (masks ops.toList) [] e k = some r) {Q : Exit → Act → World → Prop}
  (_ : ∀ g e1 a' w', Sim N F0 B (· < g) w0 e1 a' w' → k e1 = some r → Q .normal a' w'), wpAny P .any ops Q ops.size (Array.replicate ops.size false) a w

theorem Sim.drew (h : Sim N F0 B U w0 e a w) : Sim N F0 B U w0 e a { w with drawn := w.drawn + 1 } := by
  obtain ⟨F, S, h⟩ := h
  exact ⟨F, S, h.world (w' := { w with drawn := w.drawn + 1 }) (F' := F) (fun _ h => h) (fun _ _ => rfl) (fun _ _ _ => rfl) ⟨rfl, rfl, rfl, Nat.le_refl _, fun _ _ _ => rfl⟩ fun _ hb => .inl hb⟩

theorem Sim.markIt (hX : TabOk Γ.X) {M : Marks} {i : Nat} {ac : ACode Γ.X} {Nf : Nat} {k : Kon Γ.X} (h : Sim N F0 B (· < 1) w0 e a w) (hr : execT C K Nf (Go.A2.markIt Γ M i ac) e k = some r) : ∃ e', Sim N F0 B (· < 1) w0 e' a w ∧ execT C K Nf ac e' k = some r := by
  unfold Go.A2.markIt at hr
  split at hr
  · rename_i D _
    exact ⟨_, h.marked hX D, hr⟩
  · exact ⟨e, h, hr⟩
/-- What trimming leaves behind is as good. -/
theorem trimIt_run (hX : TabOk Γ.X) {M : Marks} {i : Nat} {ac : ACode Γ.X} {Nf : Nat} {k : Kon Γ.X} (hr : execT C K Nf (Go.A2.trimIt Γ M i ac) e k = some r) :
    ∃ k', execT C K Nf ac e k' = some r ∧ ∀ {N : Slots} {F0 B : Nat → Prop} {w0 : World} {Q : Exit → Act → World → Prop}, (∀ x e1 a' w', Sim N F0 B (· < 1) w0 e1 a' w' → k x e1 = some r → Q (exOf x) a' w') → ∀ x e1 a' w', Sim N F0 B (· < 1) w0 e1 a' w' → k' x e1 = some r → Q (exOf x) a' w' := by
  unfold Go.A2.trimIt at hr
  split at hr
  · rename_i D _
    exact ⟨_, hr, fun hQ x e1 a' w' h hk => hQ x _ a' w' (h.marked hX D) hk⟩
  · exact ⟨k, hr, fun hQ => hQ⟩

/-- A run of code. -/
theorem Sim.exec (hm : P.follows .mixedOrders = true) (hX : TabOk Γ.X) (hC : CSound P C) (hD : DrawSound P Γ C) (Nf : Nat) {M : Marks} {n : Nat} {lent : List Nat} (hN : N.fits n lent) : ∀ (c : Code) {i j : Nat} {ac : ACode Γ.X} (_ : compCode P Γ M K n lent i c = some (ac, j)) {e : Env Γ.X} {a : Act} {w : World} {k : Kon Γ.X}
    (_ : Sim N F0 B (· < 1) w0 e a w) (_ : execT C K Nf ac e k = some r) {Q : Exit → Act → World → Prop} (_ : ∀ x e1 a' w', Sim N F0 B (· < 1) w0 e1 a' w' → k x e1 = some r → Q (exOf x) a' w'), c.wp P Q a w := by
  intro c
  induction c with
  | skip =>
    intro i j ac hco e a w k h hr Q hQ
    simp only [compCode, Option.some.injEq, Prod.mk.injEq] at hco
    obtain ⟨rfl, _⟩ := hco
    exact wp_skip (hQ .normal _ _ _ h hr)
  | region id ops draw =>
    intro i j ac hco e a w k h hr Q hQ
    cases draw with
    | true =>
      simp only [compCode] at hco
      split at hco
      · rename_i al hal
        split at hco
        · rename_i hok
          simp only [Option.some.injEq, Prod.mk.injEq] at hco
          obtain ⟨rfl, _⟩ := hco
          exact wp_region_any hm (hD hN hal hok h.drew hr fun g e1 a' w' h' hk => hQ .normal _ _ _ (h'.restrict K) hk)
        · cases hco
      · cases hco
    | false =>
      simp only [compCode] at hco
      split at hco
      · rename_i al hal
        simp only [Option.some.injEq, Prod.mk.injEq] at hco
        obtain ⟨rfl, _⟩ := hco
        exact wp_region_list (h.runK hX hC hN hal hr fun g e1 a' w' h' hk => hQ .normal _ _ _ (h'.restrict K) hk)
      · cases hco
  | seq c1 c2 ih1 ih2 =>
    intro i j ac hco e a w k h hr Q hQ
    simp only [compCode] at hco
    split at hco
    · rename_i a1 j1 h1
      split at hco
      · rename_i a2 j2 h2
        simp only [Option.some.injEq, Prod.mk.injEq] at hco
        obtain ⟨rfl, _⟩ := hco
        refine wp_seq (ih1 h1 h hr fun x e1 a' w' h' hk => ?_)
        cases x with
        | normal =>
          obtain ⟨e2, h3, h4⟩ := h'.markIt hX hk
          obtain ⟨k2, h5, h6⟩ := trimIt_run hX h4
          exact ih2 h2 h3 h5 (h6 hQ)
        | exit id => exact hQ (.exit id) _ _ _ h' hk
        | ret => exact hQ .ret _ _ _ h' hk
      · cases hco
    · cases hco
  | cond c c1 c2 ih1 ih2 =>
    intro i j ac hco e a w k h hr Q hQ
    simp only [compCode] at hco
    split at hco
    · rename_i xc a1 j1 hc h1
      split at hco
      · rename_i a2 j2 h2
        simp only [Option.some.injEq, Prod.mk.injEq] at hco
        obtain ⟨rfl, _⟩ := hco
        obtain ⟨F, S, h0⟩ := h
        simp only [execT] at hr
        split at hr
        · rename_i b ov hb
          have hv := h0.rdBool hX hc hb
          rcases cond_some hr with ⟨hz, h'⟩ | ⟨hz, h'⟩
          · subst hz
            rw [setB_self hb] at h'
            exact wp_cond_true hv (ih1 h1 ⟨F, S, h0⟩ h' hQ)
          · subst hz
            rw [setB_self hb] at h'
            exact wp_cond_false hv (ih2 h2 ⟨F, S, h0⟩ h' hQ)
        · cases hr
      · cases hco
    · cases hco
  | block id c ih =>
    intro i j ac hco e a w k h hr Q hQ
    simp only [compCode] at hco
    split at hco
    · rename_i a1 j1 h1
      simp only [Option.some.injEq, Prod.mk.injEq] at hco
      obtain ⟨rfl, _⟩ := hco
      refine wp_block (ih h1 h hr fun x e1 a' w' h' hk => ?_)
      cases x with
      | normal => exact hQ .normal _ _ _ h' hk
      | exit jj =>
        simp only [] at hk
        split at hk
        · rename_i hj
          simp only [exOf, Exit.inBlock, hj, if_true]; exact hQ .normal _ _ _ h' hk
        · rename_i hj
          simp only [exOf, Exit.inBlock, hj, if_false]; exact hQ (.exit jj) _ _ _ h' hk
      | ret => exact hQ .ret _ _ _ h' hk
    · cases hco
  | loop c ih =>
    intro i j ac hco e a w k h hr Q hQ
    simp only [compCode] at hco
    split at hco
    · rename_i a1 j1 h1
      simp only [Option.some.injEq, Prod.mk.injEq] at hco
      obtain ⟨rfl, _⟩ := hco
      obtain ⟨e2, h3, h4'⟩ := h.markIt hX hr
      obtain ⟨k, h4, h6⟩ := trimIt_run hX h4'
      have hQ := h6 hQ
      simp only [execT] at h4
      have key : ∀ m e a w, Sim N F0 B (· < 1) w0 e a w → iterK (execT C K Nf (Go.A2.markIt Γ M (i + 2) a1)) m e k = some r → Code.rounds P c Q m a w := by
        intro m
        induction m with
        | zero => intro e a w _ hi; simp [iterK] at hi
        | succ m ihm =>
          intro e a w h hi
          simp only [iterK] at hi
          show c.wp P (Exit.then (Code.rounds P c Q m) Q) a w
          obtain ⟨e3, h7, h8⟩ := h.markIt hX hi
          refine ih h1 h7 h8 fun x e1 a' w' h' hk => ?_
          cases x with
          | normal => exact ihm e1 a' w' h' hk
          | exit jj => exact hQ (.exit jj) _ _ _ h' hk
          | ret => exact hQ .ret _ _ _ h' hk
      exact wp_loop_rounds Nf (key Nf e2 a w h3 h4)
    · cases hco
  | exit id =>
    intro i j ac hco e a w k h hr Q hQ
    simp only [compCode, Option.some.injEq, Prod.mk.injEq] at hco
    obtain ⟨rfl, _⟩ := hco
    exact wp_exit (hQ (.exit id) _ _ _ h hr)
  | ret =>
    intro i j ac hco e a w k h hr Q hQ
    simp only [compCode, Option.some.injEq, Prod.mk.injEq] at hco
    obtain ⟨rfl, _⟩ := hco
    exact wp_ret (hQ .ret _ _ _ h hr)
  | _ =>
    intro i j ac hco e a w k h hr Q hQ
    simp only [compCode, Option.some.injEq, Prod.mk.injEq] at hco
    obtain ⟨rfl, _⟩ := hco
    simp [execT] at hr
end
end
end Go.A2
