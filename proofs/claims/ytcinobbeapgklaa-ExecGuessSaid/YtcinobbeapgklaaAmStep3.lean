/- YtcinobbeapgklaaAmStep3: all operations in one. No statement of the seat is proved here. -/
import Derived.Test.YtcinobbeapgklaaAmStep2
namespace Go.AM
open Go.RowKit (Below)

section
variable {P : Program} {K : List Nat} {F0 : Nat → Prop} {B n : Nat} {w0 : World} {F : Nat → Prop} {S : Nat → List Nat} {e : Env} {a : Act} {w : World} {C : Nat → List AV → Option AV}

theorem VRepL.take1 {xs : List AV} {vs : List Value} {T : List Nat} (h : VRepL w F xs vs T) : ∀ {i : Nat} {x : AV}, xs[i]? = some x →
    ∃ v T1 T2 T3, vs[i]? = some v ∧ T = T1 ++ (T2 ++ T3) ∧ VRep w F x v T2 ∧ VRepL w F (xs.set i .undef) vs (T1 ++ T3) := by
  induction h with
  | nil => intro i x hx; simp at hx
  | @cons x0 v0 S0 xs vs S' h t ih =>
    intro i x hx
    cases i with
    | zero => simp at hx; subst hx; exact ⟨v0, [], S0, S', rfl, rfl, h, .cons (S := []) .undef t⟩
    | succ i =>
      obtain ⟨v, T1, T2, T3, h1, h2, h3, h4⟩ := ih (by simpa using hx)
      refine ⟨v, S0 ++ T1, T2, T3, by simpa using h1, by rw [h2, List.append_assoc], h3, ?_⟩
      rw [List.append_assoc]
      exact .cons h h4

theorem EnvRel.step_extract (h : EnvRel K F0 B n w0 F S e a w) {o : Oper} {X : Operand} {x : AX} {i : Nat} (ho : o.op = .extract X i) (hx : compX K X = some x) {solo : Bool} {e' : Env}
    (hs : stepOp C solo e o.dst (.extract x i) = some e') (hd : ∀ k, o.dst = some k → k < n)
    {next : Act → World → Prop} {Q : Exit → Act → World → Prop} (hnext : ∀ a' w', Sim K F0 B n w0 e' a' w' → next a' w') : o.wp P a w next Q := by
  simp only [stepOp] at hs
  cases x with
  | t s =>
    simp only [] at hs
    have hX := compX_slot (.inl hx)
    subst hX
    cases hes : e s with
    | tup vs =>
      simp only [hes] at hs
      split at hs
      · rename_i v hv
        have hr := h.rep s
        rw [hes] at hr
        have hev : a.eval (.tmp s) = a.tmps.getD s Go.undef := rfl
        have hnd := h.nodup s
        have hown := h.own s
        have hap := h.apart s
        generalize hu : a.tmps.getD s Go.undef = u at hr
        generalize hS : S s = T at hr hnd hown hap
        cases hr with
        | val h0 => cases h0 with
          | val h0 => cases h0 with
            | cell h0 => cases h0 with
              | pure h0 hc => simp [isCell] at hc
          | @tup xs us T hl =>
            obtain ⟨q, T1, T2, T3, h1, h2, h3, h4⟩ := hl.take1 hv
            have hrun : (execOp a.eval o).run P w = .ok (.value q) w := by
              simp only [execOp, ho, Instr.extract, hev, hu]
              simp [h1]
            unfold Oper.wp
            rw [hrun]
            show next (a.put o.dst q) w
            split at hs
            · rename_i hp
              obtain ⟨S2, h5⟩ := h.putN hd (Hand.of_pure (h3.pure hp).1.srep) hs
              exact hnext _ _ ⟨F, S2, h5⟩
            · split at hs
              · rename_i hcond
                subst h2
                rw [List.nodup_append] at hnd
                obtain ⟨n1, n2, n3⟩ := hnd
                rw [List.nodup_append] at n2
                have hnr : NoRef e s := h.noRef (by rw [hes]; rfl)
                have hfg := h.forget s hnr
                have hre := hfg.reval (d := s) (hfg.noRef (by rw [upd_same]; rfl)) (x := .tup (vs.set i .undef)) (T := T1 ++ T3) ⟨by rw [hu]; exact .val (.tup h4), ?_, ?_, ?_⟩ rfl
                rw [updS_updS, upd_upd] at hre
                · have hh : Hand K B F (updS S s (T1 ++ T3)) (upd e s (.tup (vs.set i .undef))) a w v q T2 := by
                    refine ⟨.val (.val h3), n2.1, fun b hb => hown b (by simp [hb]), fun b hb t ht => ?_⟩
                    by_cases hts : t = s
                    · subst hts
                      rw [updS_same] at ht
                      rcases List.mem_append.1 ht with ht | ht
                      · exact n3 b ht b (by simp [hb]) rfl
                      · exact n2.2.2 b hb b ht rfl
                    · rw [updS_ne S _ hts] at ht
                      exact hap t b (Ne.symm hts) (by simp [hb]) ht
                  obtain ⟨S2, h5⟩ := hre.putN hd hh hs
                  exact hnext _ _ ⟨F, S2, h5⟩
                · exact List.nodup_append.2 ⟨n1, n2.2.1, fun x hx y hy he => n3 x hx y (by simp [hy]) he⟩
                · intro b hb
                  exact hown b (by rcases List.mem_append.1 hb with hb | hb <;> simp [hb])
                · intro b hb t ht
                  by_cases hts : t = s
                  · subst hts; rw [updS_same] at ht; cases ht
                  · rw [updS_ne S _ hts] at ht
                    exact hap t b (Ne.symm hts) (by rcases List.mem_append.1 hb with hb | hb <;> simp [hb]) ht
              · cases hs
      · cases hs
    | _ => simp [hes] at hs
  | v s => simp at hs
  | c y => simp at hs


theorem callFunc_run {f : Nat} {fn : Func} {args : Array Value} (hf : P.funcs[f]? = some fn) (hb : fn.body.isSome = true) (hn : (fn.name == "runtime.NumGoroutine") = false) : (callFunc f args).run P w = .ok (.enter f args) w := by
  have hb' : fn.body.isNone = false := by cases hbb : fn.body <;> simp [hbb] at hb ⊢
  unfold callFunc
  simp only [Sem.run_bind, run_program, Result.andThen_ok, hf, hn, hb', Bool.false_eq_true, if_false]
  rfl

theorem EnvRel.step_call (hC : Sound P C) (h : EnvRel K F0 B n w0 F S e a w) {o : Oper} {c : Call} {f : Nat} {xs : List AX} (ho : o.op = .call c) (hc : c.callee = .value (.func f)) (hx : mapO (compX K) c.args.toList = some xs) {solo : Bool} {e' : Env}
    (hs : stepOp C solo e o.dst (.call f xs) = some e') (hd : ∀ k, o.dst = some k → k < n)
    {next : Act → World → Prop} {Q : Exit → Act → World → Prop} (hnext : ∀ a' w', Sim K F0 B n w0 e' a' w' → next a' w') : o.wp P a w next Q := by
  simp only [stepOp] at hs
  split at hs
  · rename_i l hl
    split at hs
    · rename_i r hr
      obtain ⟨F1, S1, h1, hL⟩ := h.fzs xs
      have hsp := hC f l r hr
      obtain ⟨fn, hfn, hb, hn⟩ := hsp.1
      have hrun : (execOp a.eval o).run P w = .ok (.enter f (c.args.map a.eval)) w := by
        simp only [execOp, ho, resolve, hc, Act.eval, Deferred.ofValue]
        simp [invoke, callFunc_run hfn hb hn]
      unfold Oper.wp
      rw [hrun]
      have hcall := h1.call (P := P) (caps := []) (cvs := []) (solo := solo) (d := o.dst) (e' := e') (next := next) (Q := Q) hx hl rfl (by simp) (by simpa using hsp) hs hd hnext
      have hargs : (c.args.toList.map a.eval ++ []).toArray = c.args.map a.eval := by rw [← Array.toList_inj]; simp
      rw [hargs] at hcall
      exact hcall
    · cases hs
  · cases hs

theorem EnvRel.step_callv (hC : Sound P C) (h : EnvRel K F0 B n w0 F S e a w) {o : Oper} {c : Call} {X : Operand} {x : AX} {xs : List AX} (ho : o.op = .call c) (hc : c.callee = .value X) (hX : compX K X = some x) (hx : mapO (compX K) c.args.toList = some xs) {solo : Bool} {e' : Env}
    (hs : stepOp C solo e o.dst (.callv x xs) = some e') (hd : ∀ k, o.dst = some k → k < n)
    {next : Act → World → Prop} {Q : Exit → Act → World → Prop} (hnext : ∀ a' w', Sim K F0 B n w0 e' a' w' → next a' w') : o.wp P a w next Q := by
  simp only [stepOp] at hs
  split at hs
  · rename_i f caps l hfx hl
    split at hs
    · rename_i r hr
      obtain ⟨F1, S1, h1, hL⟩ := h.fzs xs
      have hsp := hC f (l ++ caps) r hr
      obtain ⟨fn, hfn, hb, hn⟩ := hsp.1
      have hp := h1.rdCell hX hfx rfl
      generalize hu : a.eval X = u at hp
      cases hp with
      | fn f caps vs hl' hcc hcv =>
        have hrun : (execOp a.eval o).run P w = .ok (.enter f (c.args.map a.eval ++ vs.toArray)) w := by
          simp only [execOp, ho, resolve, hc, hu, Deferred.ofValue]
          simp [invoke, callFunc_run hfn hb hn]
        unfold Oper.wp
        rw [hrun]
        have hcall := h1.call (P := P) (caps := caps) (cvs := vs) (solo := solo) (d := o.dst) (e' := e') (next := next) (Q := Q) hx hl hl' hcv hsp hs hd hnext
        have hargs : (c.args.toList.map a.eval ++ vs).toArray = c.args.map a.eval ++ vs.toArray := by rw [← Array.toList_inj]; simp
        rw [hargs] at hcall
        exact hcall
    · cases hs
  · cases hs

def isLook : AOp → Bool
  | .pick .. | .load1 _ | .loadN _ _ | .addOff _ _ | .idxA _ _ _ _ | .idxS _ _ _ | .idxStr _ _ | .part1 _ _ | .partN _ _ _ | .bin _ _ _ | .eqB _ _ _ | .un _ _ | .conv _ _ | .mm _ _ | .lenS _ | .lenStr _ => true
  | _ => false
theorem stepOp_look {ao : AOp} {solo : Bool} {d : Option Nat} (h : isLook ao = true) :
    Go.AM.stepOp C solo e d ao = match val (fzs e ao.xs) ao with | some v => put solo (fzs e ao.xs) d v | none => none := by
  cases ao <;> first | rfl | simp [isLook] at h

/-- One operation: what the abstract machine makes of it stands for what the model makes of it. -/
theorem EnvRel.stepOp (hC : Sound P C) (h : EnvRel K F0 B n w0 F S e a w) {o : Oper} {ao : AOp} (hco : compOp P K o.op = some ao) {solo : Bool} {e' : Env}
    (hs : Go.AM.stepOp C solo e o.dst ao = some e') (hd : ∀ k, o.dst = some k → k < n) (hst : (∃ t x v, o.op = .store t x v) → o.dst = none)
    {next : Act → World → Prop} {Q : Exit → Act → World → Prop} (hnext : ∀ a' w', Sim K F0 B n w0 e' a' w' → next a' w') : o.wp P a w next Q := by
  have look : isLook ao = true →
      (∀ {F S e}, EnvRel K F0 B n w0 F S e a w → ∀ z, val e ao = some z → Looks K P e a w F o z) → o.wp P a w next Q := fun hk hl => by
    rw [stepOp_look hk] at hs
    exact h.step_look hl hs hd hnext
  cases ho : o.op with
  | move X =>
    rw [ho] at hco
    simp only [compOp] at hco
    cases hx : compX K X with
    | none => simp [hx] at hco
    | some x => simp [hx] at hco; subst hco; exact h.step_move (C := C) (.inl ho) hx (by simpa only [Go.AM.stepOp] using hs) hd hnext
  | assign X =>
    rw [ho] at hco
    simp only [compOp] at hco
    cases hx : compX K X with
    | none => simp [hx] at hco
    | some x => simp [hx] at hco; subst hco; exact h.step_move (C := C) (.inr ho) hx (by simpa only [Go.AM.stepOp] using hs) hd hnext
  | pick c x y =>
    refine look ?_ fun h z hz => h.look_pick ho hco hz
    rw [ho] at hco
    simp only [compOp] at hco
    split at hco
    · simp only [Option.some.injEq] at hco; subst hco; rfl
    · cases hco
  | alloc t =>
    rw [ho] at hco
    simp only [compOp] at hco
    cases hz : zeroOf P t with
    | none => simp [hz] at hco
    | some z => simp [hz] at hco; subst hco; exact h.step_alloc ho hz hs hd hnext
  | box t X =>
    rw [ho] at hco
    simp only [compOp] at hco
    cases hx : compX K X with
    | none => simp [hx] at hco
    | some x => simp [hx] at hco; subst hco; exact h.step_box ho hx hs hd hnext
  | build t qs =>
    rw [ho] at hco
    simp only [compOp] at hco
    split at hco
    · rename_i z place hz hp
      cases hm : mapO (partX place K) qs.toList with
      | none => rw [hm] at hco; simp at hco
      | some parts => rw [hm] at hco; simp at hco; subst hco; exact h.step_build ho hz hp hm hs hd hnext
    · cases hco
  | load t X =>
    rw [ho] at hco
    simp only [compOp] at hco
    split at hco
    · rename_i m x h1 h2 h3
      simp only [Option.some.injEq] at hco; subst hco
      exact look rfl fun h z hz => h.look_loadN ho h1 h2 h3 hz
    · rename_i q x h1 h3
      simp only [Option.some.injEq] at hco; subst hco
      exact look rfl fun h z hz => h.look_load1 ho h1 h3 hz
    · cases hco
  | store t X V =>
    rw [ho] at hco
    simp only [compOp] at hco
    split at hco
    · rename_i m x v h1 h2 h3
      simp only [Option.some.injEq] at hco; subst hco
      exact h.step_store ho h1 h2 h3 hs (hst ⟨t, X, V, ho⟩) hnext
    · cases hco
  | fieldAddr t X i =>
    rw [ho] at hco
    simp only [compOp] at hco
    split at hco
    · rename_i fs x h1 h2
      split at hco
      · rename_i f hf
        split at hco
        · rename_i m hm
          simp only [Option.some.injEq] at hco; subst hco
          exact look rfl fun h z hz => h.look_addOff ho h1 hf hm h2 hz
        · cases hco
      · cases hco
    · cases hco
  | indexAddr t X I =>
    rw [ho] at hco
    simp only [compOp] at hco
    split at hco
    · rename_i len el x i h1 h2 h3
      cases hm : sizeO P el with
      | none => simp [hm] at hco
      | some m =>
        simp [hm] at hco; subst hco
        exact look rfl fun h z hz => h.look_idxA ho h1 hm h2 h3 hz
    · rename_i el x i h1 h2 h3
      cases hm : sizeO P el with
      | none => simp [hm] at hco
      | some m =>
        simp [hm] at hco; subst hco
        exact look rfl fun h z hz => h.look_idxS ho h1 hm h2 h3 hz
    · cases hco
  | index t X I =>
    rw [ho] at hco
    simp only [compOp] at hco
    split at hco
    · rename_i x i h1 h2 h3
      simp only [Option.some.injEq] at hco; subst hco
      exact look rfl fun h z hz => h.look_idxStr ho h1 h2 h3 hz
    · cases hco
  | field t X i =>
    rw [ho] at hco
    simp only [compOp] at hco
    split at hco
    · rename_i fs x h1 h2
      split at hco
      · rename_i f hf
        split at hco
        · rename_i m h3 h4
          simp only [Option.some.injEq] at hco; subst hco
          exact look rfl fun h z hz => h.look_partN ho h1 hf h3 h4 h2 hz
        · rename_i q h3
          simp only [Option.some.injEq] at hco; subst hco
          exact look rfl fun h z hz => h.look_part1 ho h1 hf h3 h2 hz
        · cases hco
      · cases hco
    · cases hco
  | binOp q t X Y u =>
    rw [ho] at hco
    simp only [compOp] at hco
    split at hco
    · rename_i x y h1 h2
      split at hco
      · rename_i hb
        split at hco
        · simp only [Option.some.injEq] at hco; subst hco
          exact look rfl fun h z hz => h.look_eqB (neg := false) ho hb h1 h2 hz
        · simp only [Option.some.injEq] at hco; subst hco
          exact look rfl fun h z hz => h.look_eqB (neg := true) ho hb h1 h2 hz
        · cases hco
      · split at hco
        · simp only [Option.some.injEq] at hco; subst hco
          exact look rfl fun h z hz => h.look_bin ho h1 h2 hz
        · cases hco
    · cases hco
  | unOp q t X =>
    rw [ho] at hco
    simp only [compOp] at hco
    cases hx : compX K X with
    | none => simp [hx] at hco
    | some x => simp [hx] at hco; subst hco; exact look rfl fun h z hz => h.look_un ho hx hz
  | convert s d X =>
    rw [ho] at hco
    simp only [compOp] at hco
    split at hco
    · rename_i k0 k x h1 h2 h3
      simp only [Option.some.injEq] at hco; subst hco
      exact look rfl fun h z hz => h.look_conv ho h1 h2 h3 hz
    · cases hco
  | extract X i =>
    rw [ho] at hco
    simp only [compOp] at hco
    cases hx : compX K X with
    | none => simp [hx] at hco
    | some x => simp [hx] at hco; subst hco; exact h.step_extract ho hx hs hd hnext
  | call c =>
    rw [ho] at hco
    simp only [compOp] at hco
    split at hco
    · rename_i args hargs
      split at hco
      · rename_i f hc
        simp only [Option.some.injEq] at hco; subst hco
        exact h.step_call hC ho hc hargs hs hd hnext
      · rename_i X hne hc
        cases hX : compX K X with
        | none => simp [hX] at hco
        | some x => simp [hX] at hco; subst hco; exact h.step_callv hC ho hc hX hargs hs hd hnext
      · rename_i hc
        simp only [Option.some.injEq] at hco; subst hco
        exact look rfl fun h z hz => h.look_mm (isMax := true) ho hc hargs hz
      · rename_i hc
        simp only [Option.some.injEq] at hco; subst hco
        exact look rfl fun h z hz => h.look_mm (isMax := false) ho hc hargs hz
      · rename_i hc
        split at hco
        · rename_i t x hty
          have hl := mapO_length hargs
          cases hcl : c.args.toList with
          | nil => simp [hcl] at hl
          | cons X l =>
            cases l with
            | cons => simp [hcl] at hl
            | nil =>
              rw [hcl] at hargs
              have hX : compX K X = some x := by
                simp only [mapO] at hargs
                split at hargs
                · rename_i y ys h1 h2
                  simp only [Option.some.injEq, List.cons.injEq] at hargs
                  rw [← hargs.1]; exact h1
                · cases hargs
              split at hco
              · rename_i ht
                simp only [Option.some.injEq] at hco; subst hco
                exact look rfl fun h z hz => h.look_lenStr ho hc hcl hty ht hX hz
              · rename_i el ht
                simp only [Option.some.injEq] at hco; subst hco
                exact look rfl fun h z hz => h.look_lenS ho hc hcl hty ht hX hz
              · cases hco
        · cases hco
      · cases hco
    · cases hco
  | _ => rw [ho] at hco; simp [compOp] at hco

end
end Go.AM
