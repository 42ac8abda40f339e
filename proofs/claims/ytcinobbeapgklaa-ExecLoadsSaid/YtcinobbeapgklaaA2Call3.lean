/- YtcinobbeapgklaaA2Call3: calls. No statement of the seat is proved here. -/
import Derived.Test.YtcinobbeapgklaaA2Call2
namespace Go.A2
section
variable {P : Program} {Γ : Cx}
section
variable {K : List Nat} {N : Slots} {F0 B U : Nat → Prop} {w0 : World} {F : Nat → Prop} {S : Nat → List Nat} {e : Env Γ.X} {a : Act} {w : World}

theorem FRep.flatO (hX : TabOk Γ.X) {w : World} {F F' : Nat → Prop} {x : AV Γ.X} {u : Value} {S : List Nat} (h : FRep w F x u S) (hf : Go.A2.flatO x = true) : FRep w F' x u S := by
  cases h with
  | u h => cases h with
    | undef => exact .u (.undef _)
    | val => cases hf
    | rptr => cases hf
  | tup => cases hf
  | fn => cases hf
  | box g T v o b cells ty S hg hv => exact .box g T v o b cells ty S hg (hv.flatF hX hf)

theorem EnvRel.argAny (hX : TabOk Γ.X) (h : EnvRel N F0 B U w0 F S e a w) {v : AV Γ.X} {A : Arg Γ.X} (hA : Go.A2.argV e v = some A ∨ Go.A2.capArg e v = some A) {u : Value} {R : List Nat} (hr : SRep e a w F v u R) {F1 G : Nat → Prop} {S1 : Nat → List Nat} {e1 : Env Γ.X} (h1 : EnvRel N F0 B U w0 F1 S1 e1 a w)
    (hFG : ∀ b, F b → G b) (hF1G : ∀ b, F1 b → G b) (hcap : ∀ s ∈ A.caps, ∀ b ∈ S s, G b) (hback : ∀ s, A.back = some s → e1 s = e s) (hroot : ∀ r ∈ A.roots, ∀ b t l u, Place e a w r.1 r.2 b t l u → PRep w G (.slice b t) l [u]) :
    FRep w G A.a u (match A.back with | some s => S1 s | none => []) ∧ (∀ s, A.back = some s → u = a.tmps.getD s Go.undef) ∧ (∀ r ∈ A.roots, ∃ b t l u, Place e a w r.1 r.2 b t l u) := by
  rcases hA with hA | hA
  · exact h.argV hX hA hr h1 hFG hF1G hcap hback hroot
  · obtain ⟨k1, k2, k3⟩ := h.capArg hX hA hr hFG hcap
    rw [k2, k3]
    exact ⟨k1, by simp, by simp⟩

/-- A call, and what stands behind it. -/
theorem EnvRel.enter (hX : TabOk Γ.X) (h : EnvRel N F0 B U w0 F S e a w) {g : Nat} (hg : ¬ U g) {d : Option Nat} (hd : ∀ k, d = some k → N.ok k) {f : Nat} {as : List (Arg Γ.X)} {vals : List Value} (hlen : vals.length = as.length)
    (hin : ∀ (i : Nat) A u, as[i]? = some A → vals[i]? = some u → ∃ y R, (Go.A2.argV e y = some A ∨ Go.A2.capArg e y = some A) ∧ SRep e a w F y u R) {r : Ret Γ.X} (hsp : Spec P f (as.map (·.a)) r) {us : Ups Γ.X} (haf : afterCall e g as d r = some us)
    {next : Act → World → Prop} {Q : Exit → Act → World → Prop} (hnext : ∀ a' w', Sim N F0 B (withG U g) w0 (applyU e us) a' w' → next a' w') :
    Calls P f vals.toArray w fun
      | .returned v, w'' => next (a.put d v) w''
      | .panicked chain, w'' => Q (.panic chain) a w''
      | .outgrown, _ => LetsOut Q := by
  unfold afterCall at haf
  simp only [] at haf
  split at haf
  · rename_i hcond
    simp only [Bool.and_eq_true] at hcond
    obtain ⟨⟨⟨c1, c2⟩, c3⟩, _⟩ := hcond
    have nd := nodupB_iff c1
    have ne : ∀ {x y : Nat}, (!(x == y)) = true → x ≠ y := fun {x y} hh he => by subst he; simp at hh
    have hroots : ∀ (i : Nat) A r (j : Nat) A' s, as[i]? = some A → r ∈ A.roots → as[j]? = some A' → A'.back = some s → r.1 ≠ s := fun i A r j A' s h1 h2 h3 h4 =>
      ne (List.all_eq_true.1 (List.all_eq_true.1 c2 r (List.mem_flatMap.2 ⟨A, List.mem_of_getElem? h1, h2⟩)) s (List.mem_filterMap.2 ⟨A', List.mem_of_getElem? h3, h4⟩))
    have hcaps : ∀ (i : Nat) A q (j : Nat) A' s, as[i]? = some A → q ∈ A.caps → as[j]? = some A' → A'.back = some s → q ≠ s := fun i A r j A' s h1 h2 h3 h4 =>
      ne (List.all_eq_true.1 (List.all_eq_true.1 c3 r (List.mem_flatMap.2 ⟨A, List.mem_of_getElem? h1, h2⟩)) s (List.mem_filterMap.2 ⟨A', List.mem_of_getElem? h3, h4⟩))
    -- all that the arguments may lead to
    let G : Nat → Prop := fun b => F b ∨ ∃ s, (∀ (i : Nat) A, as[i]? = some A → A.back ≠ some s) ∧ b ∈ S s
    have hplG : ∀ {s : Nat} {q : List PS} {b : Nat} {t : Γ.X.Ty} {l : Sl b (Γ.X.den t)} {u : Value}, (∀ (i : Nat) A, as[i]? = some A → A.back ≠ some s) → Place e a w s q b t l u → PRep w G (.slice b t) l [u] := fun {s q b t l u} hn hp => by
      obtain ⟨T, v, o, p1, p2, p3, p4, p5⟩ := hp
      obtain ⟨cx, Sx, k1, k2, k3⟩ := h.place hX p1 (tyQ_of_getQ p2 p3) p3
      have hl := k1.length hX
      simp only [Tab.sz] at hl
      cases cx with
      | nil => simp at hl
      | cons c cx => cases cx with
        | cons => simp at hl
        | nil =>
          have := k3 c rfl
          rw [p4] at this; cases this
          exact k1.freeze (fun b hb => .inl hb) (fun b hb => .inr ⟨s, hn, k2 b hb⟩) p5
    have hflat : ∀ (i : Nat) A u, as[i]? = some A → vals[i]? = some u → FRep w G A.a u (ownArg as S i) ∧ (∀ s, A.back = some s → u = a.tmps.getD s Go.undef) ∧ (∀ r ∈ A.roots, ∃ b t l u, Place e a w r.1 r.2 b t l u) := fun i A u h1 h2 => by
      obtain ⟨y, R, hy, hr⟩ := hin i A u h1 h2
      have := h.argAny hX hy hr h (G := G) (fun b hb => .inl hb) (fun b hb => .inl hb) (fun s hs b hb => .inr ⟨s, fun j A' h3 h4 => hcaps i A s j A' s h1 hs h3 h4 rfl, hb⟩) (fun _ _ => rfl)
        fun r hr b t l u hp => hplG (fun j A' h3 h4 => hroots i A r j A' _ h1 hr h3 h4 rfl) hp
      unfold ownArg
      rw [h1]
      exact this
    have hval : ∀ (i : Nat) A u s, as[i]? = some A → vals[i]? = some u → A.back = some s → u = a.tmps.getD s Go.undef := fun i A u s h1 h2 h3 => (hflat i A u h1 h2).2.1 s h3
    -- whose blocks
    have hOwn : ∀ {S : Nat → List Nat} {i : Nat} {b : Nat}, b ∈ ownArg as S i → ∃ A s, as[i]? = some A ∧ A.back = some s ∧ b ∈ S s := fun {S i b} hb => by
      unfold ownArg at hb
      cases hai : as[i]? with
      | none => rw [hai] at hb; simp at hb
      | some A =>
        rw [hai] at hb
        cases hbk : A.back with
        | none => simp [hbk] at hb
        | some s => simp [hbk] at hb; exact ⟨A, s, rfl, hbk, hb⟩
    have hOwnN : ∀ {S : Nat → List Nat}, (∀ s, (S s).Nodup) → ∀ i, (ownArg as S i).Nodup := fun {S} hS i => by
      unfold ownArg
      split
      · exact hS _
      · exact List.nodup_nil
    have hargs : ∀ (i : Nat) x v, (as.map (·.a))[i]? = some x → vals[i]? = some v → ∃ A, as[i]? = some A ∧ x = A.a := fun i x v h1 _ => by
      rw [List.getElem?_map] at h1
      cases hai : as[i]? with
      | none => simp [hai] at h1
      | some A => simp [hai] at h1; exact ⟨A, rfl, h1.symm⟩
    split at haf
    · rename_i u1 u2 hu1 hu2
      simp only [Option.some.injEq] at haf; subst haf
      split at hu1
      · -- nothing of it leads to memory
        rename_i hfl
        simp only [Option.some.injEq] at hu1; subst hu1
        rw [Bool.and_eq_true] at hfl
        obtain ⟨fl1, fl2⟩ := hfl
        refine (hsp.2 w G vals (ownArg as S) (fun b hb => hb.elim (h.free b) fun ⟨s, _, hs⟩ => (h.own s b hs).2.1) (by simp [hlen]) (fun i x v hx hv => ?_) (hOwnN h.nodup) (fun i j b hij hbi hbj => ?_) (fun i b hb => ?_)).mono fun en w' hpost => ?_
        · obtain ⟨A, hA, rfl⟩ := hargs i x v hx hv
          exact (hflat i A v hA hv).1
        · obtain ⟨A, s, q1, q2, q3⟩ := hOwn hbi
          obtain ⟨A', s', r1, r2, r3⟩ := hOwn hbj
          by_cases hss : s = s'
          · subst hss; exact hij (back_inj nd q1 r1 q2 r2)
          · exact h.apart s s' b hss q3 r3
        · obtain ⟨A, s, q1, q2, q3⟩ := hOwn hb
          refine ⟨(h.own s b q3).2.1, fun hG => ?_⟩
          rcases hG with hG | ⟨s', hn, hs'⟩
          · exact (h.own s b q3).2.2 hG
          · exact h.apart s s' b (fun he => hn i A q1 (he ▸ q2)) q3 hs'
        · obtain ⟨v, F', R, So, rfl, hB, hx, hO, hRn, hSn, hSS, hSR, hown, hFF, hF'⟩ := hpost
          refine hnext _ _ ?_
          rw [List.nil_append]
          refine h.land hg hd nd hu2 (fun _ _ _ _ _ => rfl) hlen hval (F2 := F) hB (hx.flatF hX fl1) (fun i A s x v h1 h2 h3 h4 => (hO i x v h3 h4).flatO hX (List.all_eq_true.1 fl2 x (List.mem_of_getElem? h3))) hRn hSn hSS hSR (fun b hb => ?_) (fun _ hb => hb) fun b hb => ⟨.inl hb, Nat.lt_of_lt_of_le (h.free b hb) hB.size⟩
          obtain ⟨q1, q2, q3⟩ := hown b hb
          exact ⟨q1, q2, fun hf => q3 (hFF b (.inl hf))⟩
      · split at hu1
        · rename_i hce
          have hce : as.flatMap (·.caps) = [] := by simpa using hce
          obtain ⟨F1, S1, k1, k2, k3, k4⟩ := h.freezeAll hX hu1 fun r hr => by
            obtain ⟨A, hA, hrA⟩ := List.mem_flatMap.1 hr
            obtain ⟨i, hi, rfl⟩ := List.mem_iff_getElem.1 hA
            exact (hflat i _ (vals[i]'(by omega)) (List.getElem?_eq_getElem hi) (List.getElem?_eq_getElem (by omega))).2.2 r hrA
          have hbe : ∀ (i : Nat) A s, as[i]? = some A → A.back = some s → applyU e u1 s = e s := fun i A s h1 h2 => k3 s fun r hr => by
            obtain ⟨A', hA', hrA⟩ := List.mem_flatMap.1 hr
            obtain ⟨j, hj, rfl⟩ := List.mem_iff_getElem.1 hA'
            exact hroots j _ r i A s (List.getElem?_eq_getElem hj) hrA h1 h2
          have hfr : ∀ (i : Nat) A u, as[i]? = some A → vals[i]? = some u → FRep w F1 A.a u (ownArg as S1 i) := fun i A u h1 h2 => by
            obtain ⟨y, R, hy, hr⟩ := hin i A u h1 h2
            have := (h.argAny hX hy hr k1 (G := F1) k2.keeps (fun b hb => hb) (fun s hs b hb => by
                have : s ∈ as.flatMap (·.caps) := List.mem_flatMap.2 ⟨A, List.mem_of_getElem? h1, hs⟩
                rw [hce] at this; cases this) (fun s hs => hbe i A s h1 hs)
              fun r hr b t l u hp => k4 r (List.mem_flatMap.2 ⟨A, List.mem_of_getElem? h1, hr⟩) b t l u hp).1
            unfold ownArg
            rw [h1]
            exact this
          refine (hsp.2 w F1 vals (ownArg as S1) k1.free (by simp [hlen]) (fun i x v hx hv => ?_) (hOwnN k1.nodup) (fun i j b hij hbi hbj => ?_) (fun i b hb => ?_)).mono fun en w' hpost => ?_
          · obtain ⟨A, hA, rfl⟩ := hargs i x v hx hv
            exact hfr i A v hA hv
          · obtain ⟨A, s, q1, q2, q3⟩ := hOwn hbi
            obtain ⟨A', s', r1, r2, r3⟩ := hOwn hbj
            by_cases hss : s = s'
            · subst hss; exact hij (back_inj nd q1 r1 q2 r2)
            · exact k1.apart s s' b hss q3 r3
          · obtain ⟨A, s, q1, q2, q3⟩ := hOwn hb
            exact ⟨(k1.own s b q3).2.1, (k1.own s b q3).2.2⟩
          · obtain ⟨v, F', R, So, rfl, hB, hx, hO, hRn, hSn, hSS, hSR, hown, hFF, hF'⟩ := hpost
            refine hnext _ _ ?_
            rw [applyU_append]
            exact k1.land hg hd nd hu2 hbe hlen hval (F2 := F') hB hx (fun i A s x v h1 h2 h3 h4 => hO i x v h3 h4) hRn hSn hSS hSR hown hFF hF'
        · cases hu1
    · cases haf
  · cases haf

theorem callFunc_run {f : Nat} {fn : Func} {args : Array Value} (hf : P.funcs[f]? = some fn) (hb : fn.body.isSome = true) (hn : (fn.name == "runtime.NumGoroutine") = false) : (callFunc f args).run P w = .ok (.enter f args) w := by
  have hb' : fn.body.isNone = false := by cases hbb : fn.body <;> simp [hbb] at hb ⊢
  unfold callFunc
  simp only [Sem.run_bind, run_program, Result.andThen_ok, hf, hn, hb', Bool.false_eq_true, if_false]
  rfl

section steps
variable {T0 T1 T2 : Option Γ.X.Ty} {g : Nat} {o : Oper} {us : Ups Γ.X} {ans : Ret Γ.X} (hX : TabOk Γ.X) (h : EnvRel N F0 B U w0 F S e a w) (hg : ¬ U g) (hd : ∀ k, o.dst = some k → N.ok k)
variable {next : Act → World → Prop} {Q : Exit → Act → World → Prop} (hnext : ∀ a' w', Sim N F0 B (withG U g) w0 (applyU e us) a' w' → next a' w')
include hX h hg hd hnext

theorem step_call {c : Call} {f : Nat} {ts : List TypeId} {xs : List (AX Γ.X)} {as : List (Arg Γ.X)} (ho : o.op = .call c) (hc : c.callee = .value (.func f)) (hx : argsC Γ K ts c.args.toList = some xs) (has : callArgs e (.call f xs) = some (f, as))
    (hsp : Spec P f (as.map (·.a)) ans) (hs : eff ans g e o.dst (.call f xs) = some us) : o.wp P a w next Q := by
  simp only [eff, has] at hs
  obtain ⟨fn, hfn, hb, hn⟩ := hsp.1
  have hrun : (execOp a.eval o).run P w = .ok (.enter f (c.args.map a.eval)) w := by
    simp only [execOp, ho, resolve, hc, Act.eval, Deferred.ofValue]
    simp [invoke, callFunc_run hfn hb hn]
  unfold Oper.wp
  rw [hrun]
  obtain ⟨l1, l2⟩ := argsC_spec hx
  have has' : allO (argOf e) xs = some as := by
    simp only [callArgs] at has
    split at has
    · rename_i as' h1
      simp only [Option.some.injEq, Prod.mk.injEq, true_and] at has; subst has
      exact h1
    · cases has
  obtain ⟨n1, _⟩ := allO_spec has'
  have hargs : c.args.map a.eval = (c.args.toList.map a.eval).toArray := by rw [← Array.toList_inj]; simp
  rw [hargs]
  refine h.enter (P := P) hX hg hd (vals := c.args.toList.map a.eval) (by simp [n1, l1]) (fun i A u hA hu => ?_) hsp hs hnext
  obtain ⟨x, hxi, hax⟩ := allO_get' has' hA
  obtain ⟨T, Y, hY, hcx⟩ := l2 i x hxi
  rw [List.getElem?_map, hY] at hu
  simp at hu; subst hu
  obtain ⟨R, k1, _, _⟩ := h.rd hX hcx
  exact ⟨_, R, .inl hax, k1⟩

theorem step_callv {c : Call} {f : Nat} {Y : Operand} {y : AX Γ.X} {ts : List TypeId} {xs : List (AX Γ.X)} {as : List (Arg Γ.X)} (ho : o.op = .call c) (hc : c.callee = .value Y) (hY : compX Γ K T0 Y = some y) (hx : argsC Γ K ts c.args.toList = some xs) (has : callArgs e (.callv y xs) = some (f, as))
    (hsp : Spec P f (as.map (·.a)) ans) (hs : eff ans g e o.dst (.callv y xs) = some us) : o.wp P a w next Q := by
  simp only [eff, has] at hs
  obtain ⟨fn, hfn, hb, hn⟩ := hsp.1
  obtain ⟨l1, l2⟩ := argsC_spec hx
  simp only [callArgs] at has
  split at has
  · rename_i f' first caps hrd
    split at has
    · rename_i as0 fs cs h1 h2 h3
      simp only [Option.some.injEq, Prod.mk.injEq] at has
      obtain ⟨rfl, rfl⟩ := has
      obtain ⟨n1, _⟩ := allO_spec h1
      obtain ⟨n2, _⟩ := allO_spec h2
      obtain ⟨n3, _⟩ := allO_spec h3
      obtain ⟨R, k1, _, _⟩ := h.rd hX hY
      rw [hrd] at k1
      generalize hu : a.eval Y = u at k1
      cases k1 with
      | u h => cases h
      | fn _ _ _ us0 vs0 hl hl' ha hb' =>
        have hrun : (execOp a.eval o).run P w = .ok (.enter f' (us0.toArray ++ c.args.map a.eval ++ vs0.toArray)) w := by
          simp only [execOp, ho, resolve, hc, hu, Deferred.ofValue]
          simp [invoke, callFunc_run hfn hb hn]
        unfold Oper.wp
        rw [hrun]
        have hargs : us0.toArray ++ c.args.map a.eval ++ vs0.toArray = (us0 ++ c.args.toList.map a.eval ++ vs0).toArray := by rw [← Array.toList_inj]; simp
        rw [hargs]
        refine h.enter (P := P) hX hg hd (vals := us0 ++ c.args.toList.map a.eval ++ vs0) (by simp [n1, n2, n3, l1, hl, hl']) (fun i A u hA hu => ?_) hsp hs hnext
        have hsz : c.args.size = as0.length := by rw [n1, l1]; simp
        have hsz2 : fs.length = us0.length := by rw [n2, hl]
        by_cases hi1 : i < fs.length
        · rw [List.append_assoc, List.getElem?_append_left hi1] at hA
          rw [List.append_assoc, List.getElem?_append_left (by omega)] at hu
          obtain ⟨x, hxi, hax⟩ := allO_get' h2 hA
          exact ⟨x, [], .inr hax, ha i x u hxi hu⟩
        · by_cases hi2 : i < fs.length + as0.length
          · rw [List.append_assoc, List.getElem?_append_right (by omega), List.getElem?_append_left (by omega)] at hA
            rw [List.append_assoc, List.getElem?_append_right (by omega), List.getElem?_append_left (by simp; omega)] at hu
            have he : i - us0.length = i - fs.length := by omega
            rw [he] at hu
            obtain ⟨x, hxi, hax⟩ := allO_get' h1 hA
            obtain ⟨T, Y', hY', hcx⟩ := l2 _ x hxi
            rw [List.getElem?_map, hY'] at hu
            simp at hu; subst hu
            obtain ⟨R, k1, _, _⟩ := h.rd hX hcx
            exact ⟨_, R, .inl hax, k1⟩
          · rw [List.getElem?_append_right (by simp; omega)] at hA
            rw [List.getElem?_append_right (by simp; omega)] at hu
            have he : i - (us0 ++ c.args.toList.map a.eval).length = i - (fs ++ as0).length := by simp; omega
            rw [he] at hu
            obtain ⟨x, hxi, hax⟩ := allO_get' h3 hA
            exact ⟨x, [], .inr hax, hb' _ x u hxi hu⟩
    · cases has
  · cases has
end steps
end
end
end Go.A2
