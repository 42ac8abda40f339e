/- YtcinobbeapgklaaAmFn: what the abstract machine computes of a function is what the function returns. No statement of the seat is proved here. -/
import Derived.Test.YtcinobbeapgklaaAmExec
namespace Go.AM
open Go.RowKit (Below)

section
variable {P : Program} {K : List Nat} {F0 : Nat → Prop} {B n : Nat} {w0 : World} {F : Nat → Prop} {S : Nat → List Nat} {e : Env} {a : Act} {w : World} {C : Nat → List AV → Option AV}

def resRun (tmps : Array Value) : ResultVar → Sem Value
  | .tmp t => pure (tmps.getD t Go.undef)
  | .cell p t => do loadVar t (← asAddr (tmps.getD p Go.undef))
theorem results_eq (fn : Func) (tmps : Array Value) : Go.results fn tmps = (do
    let vs ← List.toArray <$> fn.results.toList.mapM (resRun tmps)
    pure (if h : vs.size = 1 then vs[0] else .tuple vs)) := by
  have h1 : Go.results fn tmps = (do
    let vs ← fn.results.mapM (resRun tmps)
    pure (if h : vs.size = 1 then vs[0] else .tuple vs)) := by
    unfold Go.results
    congr 1
  rw [h1, Array.mapM_eq_mapM_toList]

theorem EnvRel.resOne (h : EnvRel K F0 B n w0 F S e a w) {rv : ResultVar} {r : ARes} (hr : compRes P rv = some r) {v : AV} {e1 : Env} (ho : Go.AM.resOne e r = some (v, e1)) :
    ∃ u S1 T, (resRun a.tmps rv).run P w = .ok u w ∧ EnvRel K F0 B n w0 F S1 e1 a w ∧ VRep w F v u T ∧ T.Nodup ∧
      (∀ b ∈ T, B ≤ b ∧ b < w.heap.size ∧ ¬ F b) ∧ (∀ b ∈ T, ∀ s, b ∉ S1 s) ∧ (∀ s b, b ∈ S1 s → ∃ t, b ∈ S t) ∧ (∀ b ∈ T, ∃ s, b ∈ S s) := by
  have out : ∀ (s : Nat) (x : AV) (u : Value) , e s = x → refRoot x = none → VRep w F x (a.tmps.getD s Go.undef) (S s) → a.tmps.getD s Go.undef = u → EnvRel K F0 B n w0 F (updS S s []) (Go.AM.drop e s) a w ∧ VRep w F x u (S s) ∧ (S s).Nodup ∧
      (∀ b ∈ S s, B ≤ b ∧ b < w.heap.size ∧ ¬ F b) ∧ (∀ b ∈ S s, ∀ t, b ∉ updS S s [] t) ∧ (∀ t b, b ∈ updS S s [] t → ∃ t, b ∈ S t) ∧ (∀ b ∈ S s, ∃ s, b ∈ S s) := fun s x u hx hnr hv hu => by
    have hh := h.hand s hx hnr (e' := e) (a' := a)
    subst hu
    exact ⟨h.drop s, hv, h.nodup s, h.own s, hh.apart, (Less.updS (F := F) s).owned, fun b hb => ⟨s, hb⟩⟩
  cases rv with
  | tmp t =>
    simp only [compRes, Option.some.injEq] at hr; subst hr
    simp only [Go.AM.resOne] at ho
    have plain : ∀ x, e t = x → refRoot x = none → (∀ cs, x ≠ .box cs) → (∀ vs, x ≠ .tup vs) → some (x, Go.AM.drop e t) = some (v, e1) → ∃ u S1 T, (resRun a.tmps (.tmp t)).run P w = .ok u w ∧ EnvRel K F0 B n w0 F S1 e1 a w ∧ VRep w F v u T ∧ T.Nodup ∧
      (∀ b ∈ T, B ≤ b ∧ b < w.heap.size ∧ ¬ F b) ∧ (∀ b ∈ T, ∀ s, b ∉ S1 s) ∧ (∀ s b, b ∈ S1 s → ∃ t, b ∈ S t) ∧ (∀ b ∈ T, ∃ s, b ∈ S s) := fun x hx hnr hnb hnt hout => by
      simp only [Option.some.injEq, Prod.mk.injEq] at hout
      obtain ⟨rfl, rfl⟩ := hout
      have hrep := h.rep t
      rw [hx] at hrep
      have hv : VRep w F x (a.tmps.getD t Go.undef) (S t) := by
        generalize a.tmps.getD t Go.undef = u at hrep
        generalize S t = T at hrep
        cases hrep with
        | val h => cases h with
          | val h => exact h
          | tup => exact absurd rfl (hnt _)
        | box => exact absurd rfl (hnb _)
        | ref => simp [refRoot] at hnr
        | ptr => simp [refRoot] at hnr
      exact ⟨_, _, _, rfl, out t x _ hx hnr hv rfl⟩
    cases hx : e t with
    | ref r c =>
      cases c with
      | none =>
        simp only [hx] at ho
        cases hes : e r with
        | own z rows =>
          simp only [hes, Option.some.injEq, Prod.mk.injEq] at ho
          obtain ⟨rfl, rfl⟩ := ho
          have hrep := h.rep t
          rw [hx] at hrep
          have hu : a.tmps.getD t Go.undef = a.tmps.getD r Go.undef := by
            generalize a.tmps.getD t Go.undef = u at hrep ⊢
            generalize S t = T at hrep
            cases hrep with
            | val h => have := TRep_refRoot h; simp [refRoot] at this
            | ref _ _ _ hr' hb hd hK => exact hd
          exact ⟨_, _, _, rfl, out r _ _ hes rfl (.cell (h.ownRep hes)) hu.symm⟩
        | _ => simp [hes] at ho
      | some k => simp [hx] at ho
    | ptr s c r o => simp [hx] at ho
    | box cs => simp [hx] at ho
    | undef => simp [hx] at ho
    | tup vs => simp [hx] at ho
    | _ => exact plain _ hx rfl (by simp) (by simp) (by simpa [hx] using ho)
  | cell p t =>
    simp only [compRes] at hr
    split at hr
    · rename_i m hat hsz
      simp only [Option.some.injEq] at hr; subst hr
      simp only [Go.AM.resOne] at ho
      cases hx : e p with
      | box cs =>
        simp only [hx] at ho
        split at ho
        · rename_i hcond
          simp only [Option.some.injEq, Prod.mk.injEq] at ho
          obtain ⟨rfl, rfl⟩ := ho
          obtain ⟨b, cells, ty, T, h1, h2, h3, h4⟩ := h.box hx
          have hcl : cells.toList.length = m := by rw [← h3.length]; exact hcond.2
          refine ⟨.agg cells, updS S p [], T, ?_, h.drop p, ?_, ?_, ?_, ?_, (Less.updS (F := F) p).owned, ?_⟩
          · simp only [resRun, h1, asAddr]
            have := run_loadCells' (P := P) (w := w) (b := b) (o := 0) (m := m) (vs := cells.toList) hcl (fun j v hj => by rw [Nat.zero_add, cell_of h2]; simpa using hj)
            simp [loadVar, run_isAggT hat, run_sizeO hsz, this]
          · have := VRep.agg h3
            simpa using this
          · have := h.nodup p
            rw [h4] at this
            exact (List.nodup_cons.1 this).2
          · exact fun b' hb => h.own p b' (by rw [h4]; simp [hb])
          · intro b' hb t ht
            by_cases htp : t = p
            · subst htp; rw [updS_same] at ht; cases ht
            · rw [updS_ne S _ htp] at ht
              exact h.apart p t b' (Ne.symm htp) (by rw [h4]; simp [hb]) ht
          · exact fun b' hb => ⟨p, by rw [h4]; simp [hb]⟩
        · cases ho
      | _ => simp [hx] at ho
    · rename_i m hat hsz
      simp only [Option.some.injEq] at hr; subst hr
      simp only [Go.AM.resOne] at ho
      cases hx : e p with
      | box cs =>
        cases cs with
        | nil => simp [hx] at ho
        | cons q l =>
          cases l with
          | cons => simp [hx] at ho
          | nil =>
            simp only [hx] at ho
            split at ho
            · rename_i hcond
              simp only [Option.some.injEq, Prod.mk.injEq] at ho
              obtain ⟨rfl, rfl⟩ := ho
              obtain ⟨b, cells, ty, T, h1, h2, h3, h4⟩ := h.box hx
              have hq : ∃ u, cells.toList = [u] ∧ CRep w F q u T := by
                generalize cells.toList = l at h3
                cases h3 with
                | cons h t =>
                  cases t with
                  | nil => exact ⟨_, rfl, by simpa using h⟩
              obtain ⟨u, hu, hcr⟩ := hq
              refine ⟨u, updS S p [], T, ?_, h.drop p, .cell hcr, ?_, ?_, ?_, (Less.updS (F := F) p).owned, ?_⟩
              · have hcell : w.cell? ⟨b, 0, none⟩ = some u := by
                  rw [cell_of h2, ← Array.getElem?_toList, hu]; rfl
                simp only [resRun, h1, asAddr]
                simp [loadVar, run_isAggT hat, run_load, hcell]
              · have := h.nodup p
                rw [h4] at this
                exact (List.nodup_cons.1 this).2
              · exact fun b' hb => h.own p b' (by rw [h4]; simp [hb])
              · intro b' hb t ht
                by_cases htp : t = p
                · subst htp; rw [updS_same] at ht; cases ht
                · rw [updS_ne S _ htp] at ht
                  exact h.apart p t b' (Ne.symm htp) (by rw [h4]; simp [hb]) ht
              · exact fun b' hb => ⟨p, by rw [h4]; simp [hb]⟩
            · cases ho
      | _ => simp [hx] at ho
    · cases hr

theorem EnvRel.resAll : ∀ {rvs : List ResultVar} {rs : List ARes} {S : Nat → List Nat} {e : Env} (_ : EnvRel K F0 B n w0 F S e a w) (_ : mapO (compRes P) rvs = some rs) {vs : List AV} (_ : Go.AM.resAll e rs = some vs),
    ∃ us T, (rvs.mapM (resRun a.tmps)).run P w = .ok us w ∧ VRepL w F vs us T ∧ T.Nodup ∧
      (∀ b ∈ T, B ≤ b ∧ b < w.heap.size ∧ ¬ F b) ∧ (∀ b ∈ T, ∃ s, b ∈ S s)
  | [], rs, S, e, h, hr, vs, ho => by
    simp [mapO] at hr; subst hr
    simp [Go.AM.resAll] at ho; subst ho
    exact ⟨[], [], rfl, .nil, List.nodup_nil, by simp, by simp⟩
  | rv :: rvs, rs, S, e, h, hr, vs, ho => by
    simp only [mapO] at hr
    split at hr
    · rename_i r rs' hr1 hr2
      simp only [Option.some.injEq] at hr; subst hr
      simp only [Go.AM.resAll] at ho
      split at ho
      · rename_i v e1 ho1
        cases hal : Go.AM.resAll e1 rs' with
        | none => simp [hal] at ho
        | some vs' =>
          simp [hal] at ho; subst ho
          obtain ⟨u, S1, T1, g1, g2, g3, g4, g5, g6, g7, g8⟩ := h.resOne hr1 ho1
          obtain ⟨us, T2, k1, k2, k3, k4, k5⟩ := EnvRel.resAll g2 hr2 hal
          refine ⟨u :: us, T1 ++ T2, ?_, .cons g3 k2, ?_, ?_, ?_⟩
          · rw [List.mapM_cons]
            simp only [Sem.run_bind, g1, Result.andThen_ok, k1]
            rfl
          · exact List.nodup_append.2 ⟨g4, k3, fun x hx y hy he => by
              subst he
              obtain ⟨s, hs⟩ := k5 x hy
              exact g6 x hx s hs⟩
          · intro b hb
            rcases List.mem_append.1 hb with hb | hb
            · exact g5 b hb
            · exact k4 b hb
          · intro b hb
            rcases List.mem_append.1 hb with hb | hb
            · exact g8 b hb
            · obtain ⟨s, hs⟩ := k5 b hb
              exact g7 s b hs
      · cases ho
    · cases hr

theorem entry_get (args : List AV) (s : Nat) : entry args s = (args[s]?).getD .undef := by
  have gen : ∀ (l : List AV) (k s : Nat), mkE ((l.zipIdx k).map fun (v, i) => (i, v)) s = if k ≤ s then (l[s - k]?).getD .undef else .undef := fun l => by
    induction l with
    | nil => intro k s; simp [mkE]
    | cons x l ih =>
      intro k s
      simp only [List.zipIdx_cons, List.map_cons, mkE, ih]
      by_cases hs : s = k
      · subst hs; simp
      · rw [if_neg hs]
        by_cases hk : k ≤ s
        · rw [if_pos hk, if_pos (by omega)]
          rw [show s - k = (s - (k + 1)) + 1 by omega, List.getElem?_cons_succ]
        · rw [if_neg hk, if_neg (by omega)]
  have := gen args 0 s
  simpa [entry] using this

/-- A function's run. -/
theorem fn_sound (hm : P.follows .mixedOrders = true) (hC : Sound P C) {f N : Nat} {af : AFn} (hcomp : Compiled P f af) {args : List AV} {r : AV} (hr : runFn C N af args = some r) : Spec P f args r := by
  obtain ⟨fn, c, hf, hb, hname, hnp, hcode, hres⟩ := hcomp
  refine ⟨⟨fn, hf, by simp [hb], hname⟩, fun w F0 vals hF0 hlen hargs => ?_⟩
  unfold runFn at hr
  split at hr
  · rename_i hcond
    obtain ⟨hal, hpure⟩ := hcond
    have hsz : vals.toArray.size ≤ fn.ntmps := by simp [← hlen, hal]; exact hnp
    refine calls_of_wp hf hb ?_
    -- the start
    have h0 : EnvRel af.keep F0 w.heap.size fn.ntmps w F0 (fun _ => []) (entry args) { tmps := vals.toArray ++ Array.replicate (fn.ntmps - vals.toArray.size) Go.undef, defers := [] } w := by
      refine ⟨by simp at hsz ⊢; omega, rfl, ?_, fun _ => List.nodup_nil, by simp, by simp, hF0, fun b hb => .inl hb, fun _ h => h, Below.refl _ _, Nat.le_refl _⟩
      intro s
      rw [entry_get]
      cases hs : args[s]? with
      | none => exact .val (.val .undef)
      | some x =>
        have hlt : s < vals.length := by rw [← hlen]; exact (List.getElem?_eq_some_iff.1 hs).1
        have hv : (vals.toArray ++ Array.replicate (fn.ntmps - vals.toArray.size) Go.undef).getD s Go.undef = vals[s] := by
          simp [Array.getD_eq_getD_getElem?, Array.getElem?_append, hlt]
        show SRep af.keep _ _ w F0 x _ _
        rw [hv]
        exact (hargs s x vals[s] hs (List.getElem?_eq_getElem hlt)).srep
    have post : ∀ {e x} (_ : exec C af.keep N af.body (entry args) = some (x, e)) (_ : x = .normal ∨ x = .ret) (_ : results e af = some r) a' w', Sim af.keep F0 w.heap.size fn.ntmps w e a' w' →
        bodyPost P fn (fun en w' => ∃ v F' S, en = .returned v ∧ Below w.heap.size w w' ∧ TRep w' F' r v S ∧ S.Nodup ∧
          (∀ b ∈ S, w.heap.size ≤ b ∧ b < w'.heap.size ∧ ¬ F' b) ∧ ∀ b, F' b → (F0 b ∨ w.heap.size ≤ b) ∧ b < w'.heap.size) (exOf x) a' w' := by
      intro e x hex hx hrs a' w' hsim
      obtain ⟨F, S, h⟩ := hsim
      unfold Go.AM.results at hrs
      cases hall : resAll e af.res with
      | none => simp [hall] at hrs
      | some vs =>
        obtain ⟨us, T, k1, k2, k3, k4, _⟩ := h.resAll hres hall
        have hrun : (Go.results fn a'.tmps).run P w' = .ok (if hh : us.toArray.size = 1 then us.toArray[0] else .tuple us.toArray) w' := by
          rw [results_eq]
          simp only [Sem.run_bind]
          simp only [Sem.run_map, k1, Result.andThen_ok]
          rfl
        have ht : TRep w' F (one vs) (if hh : us.toArray.size = 1 then us.toArray[0] else .tuple us.toArray) T := by
          cases k2 with
          | nil => exact .tup .nil
          | @cons x0 v0 S0 xs us' S' hv t =>
            cases t with
            | nil => simp; exact .val hv
            | @cons x1 v1 S1 xs1 us1 S1' hv1 t1 =>
              have hne : ¬ ((v0 :: v1 :: us1).toArray.size = 1) := by simp
              rw [dif_neg hne]
              exact .tup (.cons hv (.cons hv1 t1))
        have hrr : r = (if af.fresh then one vs else freezeT (one vs)) := by
          rw [hall] at hrs
          simpa using hrs.symm
        have hR : ∃ v F' S, (Ending.returned (if hh : us.toArray.size = 1 then us.toArray[0] else .tuple us.toArray)) = .returned v ∧ Below w.heap.size w w' ∧ TRep w' F' r v S ∧ S.Nodup ∧
          (∀ b ∈ S, w.heap.size ≤ b ∧ b < w'.heap.size ∧ ¬ F' b) ∧ ∀ b, F' b → (F0 b ∨ w.heap.size ≤ b) ∧ b < w'.heap.size := by
          cases hfr : af.fresh with
          | true =>
            rw [hfr] at hrr
            simp only [if_true] at hrr
            exact ⟨_, F, T, rfl, h.below, by rw [hrr]; exact ht, k3, k4, fun b hb => ⟨h.old b hb, h.free b hb⟩⟩
          | false =>
            rw [hfr] at hrr
            simp only [Bool.false_eq_true, if_false] at hrr
            refine ⟨_, fun b => F b ∨ b ∈ T, [], rfl, h.below, by rw [hrr]; exact ht.freeze (fun _ h => .inl h) fun _ h => .inr h, List.nodup_nil, by simp, fun b hb => ?_⟩
            rcases hb with hb | hb
            · exact ⟨h.old b hb, h.free b hb⟩
            · exact ⟨.inr (k4 b hb).1, (k4 b hb).2.1⟩
        rcases hx with rfl | rfl
        · exact ⟨h.defers, _, hrun, hR⟩
        · exact ⟨h.defers, _, hrun, hR⟩
    split at hr
    · rename_i e hex
      exact Sim.exec hm hC N c hcode ⟨F0, _, h0⟩ hex (post hex (.inl rfl) hr)
    · rename_i e hex
      exact Sim.exec hm hC N c hcode ⟨F0, _, h0⟩ hex (post hex (.inr rfl) hr)
    · cases hr
  · cases hr

/-- A program's functions, as the abstract machine has them. -/
def Models (P : Program) (A : AProg) : Prop := ∀ f af, A f = some af → Compiled P f af

theorem callN_sound (hm : P.follows .mixedOrders = true) {A : AProg} (hA : Models P A) : ∀ N, Sound P (callN A N)
  | 0 => fun f args r h => by simp [callN] at h
  | N + 1 => fun f args r h => by
    simp only [callN] at h
    split at h
    · rename_i af haf
      exact fn_sound hm (callN_sound hm hA N) (hA f af haf) h
    · cases h

end
end Go.AM
