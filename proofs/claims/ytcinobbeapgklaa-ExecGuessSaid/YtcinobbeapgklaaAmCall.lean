/- YtcinobbeapgklaaAmCall: a call, by what is known of the callee. No statement of the seat is proved here. -/
import Derived.Test.YtcinobbeapgklaaAmLook4
namespace Go.AM
open Go.RowKit (Below)

/-- What is known of a function at some arguments: it can be called by its number. -/
def Known (P : Program) (f : Nat) : Prop := ∃ fn : Func, P.funcs[f]? = some fn ∧ fn.body.isSome = true ∧ (fn.name == "runtime.NumGoroutine") = false

/-- Called with values that read as 'args', in whatever memory: it returns what reads as 'r'; what was there is as it was; what the result owns is new. -/
def Spec (P : Program) (f : Nat) (args : List AV) (r : AV) : Prop :=
  Known P f ∧ ∀ (w : World) (F0 : Nat → Prop) (vals : List Value), (∀ b, F0 b → b < w.heap.size) → args.length = vals.length →
    (∀ (i : Nat) x v, args[i]? = some x → vals[i]? = some v → PRep w F0 x v) →
    Calls P f vals.toArray w fun en w' => ∃ v F' S, en = .returned v ∧ Below w.heap.size w w' ∧ TRep w' F' r v S ∧ S.Nodup ∧
      (∀ b ∈ S, w.heap.size ≤ b ∧ b < w'.heap.size ∧ ¬ F' b) ∧ ∀ b, F' b → (F0 b ∨ w.heap.size ≤ b) ∧ b < w'.heap.size

/-- What calls are taken to return is right. -/
def Sound (P : Program) (C : Nat → List AV → Option AV) : Prop := ∀ f args r, C f args = some r → Spec P f args r

def Sim (K : List Nat) (F0 : Nat → Prop) (B n : Nat) (w0 : World) (e : Env) (a : Act) (w : World) : Prop := ∃ F S, EnvRel K F0 B n w0 F S e a w

theorem allSome_length : ∀ {l : List (Option AV)} {r : List AV}, allSome l = some r → l.length = r.length
  | [], r, h => by simp [allSome] at h; subst h; rfl
  | none :: l, r, h => by simp [allSome] at h
  | some x :: l, r, h => by
    simp only [allSome] at h
    cases hl : allSome l with
    | none => simp [hl] at h
    | some r' => simp [hl] at h; subst h; simp [allSome_length hl]
theorem allSome_get : ∀ {l : List (Option AV)} {r : List AV}, allSome l = some r → ∀ (i : Nat) y, r[i]? = some y → l[i]? = some (some y)
  | [], r, h, i, y, hy => by simp [allSome] at h; subst h; simp at hy
  | none :: l, r, h, i, y, hy => by simp [allSome] at h
  | some x :: l, r, h, i, y, hy => by
    simp only [allSome] at h
    cases hl : allSome l with
    | none => simp [hl] at h
    | some r' =>
      simp [hl] at h; subst h
      cases i with
      | zero => simp at hy; subst hy; rfl
      | succ i => simpa using allSome_get hl i y (by simpa using hy)

section
variable {P : Program} {K : List Nat} {F0 : Nat → Prop} {B n : Nat} {w0 : World} {F : Nat → Prop} {S : Nat → List Nat} {e : Env} {a : Act} {w : World}

/-- What is owned, and what is read. -/
def FA (F : Nat → Prop) (S : Nat → List Nat) : Nat → Prop := fun b => F b ∨ ∃ s, b ∈ S s

theorem PRep.wider {F' : Nat → Prop} {x : AV} {v : Value} (h : PRep w F x v) (hF : ∀ b, F b → F' b) : PRep w F' x v := h.mono hF fun _ _ => rfl

theorem CRep.asSl {z : Nat} {rows : List (List AV)} {v : Value} {T : List Nat} (h : CRep w F (.own z rows) v T) : PRep w (fun b => F b ∨ b ∈ T) (.sl false rows) v := by
  have := h.freeze (F' := fun b => F b ∨ b ∈ T) (fun _ h => .inl h) fun _ h => .inr h
  cases this with
  | pure h _ => exact h

/-- An argument reads so. -/
theorem EnvRel.arg (h : EnvRel K F0 B n w0 F S e a w) {X : Operand} {x : AX} (hx : compX K X = some x) {y : AV} (hy : asArg e (Go.AM.rd e x) = some y) :
    PRep w (FA F S) y (a.eval X) ∧ isPure y = true ∧ (isRef (Go.AM.rd e x) = false → PRep w F y (a.eval X)) ∧
      (∀ s z rows, Go.AM.rd e x = .ref s none → e s = .own z rows → y = .sl false rows ∧ a.eval X = a.tmps.getD s Go.undef) := by
  have hFA : ∀ b, F b → FA F S b := fun b hb => .inl hb
  obtain ⟨T, hr⟩ := h.rd hx
  generalize hrd : Go.AM.rd e x = q at hy hr
  have pure : isPure q = true → y = q → PRep w (FA F S) y (a.eval X) ∧ isPure y = true ∧ (isRef q = false → PRep w F y (a.eval X)) ∧
      (∀ s z rows, q = .ref s none → e s = .own z rows → y = .sl false rows ∧ a.eval X = a.tmps.getD s Go.undef) := fun hp hyq => by
    subst hyq
    have := (hr.pure hp).1
    exact ⟨this.wider hFA, hp, fun _ => this, fun s z rows hq => by subst hq; simp [isPure, isCell] at hp⟩
  cases q with
  | ref s c =>
    simp only [asArg] at hy
    cases hc : content e s c with
    | none => simp [hc] at hy
    | some rows =>
      simp [hc] at hy; subst hy
      refine ⟨?_, rfl, fun h => by simp [isRef] at h, ?_⟩
      · generalize a.eval X = v at hr
        cases hr with
        | val h => have := TRep_refRoot h; simp [refRoot] at this
        | ref _ _ _ hr' hb hd hK =>
          have hrs := h.rep s
          cases c with
          | none =>
            unfold hdr at hd
            simp only [] at hd
            rw [hd]
            cases hes : e s with
            | box cs => exact absurd hes (hb cs rfl)
            | own z rs =>
              simp [content, hes] at hc; subst hc
              rw [hes] at hrs
              generalize a.tmps.getD s Go.undef = u at hrs
              generalize hS : S s = T' at hrs
              cases hrs with
              | val h => cases h with
                | val h => cases h with
                  | cell h => exact h.asSl.wider fun b hb => hb.elim .inl fun hb => .inr ⟨s, by rw [hS]; exact hb⟩
            | _ => simp [content, hes] at hc
          | some k =>
            rw [hd]
            unfold hdr
            simp only []
            cases hes : e s with
            | box cs =>
              simp only [content, hes] at hc
              rw [hes] at hrs
              generalize a.tmps.getD s Go.undef = u at hrs
              generalize hS : S s = T' at hrs
              cases hck : cs[k]? with
              | none => simp [hck] at hc
              | some y' =>
                cases y' with
                | own z rs =>
                  simp [hck] at hc; subst hc
                  cases hrs with
                  | val h => cases h with
                    | val h => cases h with
                      | cell h => cases h with
                        | pure h hc => simp [isCell] at hc
                  | box cs b cells ty S' hg hl =>
                    obtain ⟨u, T', h1, h2, h3⟩ := hl.get k _ hck
                    have hcell : w.cell? ⟨b, k, none⟩ = some u := by
                      simp [World.cell?, hg]
                      simpa using h1
                    simp only [hcell, Option.getD_some]
                    exact h2.asSl.wider fun b' hb => hb.elim .inl fun hb => .inr ⟨s, by rw [hS]; simp [h3 b' hb]⟩
                | _ => simp [hck] at hc
            | _ => simp [content, hes] at hc
      · intro s' z rs hq hes
        cases hq
        simp [content, hes] at hc; subst hc
        refine ⟨rfl, ?_⟩
        generalize a.eval X = v at hr
        cases hr with
        | val h => have := TRep_refRoot h; simp [refRoot] at this
        | ref _ _ _ hr' hb hd hK => exact hd
  | ptr s c row off =>
    cases c with
    | some k => simp [asArg, isPure, isCell] at hy
    | none =>
      cases row with
      | succ i => simp [asArg, isPure, isCell] at hy
      | zero =>
        simp only [asArg] at hy
        cases hes : e s with
        | box cs =>
          simp only [hes] at hy
          split at hy
          · rename_i hall
            simp only [Option.some.injEq] at hy; subst hy
            refine ⟨?_, rfl, fun h => by simp [isRef] at h, fun s' z rows hq => by cases hq⟩
            generalize hX : a.eval X = v at hr
            cases hr with
            | val h => have := TRep_refRoot h; simp [refRoot] at this
            | ptr _ _ _ _ rows r b hr' hrow hb =>
              simp [content, hes] at hr'; subst hr'
              simp at hrow; subst hrow
              obtain ⟨b', cells, ty, h1, h2, h3, h4⟩ := h.row (i := 0) (r := cs) (c := none) (s := s) (rows := [cs]) (by simp [content, hes]) rfl
              rw [hb] at h1; cases h1
              have hcl := List.all_eq_true.1 hall
              have := PRep.rptr (w := w) (F := FA F S) cs b 0 off (fun j => cells.getD j Go.undef) (.inr ⟨s, h3⟩) hcl ?_ ?_
              · simpa using this
              · intro j hj
                obtain ⟨v, T', hv, _, _⟩ := h4 j cs[j] (List.getElem?_eq_getElem hj)
                simp at hv
                rw [Nat.zero_add, cell_of h2]
                simp [Array.getD_eq_getD_getElem?, hv]
              · intro j y' hj
                obtain ⟨v, T', hv, hcr, _⟩ := h4 j y' hj
                simp at hv
                have hvd : cells.getD j Go.undef = v := by simp [Array.getD_eq_getD_getElem?, hv]
                rw [hvd]
                exact (hcr.pureOf (hcl _ (List.mem_of_getElem? hj))).wider hFA
          · cases hy
        | _ => simp [hes] at hy
  | _ =>
    simp only [asArg] at hy
    split at hy
    · rename_i hp
      simp only [Option.some.injEq] at hy
      exact pure hp hy.symm
    · cases hy

theorem flatTRep {F F' : Nat → Prop} {w : World} {r : AV} {v : Value} {T : List Nat} (h : TRep w F r v T) (hf : flatT r = true) : TRep w F' r v [] := by
  have c : ∀ x u T, CRep w F x u T → flatC x = true → CRep w F' x u [] := fun x u T h hx => by
    cases h with
    | pure h hc => cases h <;> first | exact .pure (.bool _) rfl | exact .pure (.int _ _) rfl | exact .pure (.str _) rfl | simp [flatC] at hx
    | undef => simp [flatC] at hx
    | ownNil => simp [flatC] at hx
    | own => simp [flatC] at hx
  have cl : ∀ xs us T, CRepL w F xs us T → (∀ x ∈ xs, flatC x = true) → CRepL w F' xs us [] := fun xs us T h => by
    induction h with
    | nil => exact fun _ => .nil
    | cons h t ih => exact fun hx => .cons (S := []) (c _ _ _ h (hx _ (by simp))) (ih fun x hm => hx x (by simp [hm]))
  have vr : ∀ x u T, VRep w F x u T → flat1 x = true → VRep w F' x u [] := fun x u T h hx => by
    cases h with
    | cell h =>
      refine .cell (c _ _ _ h ?_)
      cases h with
      | pure h hc => cases x <;> first | exact hx | simp [isCell] at hc
      | _ => simp [flat1, flatC] at hx
    | agg h => exact .agg (cl _ _ _ h (List.all_eq_true.1 (by simpa [flat1] using hx)))
    | undef => exact .undef
  have vl : ∀ xs us T, VRepL w F xs us T → (∀ x ∈ xs, flat1 x = true) → VRepL w F' xs us [] := fun xs us T h => by
    induction h with
    | nil => exact fun _ => .nil
    | cons h t ih => exact fun hx => .cons (S := []) (vr _ _ _ h (hx _ (by simp))) (ih fun x hm => hx x (by simp [hm]))
  cases h with
  | val h =>
    refine .val (vr _ _ _ h ?_)
    cases h with
    | cell h => cases h with
      | pure h hc => cases r <;> first | exact hf | simp [isCell] at hc
      | _ => simp [flatT, flat1, flatC] at hf
    | agg h => exact hf
    | undef => exact hf
  | tup h => exact .tup (vl _ _ _ h (List.all_eq_true.1 (by simpa [flatT] using hf)))

theorem SRep.of_trep {x : AV} {v : Value} {T : List Nat} (h : TRep w F x v T) : SRep K e a w F x v T := .val h

/-- A call, and what stands behind it. -/
theorem EnvRel.call (h : EnvRel K F0 B n w0 F S e a w) {f : Nat} {Xs : List Operand} {xs : List AX} (hx : mapO (compX K) Xs = some xs) {l caps : List AV} {cvs : List Value} (hl : argsOf e xs = some l)
    (hcl : caps.length = cvs.length) (hcaps : ∀ (i : Nat) x v, caps[i]? = some x → cvs[i]? = some v → PRep w F x v)
    {r : AV} (hC : Spec P f (l ++ caps) r) {solo : Bool} {d : Option Nat} {e' : Env} (hafter : afterCall solo e xs d r = some e') (hd : ∀ k, d = some k → k < n)
    {next : Act → World → Prop} {Q : Exit → Act → World → Prop} (hnext : ∀ a' w', Sim K F0 B n w0 e' a' w' → next a' w') :
    Calls P f (Xs.map a.eval ++ cvs).toArray w fun
      | .returned v, w'' => next (a.put d v) w''
      | .panicked chain, w'' => Q (.panic chain) a w''
      | .outgrown, _ => LetsOut Q := by
  have hlen : l.length = Xs.length := by
    rw [← allSome_length hl, List.length_map, mapO_length hx]
  have hget : ∀ (i : Nat) y v, l[i]? = some y → (Xs.map a.eval)[i]? = some v → ∃ X x, compX K X = some x ∧ x ∈ xs ∧ asArg e (Go.AM.rd e x) = some y ∧ v = a.eval X := fun i y v hy hv => by
    have h1 := allSome_get hl i y hy
    rw [List.getElem?_map] at h1
    cases hxi : xs[i]? with
    | none => simp [hxi] at h1
    | some x =>
      simp [hxi] at h1
      obtain ⟨X, hX, hXx⟩ := mapO_get' hx hxi
      rw [List.getElem?_map, hX] at hv
      simp at hv
      exact ⟨X, x, hXx, List.mem_of_getElem? hxi, h1, hv.symm⟩
  -- the arguments' reading, where every argument reads over G
  have main : ∀ (G : Nat → Prop), (∀ b, F b → G b) → (∀ b, G b → b < w.heap.size) → (∀ X x y, compX K X = some x → x ∈ xs → asArg e (Go.AM.rd e x) = some y → PRep w G y (a.eval X)) →
      Calls P f (Xs.map a.eval ++ cvs).toArray w fun en w' => ∃ v F' S, en = .returned v ∧ Below w.heap.size w w' ∧ TRep w' F' r v S ∧ S.Nodup ∧
      (∀ b ∈ S, w.heap.size ≤ b ∧ b < w'.heap.size ∧ ¬ F' b) ∧ ∀ b, F' b → (G b ∨ w.heap.size ≤ b) ∧ b < w'.heap.size := fun G hFG hG hr => by
    refine hC.2 w G _ hG (by simp [hlen, hcl]) fun i y v hy hv => ?_
    rcases Nat.lt_or_ge i l.length with hi | hi
    · rw [List.getElem?_append_left hi] at hy
      rw [List.getElem?_append_left (by simp; omega)] at hv
      obtain ⟨X, x, h1, h2, h3, rfl⟩ := hget i y v hy hv
      exact hr X x y h1 h2 h3
    · rw [List.getElem?_append_right hi] at hy
      rw [List.getElem?_append_right (by simp; omega)] at hv
      simp only [List.length_map, ← hlen] at hv
      exact (hcaps _ _ _ hy hv).wider hFG
  unfold afterCall at hafter
  split at hafter
  · rename_i hres
    split at hafter
    · rename_i hcond
      rcases Bool.or_eq_true_iff.1 hcond with hflat | hall
      · -- nothing in the result leads to memory
        refine (main (FA F S) (fun b hb => .inl hb) (fun b hb => hb.elim (h.free b) fun ⟨s, hs⟩ => (h.own s b hs).2.1) fun X x y h1 _ h3 => (h.arg h1 h3).1).mono fun en w' hpost => ?_
        obtain ⟨v, F', S', rfl, hb, ht, _⟩ := hpost
        have h1 := h.ext (F' := F) hb (fun _ h => h) (fun b hb => .inl hb)
        have hh : Hand K B F S e a w' r v [] := Hand.of_pure (.val (flatTRep ht hflat))
        obtain ⟨S2, h2⟩ := h1.putN hd hh hafter
        exact hnext _ _ ⟨F, S2, h2⟩
      · have hall' := List.all_eq_true.1 hall
        refine (main F (fun b hb => hb) h.free fun X x y h1 h2 h3 => (h.arg h1 h3).2.2.1 (by simpa using hall' x h2)).mono fun en w' hpost => ?_
        obtain ⟨v, F', S', rfl, hb, ht, hnd, hS', hF'⟩ := hpost
        have h1 := h.ext (F' := fun b => F b ∨ F' b) hb (fun _ h => .inl h) (fun b hb' => hb'.elim .inl fun hb' => by
          obtain ⟨h3, h4⟩ := hF' b hb'
          rcases h3 with h3 | h3
          · exact .inl h3
          · exact .inr ⟨h3, h4⟩)
        have hh : Hand K B (fun b => F b ∨ F' b) S e a w' r v S' := by
          refine ⟨.val (ht.mono (fun b hb' => .inr hb') (fun _ _ => rfl) fun _ _ => rfl), hnd, fun b hb' => ?_, fun b hb' s hs => ?_⟩
          · obtain ⟨h3, h4, h5⟩ := hS' b hb'
            refine ⟨Nat.le_trans h.base h3, h4, fun hf => hf.elim (fun hf => ?_) h5⟩
            have := h.free b hf
            omega
          · have := (h.own s b hs).2.1
            have := (hS' b hb').1
            omega
        obtain ⟨S2, h2⟩ := h1.putN hd hh hafter
        exact hnext _ _ ⟨_, S2, h2⟩
    · split at hafter
      · rename_i s hroot
        split at hafter
        · rename_i z rows hes
          split at hafter
          · rename_i hcond
            have hall' := List.all_eq_true.1 (Bool.and_eq_true_iff.1 hcond).2
            obtain ⟨F2, hfr, hF2, hp2⟩ := h.freezeRoot hes
            refine (main F2 hF2.keeps hfr.free fun X x y h1 h2 h3 => ?_).mono fun en w' hpost => ?_
            · have hxx := hall' x h2
              obtain ⟨_, _, h5, h6⟩ := h.arg h1 h3
              cases hrd : Go.AM.rd e x with
              | ref s' c =>
                cases c with
                | none =>
                  simp [hrd] at hxx; subst hxx
                  obtain ⟨h7, h8⟩ := h6 s' z rows hrd hes
                  rw [h7, h8]; exact hp2
                | some k => simp [hrd, isRef] at hxx
              | ptr s' c r o => simp [hrd, isRef] at hxx
              | _ => exact (h5 (by rw [hrd]; rfl)).wider hF2.keeps
            · obtain ⟨v, F', S', rfl, hb, ht, hnd, hS', hF'⟩ := hpost
              have h1 := hfr.ext (F' := fun b => F2 b ∨ F' b) hb (fun _ h => .inl h) (fun b hb' => hb'.elim .inl fun hb' => by
                obtain ⟨h3, h4⟩ := hF' b hb'
                rcases h3 with h3 | h3
                · exact .inl h3
                · exact .inr ⟨h3, h4⟩)
              have hh : Hand K B (fun b => F2 b ∨ F' b) (updS S s []) (Go.AM.freezeRoot e s rows) a w' r v S' := by
                refine ⟨.val (ht.mono (fun b hb' => .inr hb') (fun _ _ => rfl) fun _ _ => rfl), hnd, fun b hb' => ?_, fun b hb' s hs => ?_⟩
                · obtain ⟨h3, h4, h5⟩ := hS' b hb'
                  refine ⟨Nat.le_trans h.base h3, h4, fun hf => hf.elim (fun hf => ?_) h5⟩
                  have := hfr.free b hf
                  omega
                · have := (hfr.own s b hs).2.1
                  have := (hS' b hb').1
                  omega
              obtain ⟨S2, h2⟩ := h1.putN hd hh hafter
              exact hnext _ _ ⟨_, S2, h2⟩
          · cases hafter
        · cases hafter
      · cases hafter
  · cases hafter

end
end Go.AM
