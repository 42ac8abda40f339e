/- YtcinobbeapgklaaA2Call: what is known of a callee; the arguments. No statement of the seat is proved here. -/
import Derived.Test.YtcinobbeapgklaaA2Op10
namespace Go.A2
section
variable {X : Tab}

/-- A value that hangs on no frame, closures and variables too. -/
inductive FRep (w : World) (F : Nat → Prop) : AV X → Value → List Nat → Prop where
  | u {x : AV X} {u : Value} {S : List Nat} (h : URep w F x u S) : FRep w F x u S
  | tup (l : List (AV X)) (us : List Value) (Ss : Nat → List Nat) (hl : l.length = us.length) (h : ∀ (i : Nat) x u, l[i]? = some x → us[i]? = some u → FRep w F x u (Ss i)) : FRep w F (.tup l) (.tuple us.toArray) (cat Ss l.length)
  | fn (f : Nat) (as bs : List (AV X)) (us vs : List Value) (hl : as.length = us.length) (hl' : bs.length = vs.length) (h : ∀ (i : Nat) x u, as[i]? = some x → us[i]? = some u → FRep w F x u [])
      (h' : ∀ (i : Nat) x u, bs[i]? = some x → vs[i]? = some u → FRep w F x u []) : FRep w F (.fn f as bs) (.func (.func f) us.toArray vs.toArray) []
  | box (g : Nat) (T : X.Ty) (v : X.den T) (o : Own) (b : Nat) (cells : Array Value) (ty : TypeId) (S : List Nat) (hg : w.heap[b]? = some (.cells cells ty (0, 0))) (h : VRep w F T v o cells.toList S) :
      FRep w F (.box g T v o) (.pointer (some ⟨b, 0, none⟩)) (b :: S)
theorem FRep.toS {w : World} {F : Nat → Prop} {x : AV X} {u : Value} {S : List Nat} (h : FRep w F x u S) (e : Env X) (a : Act) : SRep e a w F x u S := by
  induction h with
  | u h => exact .u h
  | tup l us Ss hl _ ih => exact .tup l us Ss hl ih
  | fn f as bs us vs hl hl' _ _ ih ih' => exact .fn f as bs us vs hl hl' ih ih'
  | box g T v o b cells ty S hg h => exact .box g T v o b cells ty S hg h

/-- What is known of a function: it can be called by its number. -/
def Known (P : Program) (f : Nat) : Prop := ∃ fn : Func, P.funcs[f]? = some fn ∧ fn.body.isSome = true ∧ (fn.name == "runtime.NumGoroutine") = false

/-- Called with what reads as 'args', it returns what reads as r, and gives back what was lent. -/
def Spec (P : Program) (f : Nat) (args : List (AV X)) (r : Ret X) : Prop :=
  Known P f ∧ ∀ (w : World) (F0 : Nat → Prop) (vals : List Value) (Ss : Nat → List Nat), (∀ b, F0 b → b < w.heap.size) → args.length = vals.length →
    (∀ (i : Nat) x v, args[i]? = some x → vals[i]? = some v → FRep w F0 x v (Ss i)) →
    (∀ i, (Ss i).Nodup) → (∀ i j b, i ≠ j → b ∈ Ss i → b ∉ Ss j) → (∀ i b, b ∈ Ss i → b < w.heap.size ∧ ¬ F0 b) →
    Calls P f vals.toArray w fun en w' => ∃ (v : Value) (F' : Nat → Prop) (R : List Nat) (So : Nat → List Nat), en = .returned v ∧ BelowP (fun b => w.heap.size ≤ b ∨ ∃ i, b ∈ Ss i) w w' ∧
      FRep w' F' r.1 v R ∧ (∀ (i : Nat) x v, r.2[i]? = some x → vals[i]? = some v → FRep w' F' x v (So i)) ∧
      R.Nodup ∧ (∀ i, (So i).Nodup) ∧ (∀ i j b, i ≠ j → b ∈ So i → b ∉ So j) ∧ (∀ i b, b ∈ So i → b ∉ R) ∧
      (∀ b, (b ∈ R ∨ ∃ i, b ∈ So i) → (w.heap.size ≤ b ∨ ∃ i, b ∈ Ss i) ∧ b < w'.heap.size ∧ ¬ F' b) ∧
      (∀ b, F0 b → F' b) ∧ ∀ b, F' b → (F0 b ∨ w.heap.size ≤ b ∨ ∃ i, b ∈ Ss i) ∧ b < w'.heap.size

theorem nodupB_iff : ∀ {l : List Nat}, nodupB l = true → l.Nodup
  | [], _ => List.nodup_nil
  | x :: l, h => by
    simp only [nodupB, Bool.and_eq_true] at h
    refine List.nodup_cons.2 ⟨fun hx => ?_, nodupB_iff h.2⟩
    have := List.all_eq_true.1 h.1 x hx
    simp at this

/-- What leads nowhere reads the same over any memory. -/
theorem PRep.flatF (hX : TabOk X) {w w' : World} {F F' : Nat → Prop} {T : X.Ty} {v : X.den T} {cs : List Value} (h : PRep w F T v cs) (hf : X.flat T = true) : PRep w' F' T v cs := by
  induction h with
  | int k v => exact .int k v
  | bool b => exact .bool b
  | str s => exact .str s
  | named i v css _ ih => exact .named i v css fun j t x hj => ih j t x hj (hX.flat i hf t (List.mem_of_getElem? (getT_type hj)))
  | arr n t v css _ ih => exact .arr n t v css fun j x hj => ih j x hj hf
  | slice => cases hf
theorem VRep.flatF (hX : TabOk X) {w w' : World} {F F' : Nat → Prop} {T : X.Ty} {v : X.den T} {o : Own} {cs : List Value} {S : List Nat} (h : VRep w F T v o cs S) (hf : X.flat T = true) : VRep w' F' T v o cs S := by
  induction h with
  | pure h => exact .pure (h.flatF hX hf)
  | full => cases hf
  | ownNil => cases hf
  | own => cases hf
  | dead => cases hf
  | st i v l css Ss _ ih => exact .st i v l css Ss fun j t x hj => ih j t x hj (hX.flat i hf t (List.mem_of_getElem? (getT_type hj)))
theorem flatL_get : ∀ {l : List (AV X)}, flatL l = true → ∀ {i : Nat} {x : AV X}, l[i]? = some x → flatV x = true
  | [], _, i, x, hi => by simp at hi
  | y :: l, h, i, x, hi => by
    simp only [flatL, Bool.and_eq_true] at h
    cases i with
    | zero => simp at hi; subst hi; exact h.1
    | succ i => exact flatL_get h.2 (by simpa using hi)
theorem FRep.flatF (hX : TabOk X) {w w' : World} {F F' : Nat → Prop} {x : AV X} {u : Value} {S : List Nat} (h : FRep w F x u S) (hf : flatV x = true) : FRep w' F' x u S := by
  induction h with
  | u h => cases h with
    | undef => cases hf
    | val T v o u' cs S hv hu => exact .u (.val T v o _ cs _ (hv.flatF hX hf) hu)
    | rptr => cases hf
  | tup l us Ss hl _ ih => exact .tup l us Ss hl fun i x u hx hu => ih i x u hx hu (flatL_get hf hx)
  | fn => cases hf
  | box => cases hf
end

section
variable {P : Program} {Γ : Cx}
section
variable {K : List Nat} {N : Slots} {F0 B U : Nat → Prop} {w0 : World} {F : Nat → Prop} {S : Nat → List Nat} {e : Env Γ.X} {a : Act} {w : World}

/-- A place that is to be frozen. -/
def Place (e : Env Γ.X) (a : Act) (w : World) (s : Nat) (q : List PS) (b : Nat) (t : Γ.X.Ty) (l : Sl b (Γ.X.den t)) (u : Value) : Prop :=
  ∃ T v o, slotC (e s) = some ⟨T, v, o⟩ ∧ onlyFld q = true ∧ getQ q T v = some ⟨.slice b t, l⟩ ∧ hdr e a w s q = some u ∧ (ownAt o q).alive = true
theorem slotC_withMask {x : AV Γ.X} {T : Γ.X.Ty} {v : Γ.X.den T} {o m : Own} (h : slotC x = some ⟨T, v, o⟩) : slotC (withMask x m) = some ⟨T, v, m⟩ := by
  rcases slotC_some h with rfl | ⟨g, rfl⟩ <;> rfl
theorem hdr_withMask {s : Nat} {q : List PS} {m : Own} : hdr (upd e s (withMask (e s) m)) a w s q = hdr e a w s q := by
  unfold hdr
  rw [upd_same]
  cases e s <;> rfl

theorem Place.step {s s' : Nat} {q q' : List PS} {b b' : Nat} {t t' : Γ.X.Ty} {l : Sl b (Γ.X.den t)} {u : Value} {T : Γ.X.Ty} {v : Γ.X.den T} {o m : Own} {l' : Sl b' (Γ.X.den t')} (h : Place e a w s q b t l u) (hs : slotC (e s') = some ⟨T, v, o⟩) (hq : onlyFld q' = true)
    (hg : getQ q' T v = some ⟨.slice b' t', l'⟩) (hm : setO o q' .no = some m) : Place (upd e s' (withMask (e s') m)) a w s q b t l u := by
  obtain ⟨T1, v1, o1, h1, h2, h3, h4, h5⟩ := h
  by_cases hss : s = s'
  · subst hss
    rw [hs] at h1; cases h1
    refine ⟨T, v, m, by rw [upd_same]; exact slotC_withMask hs, h2, h3, by rw [hdr_withMask]; exact h4, ?_⟩
    rcases path_cases (tyQ_of_getQ hq hg) h2 (tyQ_of_getQ h2 h3) with ⟨r, rfl, hr⟩ | hd
    · rw [ownAt_ext hm hq]
      have : ∀ r, ownAt .no r = .no := fun r => by
        induction r with
        | nil => rfl
        | cons p r ih => cases p <;> simp only [ownAt, Own.fldD]; exact ih
      rw [this]; rfl
    · rw [ownAt_div hd hm]; exact h5
  · refine ⟨T1, v1, o1, by rw [upd_ne e _ hss]; exact h1, h2, h3, ?_, h5⟩
    unfold hdr at h4 ⊢
    rw [upd_ne e _ hss]; exact h4

/-- Roots are frozen. -/
theorem EnvRel.freezeAll (hX : TabOk Γ.X) : ∀ {roots : List (Nat × List PS)} {F : Nat → Prop} {S : Nat → List Nat} {e : Env Γ.X} (_ : EnvRel N F0 B U w0 F S e a w) {us : Ups Γ.X} (_ : Go.A2.freezeAll e roots = some us)
    (_ : ∀ r ∈ roots, ∃ b t l u, Place e a w r.1 r.2 b t l u),
    ∃ F1 S1, EnvRel N F0 B U w0 F1 S1 (applyU e us) a w ∧ Less F S F1 S1 ∧ (∀ t, (∀ r ∈ roots, r.1 ≠ t) → applyU e us t = e t) ∧ (∀ r ∈ roots, ∀ b t l u, Place e a w r.1 r.2 b t l u → PRep w F1 (.slice b t) l [u])
  | [], F, S, e, h, us, hf, _ => by
    simp [Go.A2.freezeAll] at hf; subst hf
    exact ⟨F, S, h, .refl _ _, fun _ _ => rfl, by simp⟩
  | (s, q) :: roots, F, S, e, h, us, hf, hr => by
    simp only [Go.A2.freezeAll] at hf
    split at hf
    · rename_i u hu
      obtain ⟨T, v, o, m, k1, k2, rfl⟩ := setMask_some hu
      cases hfr : Go.A2.freezeAll (applyU e [(s, withMask (e s) m)]) roots with
      | none => rw [hfr] at hf; cases hf
      | some us' =>
        rw [hfr] at hf
        simp only [Option.map_some, Option.some.injEq] at hf; subst hf
        obtain ⟨b, t, l, uu, T', v', o', p1, p2, p3, p4, p5⟩ := hr (s, q) (by simp)
        rw [k1] at p1; cases p1
        obtain ⟨F1, S1, cx, g1, g2, g3, g4, _⟩ := h.freezeAt hX k1 (tyQ_of_getQ p2 p3) p3 k2 p5
        obtain ⟨F2, S2, q1, q2, q3, q4⟩ := EnvRel.freezeAll hX g1 hfr fun r hrr => by
          obtain ⟨b', t', l', u', hp⟩ := hr r (by simp [hrr])
          exact ⟨b', t', l', u', hp.step k1 p2 p3 k2⟩
        refine ⟨F2, S2, by rw [applyU_append]; exact q1, g2.trans q2, fun t' ht' => ?_, fun r hrr b' t' l' u' hp => ?_⟩
        · rw [applyU_append]
          exact (q3 t' fun r hr' => ht' r (by simp [hr'])).trans (upd_ne e _ (Ne.symm (ht' (s, q) (by simp))))
        · rcases List.mem_cons.1 hrr with rfl | hrr
          · obtain ⟨T', v', o', z1, z2, z3, z4, z5⟩ := hp
            rw [k1] at z1; cases z1
            rw [p3] at z3; cases z3
            rw [p4] at z4; cases z4
            have hl := g3.length hX
            simp only [Tab.sz] at hl
            cases cx with
            | nil => simp at hl
            | cons c cx => cases cx with
              | cons => simp at hl
              | nil =>
                have := g4 c rfl
                rw [p4] at this; cases this
                exact g3.mono q2.keeps fun _ _ => rfl
          · exact q4 r hrr b' t' l' u' (hp.step k1 p2 p3 k2)
    · cases hf

theorem allO_arg {f : AV Γ.X → Option (Arg Γ.X)} {l : List (AV Γ.X)} {r : List (Arg Γ.X)} (h : allO f l = some r) (i : Nat) {A : Arg Γ.X} (hA : r[i]? = some A) : ∃ y, l[i]? = some y ∧ f y = some A := allO_get' h hA

/-- A captured value reads so. -/
theorem EnvRel.capArg (hX : TabOk Γ.X) (h : EnvRel N F0 B U w0 F S e a w) {v : AV Γ.X} {A : Arg Γ.X} (hA : Go.A2.capArg e v = some A) {u : Value} {R : List Nat} (hr : SRep e a w F v u R) {G : Nat → Prop} (hFG : ∀ b, F b → G b) (hcap : ∀ s ∈ A.caps, ∀ b ∈ S s, G b) :
    FRep w G A.a u [] ∧ A.back = none ∧ A.roots = [] := by
  cases v with
  | val T v o =>
    simp only [Go.A2.capArg] at hA
    split at hA
    · rename_i hp
      cases hA
      obtain ⟨cs, k1, k2⟩ := hr.valInv
      exact ⟨.u (.val T v .no u cs [] (.pure ((k1.toPure hp).1.mono hFG fun _ _ => rfl)) k2), rfl, rfl⟩
    · cases hA
  | rptr T v =>
    simp only [Go.A2.capArg, Option.some.injEq] at hA; subst hA
    cases hr with
    | u h => cases h with
      | rptr T v b o cs hb hc hp => exact ⟨.u (.rptr T v b o cs (hFG b hb) hc (hp.mono hFG fun _ _ => rfl)), rfl, rfl⟩
  | ptr b q =>
    cases b with
    | elem s p g i => simp [Go.A2.capArg] at hA
    | box s g =>
      simp only [Go.A2.capArg] at hA
      split at hA
      · rename_i g' T v o hes
        split at hA
        · rename_i hc
          obtain ⟨rfl, hpo⟩ := hc
          split at hA
          · rename_i T' x hx
            cases hA
            cases hr with
            | u h => cases h
            | ptrB _ _ _ _ hh =>
              obtain ⟨b, q1, q2, q3⟩ := hh T v o hes
              obtain ⟨T2, hT2⟩ := Option.isSome_iff_exists.1 q3
              obtain ⟨x2, hx2⟩ := getQ_of_tyQ v hT2
              rw [hx] at hx2; cases hx2
              obtain ⟨b', cells, ty, S', k1, k2, k3, k4⟩ := h.boxAt hes
              rw [k1] at q1; cases q1
              obtain ⟨k5, _⟩ := k3.toPure hpo
              obtain ⟨c1, cx, c2, S1, Sx, S2, e1, e2, e3, e4, _⟩ := (VRep.pure k5).lens hX hT2 hx
              have h0 : ∀ q, ownAt .no q = .no := fun q => by
                induction q with
                | nil => rfl
                | cons p q ih => cases p <;> simp only [ownAt, Own.fldD]; exact ih
              rw [h0] at e4
              subst q2
              refine ⟨.u (.rptr T' x b (offQ q T) cx (hcap s (by simp) b (by rw [k4]; simp)) (fun j u hj => ?_) ((e4.toPure rfl).1.mono hFG fun _ _ => rfl)), rfl, rfl⟩
              rw [cell_of k2, ← Array.getElem?_toList, e1, ← e2]
              have hjl : j < cx.length := (List.getElem?_eq_some_iff.1 hj).1
              rw [List.append_assoc, List.getElem?_append_right (by omega), List.getElem?_append_left (by omega), ← hj]
              congr 1; omega
          · cases hA
        · cases hA
      · cases hA
  | _ => simp [Go.A2.capArg] at hA

/-- An argument reads so. -/
theorem EnvRel.argV (hX : TabOk Γ.X) (h : EnvRel N F0 B U w0 F S e a w) {v : AV Γ.X} {A : Arg Γ.X} (hA : Go.A2.argV e v = some A) {u : Value} {R : List Nat} (hr : SRep e a w F v u R) {F1 G : Nat → Prop} {S1 : Nat → List Nat} {e1 : Env Γ.X} (h1 : EnvRel N F0 B U w0 F1 S1 e1 a w)
    (hFG : ∀ b, F b → G b) (hF1G : ∀ b, F1 b → G b) (hcap : ∀ s ∈ A.caps, ∀ b ∈ S s, G b) (hback : ∀ s, A.back = some s → e1 s = e s) (hroot : ∀ r ∈ A.roots, ∀ b t l u, Place e a w r.1 r.2 b t l u → PRep w G (.slice b t) l [u]) :
    FRep w G A.a u (match A.back with | some s => S1 s | none => []) ∧ (∀ s, A.back = some s → u = a.tmps.getD s Go.undef) ∧ (∀ r ∈ A.roots, ∃ b t l u, Place e a w r.1 r.2 b t l u) := by
  cases v with
  | val T v o =>
    simp only [Go.A2.argV] at hA
    split at hA
    · rename_i hp
      cases hA
      obtain ⟨cs, k1, k2⟩ := hr.valInv
      exact ⟨.u (.val T v .no u cs [] (.pure ((k1.toPure hp).1.mono hFG fun _ _ => rfl)) k2), by simp, by simp⟩
    · cases hA
  | rptr T v =>
    simp only [Go.A2.argV, Option.some.injEq] at hA; subst hA
    cases hr with
    | u h => cases h with
      | rptr T v b o cs hb hc hp => exact ⟨.u (.rptr T v b o cs (hFG b hb) hc (hp.mono hFG fun _ _ => rfl)), by simp, by simp⟩
  | ref s q g =>
    simp only [Go.A2.argV] at hA
    split at hA
    · rename_i b t l hc
      cases hA
      obtain ⟨T, v, o, c1, c2, c3⟩ := cont_some hc
      obtain ⟨hq, hh⟩ := h.refAt hc hr
      have hpl : Place e a w s q b t l u := ⟨T, v, o, c1, hq, c2, hh, by rw [c3]; rfl⟩
      exact ⟨.u (.val (.slice b t) l .no u [u] [] (.pure (hroot (s, q) (by simp) b t l u hpl)) (by unfold valOk; rw [if_neg (by simp [aggB])])), by simp, fun r hr => by simp at hr; subst hr; exact ⟨b, t, l, u, hpl⟩⟩
    · cases hA
  | ptr b q =>
    cases b with
    | elem s p g i => simp [Go.A2.argV] at hA
    | box s g =>
      cases q with
      | cons => simp [Go.A2.argV] at hA
      | nil =>
        simp only [Go.A2.argV] at hA
        split at hA
        · rename_i g' T v o hes
          split at hA
          · rename_i hc
            subst hc
            cases hA
            cases hr with
            | u h => cases h
            | ptrB _ _ _ _ hh =>
              obtain ⟨b, q1, q2, q3⟩ := hh T v o hes
              have hes1 := (hback s rfl).trans hes
              obtain ⟨b', cells, ty, S', k1, k2, k3, k4⟩ := h1.boxAt hes1
              rw [k1] at q1; cases q1
              have hu : u = .pointer (some ⟨b, 0, none⟩) := by rw [q2]; simp [offQ]
              refine ⟨?_, fun s' hs' => by cases hs'; rw [k1]; exact hu, by simp⟩
              rw [hu]
              show FRep w G _ _ (S1 s)
              rw [k4]
              exact .box 0 T v _ b cells ty S' k2 ((k3.gen 0).mono hF1G (fun _ _ => rfl) fun _ _ => rfl)
          · cases hA
        · cases hA
  | fn f first caps =>
    simp only [Go.A2.argV] at hA
    split at hA
    · rename_i fs cs h1' h2'
      cases hA
      cases hr with
      | u h => cases h
      | fn _ _ _ us vs hl hl' ha hb =>
        obtain ⟨n1, _⟩ := allO_spec h1'
        obtain ⟨n2, _⟩ := allO_spec h2'
        refine ⟨.fn f _ _ us vs (by simp [n1, hl]) (by simp [n2, hl']) (fun i x u hi hu => ?_) (fun i x u hi hu => ?_), by simp, by simp⟩
        · rw [List.getElem?_map] at hi
          cases hfi : fs[i]? with
          | none => simp [hfi] at hi
          | some A =>
            simp [hfi] at hi; subst hi
            obtain ⟨y, hy, hcy⟩ := allO_get' h1' hfi
            exact (h.capArg hX hcy (ha i y u hy hu) hFG fun s hs => hcap s (List.mem_flatMap.2 ⟨A, by simp [List.mem_of_getElem? hfi], hs⟩)).1
        · rw [List.getElem?_map] at hi
          cases hfi : cs[i]? with
          | none => simp [hfi] at hi
          | some A =>
            simp [hfi] at hi; subst hi
            obtain ⟨y, hy, hcy⟩ := allO_get' h2' hfi
            exact (h.capArg hX hcy (hb i y u hy hu) hFG fun s hs => hcap s (List.mem_flatMap.2 ⟨A, by simp [List.mem_of_getElem? hfi], hs⟩)).1
    · cases hA
  | _ => simp [Go.A2.argV] at hA
end
end
end Go.A2
