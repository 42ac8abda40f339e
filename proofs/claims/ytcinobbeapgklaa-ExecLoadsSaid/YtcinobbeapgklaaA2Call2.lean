/- YtcinobbeapgklaaA2Call2: behind a call. No statement of the seat is proved here. -/
import Derived.Test.YtcinobbeapgklaaA2Call
namespace Go.A2
section
variable {P : Program} {Γ : Cx}
section
variable {K : List Nat} {N : Slots} {F0 B U : Nat → Prop} {w0 : World} {F : Nat → Prop} {S : Nat → List Nat} {e : Env Γ.X} {a : Act} {w : World}

theorem giveBack_spec {e : Env Γ.X} {g : Nat} : ∀ {as : List (Arg Γ.X)} {os : List (AV Γ.X)} {us : Ups Γ.X} {e1 : Env Γ.X}, giveBack e g as os = some us →
    os.length = as.length ∧ ∀ t, (∃ (i : Nat) (A : Arg Γ.X) (g0 g' : Nat) (T : Γ.X.Ty) (v v0 : Γ.X.den T) (m m0 : Own), as[i]? = some A ∧ A.back = some t ∧ os[i]? = some (.box g0 T v m) ∧ e t = .box g' T v0 m0 ∧ applyU e1 us t = .box g' T v (m.gen g)) ∨
      ((∀ (i : Nat) A, as[i]? = some A → A.back ≠ some t) ∧ applyU e1 us t = e1 t)
  | [], [], us, e1, h => by
    simp [giveBack] at h; subst h
    exact ⟨rfl, fun t => .inr ⟨by simp, rfl⟩⟩
  | [], _ :: _, us, e1, h => by simp [giveBack] at h
  | _ :: _, [], us, e1, h => by simp [giveBack] at h
  | A :: as, o :: os, us, e1, h => by
    have shift : ∀ {us : Ups Γ.X} {e1 : Env Γ.X} {t : Nat}, (∃ (i : Nat) (A : Arg Γ.X) (g0 g' : Nat) (T : Γ.X.Ty) (v v0 : Γ.X.den T) (m m0 : Own), as[i]? = some A ∧ A.back = some t ∧ os[i]? = some (.box g0 T v m) ∧ e t = .box g' T v0 m0 ∧ applyU e1 us t = .box g' T v (m.gen g)) →
        ∃ (i : Nat) (A' : Arg Γ.X) (g0 g' : Nat) (T : Γ.X.Ty) (v v0 : Γ.X.den T) (m m0 : Own), (A :: as)[i]? = some A' ∧ A'.back = some t ∧ (o :: os)[i]? = some (.box g0 T v m) ∧ e t = .box g' T v0 m0 ∧ applyU e1 us t = .box g' T v (m.gen g) := fun {us e1 t} hh => by
      obtain ⟨i, A', g0, g', T, v, v0, m, m0, h1, h2, h3, h4, h5⟩ := hh
      exact ⟨i + 1, A', g0, g', T, v, v0, m, m0, by simpa using h1, h2, by simpa using h3, h4, h5⟩
    simp only [giveBack] at h
    split at h
    · rename_i s g0 T v m hb
      split at h
      · rename_i g' T' v0 m0 hes
        split at h
        · rename_i hT
          subst hT
          cases hr : giveBack e g as os with
          | none => rw [hr] at h; cases h
          | some us' =>
            rw [hr] at h
            simp only [Option.map_some, Option.some.injEq] at h; subst h
            obtain ⟨k1, k2⟩ := giveBack_spec (e1 := upd e1 s (.box g' T v (m.gen g))) hr
            refine ⟨by simp [k1], fun t => ?_⟩
            show _ ∨ (_ ∧ applyU (upd e1 s (.box g' T v (m.gen g))) us' t = e1 t)
            rcases k2 t with hh | ⟨q1, q2⟩
            · exact .inl (shift hh)
            · by_cases ht : t = s
              · subst ht
                rw [upd_same] at q2
                exact .inl ⟨0, A, g0, g', T, v, v0, m, m0, rfl, hb, rfl, hes, q2⟩
              · rw [upd_ne e1 _ ht] at q2
                refine .inr ⟨fun i A' hA' => ?_, q2⟩
                cases i with
                | zero => simp at hA'; subst hA'; rw [hb]; simp [Ne.symm ht]
                | succ i => exact q1 i A' (by simpa using hA')
        · cases h
      · cases h
    · rename_i hb
      obtain ⟨k1, k2⟩ := giveBack_spec (e1 := e1) h
      refine ⟨by simp [k1], fun t => ?_⟩
      rcases k2 t with hh | ⟨q1, q2⟩
      · exact .inl (shift hh)
      · refine .inr ⟨fun i A' hA' => ?_, q2⟩
        cases i with
        | zero => simp at hA'; subst hA'; rw [hb]; simp
        | succ i => exact q1 i A' (by simpa using hA')
    · cases h

def ownArg (as : List (Arg Γ.X)) (S : Nat → List Nat) (i : Nat) : List Nat := match (as[i]?).bind (·.back) with | some s => S s | none => []
theorem back_inj : ∀ {as : List (Arg Γ.X)}, (as.filterMap (·.back)).Nodup → ∀ {i j : Nat} {A A' : Arg Γ.X} {s : Nat}, as[i]? = some A → as[j]? = some A' → A.back = some s → A'.back = some s → i = j
  | [], _, i, j, A, A', s, h, _, _, _ => by simp at h
  | x :: as, nd, i, j, A, A', s, h1, h2, h3, h4 => by
    have tail : (as.filterMap (·.back)).Nodup := by
      cases hb : x.back with
      | none => simpa [List.filterMap_cons, hb] using nd
      | some t => rw [List.filterMap_cons, hb] at nd; exact (List.nodup_cons.1 nd).2
    have head : ∀ {k : Nat} {A' : Arg Γ.X}, x.back = some s → as[k]? = some A' → A'.back = some s → False := fun {k A'} hb hk hA => by
      rw [List.filterMap_cons, hb] at nd
      exact (List.nodup_cons.1 nd).1 (List.mem_filterMap.2 ⟨A', List.mem_of_getElem? hk, hA⟩)
    cases i with
    | zero =>
      simp at h1; subst h1
      cases j with
      | zero => rfl
      | succ j => exact (head h3 (by simpa using h2) h4).elim
    | succ i =>
      cases j with
      | zero => simp at h2; subst h2; exact (head h4 (by simpa using h1) h3).elim
      | succ j => exact congrArg (· + 1) (back_inj tail (i := i) (j := j) (A := A) (A' := A') (by simpa using h1) (by simpa using h2) h3 h4)

theorem FRep_ref {w : World} {F : Nat → Prop} {x : AV Γ.X} {u : Value} {R : List Nat} (hx : FRep w F x u R) {Q : Nat → Prop} : RefG Q x := by
  induction hx with
  | u h => cases h <;> exact trivial
  | tup l us Ss hl _ ih =>
    refine RefGL_mk fun y hy => ?_
    obtain ⟨i, hi, rfl⟩ := List.mem_iff_getElem.1 hy
    exact ih i _ (us[i]'(by omega)) (List.getElem?_eq_getElem hi) (List.getElem?_eq_getElem (by omega))
  | fn f as bs us vs hl hl' _ _ ih ih' =>
    refine ⟨RefGL_mk fun y hy => ?_, RefGL_mk fun y hy => ?_⟩
    · obtain ⟨i, hi, rfl⟩ := List.mem_iff_getElem.1 hy
      exact ih i _ (us[i]'(by omega)) (List.getElem?_eq_getElem hi) (List.getElem?_eq_getElem (by omega))
    · obtain ⟨i, hi, rfl⟩ := List.mem_iff_getElem.1 hy
      exact ih' i _ (vs[i]'(by omega)) (List.getElem?_eq_getElem hi) (List.getElem?_eq_getElem (by omega))
  | box => trivial
/-- What the callee gave lies where it belongs. -/
theorem EnvRel.land (h : EnvRel N F0 B U w0 F S e a w) {g : Nat} (hg : ¬ U g) {d : Option Nat} (hd : ∀ k, d = some k → N.ok k) {as : List (Arg Γ.X)} (nd : (as.filterMap (·.back)).Nodup) {outs : List (AV Γ.X)} {e0 : Env Γ.X} {u2 : Ups Γ.X}
    (hgb : giveBack e0 g as outs = some u2) (hbe : ∀ (i : Nat) A s, as[i]? = some A → A.back = some s → e s = e0 s) {vals : List Value} (hlen : vals.length = as.length) (hval : ∀ (i : Nat) A u s, as[i]? = some A → vals[i]? = some u → A.back = some s → u = a.tmps.getD s Go.undef)
    {w' : World} {F2 : Nat → Prop} {R : List Nat} {So : Nat → List Nat} {x : AV Γ.X} {v : Value} (hB : BelowP (fun b => w.heap.size ≤ b ∨ ∃ i, b ∈ ownArg as S i) w w') (hx : FRep w' F2 x v R)
    (hO : ∀ (i : Nat) (A : Arg Γ.X) s x v, as[i]? = some A → A.back = some s → outs[i]? = some x → vals[i]? = some v → FRep w' F2 x v (So i)) (hRn : R.Nodup) (hSn : ∀ i, (So i).Nodup) (hSS : ∀ i j b, i ≠ j → b ∈ So i → b ∉ So j) (hSR : ∀ i b, b ∈ So i → b ∉ R)
    (hown : ∀ b, (b ∈ R ∨ ∃ i, b ∈ So i) → (w.heap.size ≤ b ∨ ∃ i, b ∈ ownArg as S i) ∧ b < w'.heap.size ∧ ¬ F2 b) (hF : ∀ b, F b → F2 b) (hF2 : ∀ b, F2 b → (F b ∨ w.heap.size ≤ b ∨ ∃ i, b ∈ ownArg as S i) ∧ b < w'.heap.size) :
    Sim N F0 B (withG U g) w0 (applyU e (u2 ++ outU d (genV g x))) (a.put d v) w' := by
  classical
  obtain ⟨hol, hgs⟩ := giveBack_spec (e1 := e) hgb
  -- whose blocks
  have hOwn : ∀ {i : Nat} {b : Nat}, b ∈ ownArg as S i → ∃ A s, as[i]? = some A ∧ A.back = some s ∧ b ∈ S s := fun {i b} hb => by
    unfold ownArg at hb
    cases hai : as[i]? with
    | none => rw [hai] at hb; simp at hb
    | some A =>
      rw [hai] at hb
      cases hbk : A.back with
      | none => simp [hbk] at hb
      | some s => simp [hbk] at hb; exact ⟨A, s, rfl, hbk, hb⟩
  have hFkeep : ∀ b, F b → w'.heap[b]? = w.heap[b]? := fun b hb => hB.block b (h.free b hb) fun hh => by
    rcases hh with hh | ⟨i, hh⟩
    · have := h.free b hb; omega
    · obtain ⟨A, s, _, _, hs⟩ := hOwn hh
      exact (h.own s b hs).2.2 hb
  have hSkeep : ∀ t, (∀ (i : Nat) A, as[i]? = some A → A.back ≠ some t) → ∀ b ∈ S t, w'.heap[b]? = w.heap[b]? := fun t ht b hb => hB.block b (h.own t b hb).2.1 fun hh => by
    rcases hh with hh | ⟨i, hh⟩
    · have := (h.own t b hb).2.1; omega
    · obtain ⟨A, s, q1, q2, hs⟩ := hOwn hh
      exact h.apart s t b (fun he => ht i A q1 (he ▸ q2)) hs hb
  -- the slots
  let idx : Nat → Option Nat := fun t => if hh : ∃ (i : Nat) (A : Arg Γ.X), as[i]? = some A ∧ A.back = some t then some (Classical.choose hh) else none
  let S3 : Nat → List Nat := fun t => if d = some t then R else match idx t with | some i => So i | none => S t
  have hidx : ∀ {i : Nat} {A : Arg Γ.X} {t : Nat}, as[i]? = some A → A.back = some t → idx t = some i := fun {i A t} h1 h2 => by
    have hh : ∃ (i : Nat) (A : Arg Γ.X), as[i]? = some A ∧ A.back = some t := ⟨i, A, h1, h2⟩
    show (if hh : ∃ (i : Nat) (A : Arg Γ.X), as[i]? = some A ∧ A.back = some t then some (Classical.choose hh) else none) = some i
    rw [dif_pos hh]
    obtain ⟨A', q1, q2⟩ := Classical.choose_spec hh
    rw [back_inj nd q1 h1 q2 h2]
  have hidn : ∀ {t : Nat}, (∀ (i : Nat) A, as[i]? = some A → A.back ≠ some t) → idx t = none := fun {t} hn => by
    show (if hh : ∃ (i : Nat) (A : Arg Γ.X), as[i]? = some A ∧ A.back = some t then some (Classical.choose hh) else none) = none
    rw [dif_neg]
    rintro ⟨i, A, h1, h2⟩
    exact hn i A h1 h2
  have hidx' : ∀ {t i : Nat}, idx t = some i → ∃ A : Arg Γ.X, as[i]? = some A ∧ A.back = some t := fun {t i} hi => by
    by_cases hh : ∃ (i : Nat) (A : Arg Γ.X), as[i]? = some A ∧ A.back = some t
    · obtain ⟨j, A, h1, h2⟩ := hh
      have := hidx h1 h2
      rw [hi] at this; cases this
      exact ⟨A, h1, h2⟩
    · have : idx t = none := hidn fun i A h1 h2 => hh ⟨i, A, h1, h2⟩
      rw [hi] at this; cases this
  have hput : ∀ t, (a.put d v).tmps.getD t Go.undef = if d = some t then v else a.tmps.getD t Go.undef := fun t => by
    cases d with
    | none => simp [Act.put]
    | some k =>
      rw [getD_put a k t v (h.size ▸ (hd k rfl).1)]
      by_cases ht : t = k
      · subst ht; simp
      · rw [if_neg ht, if_neg (fun hh => ht (Option.some.inj hh).symm)]
  have hap : ∀ t, applyU e (u2 ++ outU d (genV g x)) t = if d = some t then genV g x else applyU e u2 t := fun t => by
    rw [applyU_append]
    cases d with
    | none => rfl
    | some k =>
      show upd _ k _ t = _
      by_cases ht : t = k
      · subst ht; rw [upd_same]; simp
      · rw [upd_ne _ _ ht, if_neg (fun hh => ht (Option.some.inj hh).symm)]
  generalize he3 : applyU e (u2 ++ outU d (genV g x)) = e3 at hap ⊢
  have st : ∀ t, (d = some t ∧ e3 t = genV g x ∧ S3 t = R ∧ (a.put d v).tmps.getD t Go.undef = v) ∨
      (d ≠ some t ∧ (a.put d v).tmps.getD t Go.undef = a.tmps.getD t Go.undef ∧ ∃ (i : Nat) (A : Arg Γ.X) (g0 g' : Nat) (T : Γ.X.Ty) (v v0 : Γ.X.den T) (m m0 : Own), as[i]? = some A ∧ A.back = some t ∧ outs[i]? = some (.box g0 T v m) ∧ e t = .box g' T v0 m0 ∧ e3 t = .box g' T v (m.gen g) ∧ S3 t = So i) ∨
      (d ≠ some t ∧ (a.put d v).tmps.getD t Go.undef = a.tmps.getD t Go.undef ∧ (∀ (i : Nat) A, as[i]? = some A → A.back ≠ some t) ∧ e3 t = e t ∧ S3 t = S t) := fun t => by
    by_cases hdt : d = some t
    · exact .inl ⟨hdt, by rw [hap, if_pos hdt], by show (if d = some t then R else _) = R; rw [if_pos hdt], by rw [hput, if_pos hdt]⟩
    · rcases hgs t with ⟨i, A, g0, g', T, v, v0, m, m0, h1, h2, h3, h4, h5⟩ | ⟨h1, h2⟩
      · refine .inr (.inl ⟨hdt, by rw [hput, if_neg hdt], i, A, g0, g', T, v, v0, m, m0, h1, h2, h3, (hbe i A t h1 h2).trans h4, by rw [hap, if_neg hdt]; exact h5, ?_⟩)
        show (if d = some t then R else match idx t with | some i => So i | none => S t) = So i
        rw [if_neg hdt, hidx h1 h2]
      · refine .inr (.inr ⟨hdt, by rw [hput, if_neg hdt], h1, by rw [hap, if_neg hdt]; exact h2, ?_⟩)
        show (if d = some t then R else match idx t with | some i => So i | none => S t) = S t
        rw [if_neg hdt, hidn h1]
  have hgU : ∀ {o : Own}, OGen (· = g) o → OGen (fun q => ¬ U q) o := fun ho => ho.imp fun q (hq : q = g) hu => hg (hq ▸ hu)
  have hk : Kept U e a w e3 (a.put d v) w' := by
    refine ⟨fun t q g' b ty l' hqf hug hc => ?_, fun t g' T1 v1 o1 hug hb => ?_⟩
    · rcases st t with ⟨h1, h2, _⟩ | ⟨h1, h2, i, A, g0, gg, T, vv, v0, m, m0, h3, h4, h5, h6, h7, h8⟩ | ⟨h1, h2, h3, h4, h5⟩
      · exact absurd hug (cont_gen (P := fun q => ¬ U q) (by rw [h2]; exact (OwnsG_gen g x).imp fun q (hq : q = g) hu => hg (hq ▸ hu)) hc)
      · exfalso
        unfold cont at hc
        rw [h7] at hc
        simp only [slotC] at hc
        split at hc
        · rename_i b1 t1 l1 g1 hg1 ho1
          split at hc
          · rename_i hgg
            subst hgg
            exact ownAt_gen (P := fun q => ¬ U q) (hgU (OGen_gen g m)) ho1 hug
          · cases hc
        · cases hc
      · rw [cont_congr h4] at hc
        refine ⟨l', hc, rfl, hdr_congr h4 h2 (fun g T v o hes => ?_) q⟩
        obtain ⟨b', cells, ty', S', k1, k2, k3, k4⟩ := h.boxAt hes
        exact ⟨b', k1, hSkeep t h3 b' (by rw [k4]; simp)⟩
    · rcases st t with ⟨h1, h2, _⟩ | ⟨h1, h2, i, A, g0, gg, T, vv, v0, m, m0, h3, h4, h5, h6, h7, h8⟩ | ⟨h1, h2, h3, h4, h5⟩
      · have := OwnsG_gen g x
        rw [← h2, hb] at this
        exact absurd (show g' = g from this.1) fun hh => hg (hh ▸ hug)
      · rw [h7] at hb; cases hb
        exact ⟨v0, m0, h6, h2⟩
      · exact ⟨v1, o1, by rw [← h4, hb], h2⟩
  have memB : ∀ {b : Nat}, (w.heap.size ≤ b ∨ ∃ i, b ∈ ownArg as S i) → B b := fun {b} hh => by
    rcases hh with hh | ⟨i, hh⟩
    · exact h.base b hh
    · obtain ⟨A, s, _, _, hs⟩ := hOwn hh
      exact (h.own s b hs).1
  have inS3 : ∀ {t b : Nat}, b ∈ S3 t → ((b ∈ R ∨ ∃ i, b ∈ So i)) ∨ ((∀ (i : Nat) A, as[i]? = some A → A.back ≠ some t) ∧ b ∈ S t) := fun {t b} hb => by
    rcases st t with ⟨_, _, h3, _⟩ | ⟨_, _, i, _, _, _, _, _, _, _, _, _, _, _, _, _, h8⟩ | ⟨_, _, h3, _, h5⟩
    · rw [h3] at hb; exact .inl (.inl hb)
    · rw [h8] at hb; exact .inl (.inr ⟨i, hb⟩)
    · rw [h5] at hb; exact .inr ⟨h3, hb⟩
  have oldNew : ∀ {t b : Nat}, (∀ (i : Nat) A, as[i]? = some A → A.back ≠ some t) → b ∈ S t → (w.heap.size ≤ b ∨ ∃ i, b ∈ ownArg as S i) → False := fun {t b} hn hb hh => by
    rcases hh with hh | ⟨i, hh⟩
    · have := (h.own t b hb).2.1; omega
    · obtain ⟨A, s, q1, q2, hs⟩ := hOwn hh
      exact h.apart s t b (fun he => hn i A q1 (he ▸ q2)) hs hb
  refine ⟨F2, S3, ?_, ?_, ?_, ?_, ?_, ?_, ?_, ?_, ?_, ?_, ?_, ?_, ?_, ?_⟩
  · cases d <;> simp [Act.put, h.size]
  · intro s u hsu
    rw [hput, if_neg]
    · exact h.lent s u hsu
    · intro hds
      exact (hd s hds).2 (s, u) hsu rfl
  · cases d <;> simp [Act.put, h.defers]
  · intro t
    rcases st t with ⟨h1, h2, h3, h4⟩ | ⟨h1, h2, i, A, g0, gg, T, vv, v0, m, m0, h3, h4, h5, h6, h7, h8⟩ | ⟨h1, h2, h3, h4, h5⟩
    · rw [h2, h3, h4]; exact (hx.toS _ _).gen g
    · obtain ⟨u, hu⟩ : ∃ u, vals[i]? = some u := ⟨_, List.getElem?_eq_getElem (by rw [hlen]; exact (List.getElem?_eq_some_iff.1 h3).1)⟩
      have := (hO i A t _ u h3 h4 h5 hu).toS e3 (a.put d v)
      rw [h7, h8, h2, ← hval i A u t h3 hu h4]
      generalize So i = Si at this
      cases this with
      | u h => cases h
      | box _ _ _ _ b cells ty S' hgc hv => exact .box gg T vv _ b cells ty S' hgc (hv.gen g)
    · rw [h4, h5, h2]
      exact (h.rep t).step hF hFkeep hk (h.refs t) (hSkeep t h3)
  · intro t
    rcases st t with ⟨h1, h2, h3, h4⟩ | ⟨h1, h2, i, A, g0, gg, T, vv, v0, m, m0, h3, h4, h5, h6, h7, h8⟩ | ⟨h1, h2, h3, h4, h5⟩
    · rw [h2]; exact (OwnsG_gen g x).imp fun q hq => .inr hq
    · rw [h7]
      have := h.owns t
      rw [h6] at this
      exact ⟨.inl this.1, (OGen_gen g m).imp fun q hq => .inr hq⟩
    · rw [h4]; exact (h.owns t).imp fun q hq => .inl hq
  · intro t
    rcases st t with ⟨h1, h2, h3, h4⟩ | ⟨h1, h2, i, A, g0, gg, T, vv, v0, m, m0, h3, h4, h5, h6, h7, h8⟩ | ⟨h1, h2, h3, h4, h5⟩
    · rw [h2]
      exact RefG_gen g (FRep_ref hx)
    · rw [h7]; trivial
    · rw [h4]; exact (h.refs t).imp fun q hq => .inl hq
  · intro t
    rcases st t with ⟨_, _, h3, _⟩ | ⟨_, _, i, _, _, _, _, _, _, _, _, _, _, _, _, _, h8⟩ | ⟨_, _, h3, _, h5⟩
    · rw [h3]; exact hRn
    · rw [h8]; exact hSn i
    · rw [h5]; exact h.nodup t
  · intro s t b hst hbs hbt
    rcases st s with ⟨p1, _, p3, _⟩ | ⟨p1, _, i, A, _, _, _, _, _, _, _, q1, q2, _, _, _, p8⟩ | ⟨_, _, p3, _, p5⟩ <;> rcases st t with ⟨r1, _, r3, _⟩ | ⟨r1, _, j, A', _, _, _, _, _, _, _, s1, s2, _, _, _, r8⟩ | ⟨_, _, r3, _, r5⟩
    · rw [p1] at r1; exact hst (Option.some.inj r1)
    · rw [p3] at hbs; rw [r8] at hbt; exact hSR j b hbt hbs
    · rw [p3] at hbs; rw [r5] at hbt; exact oldNew r3 hbt (hown b (.inl hbs)).1
    · rw [p8] at hbs; rw [r3] at hbt; exact hSR i b hbs hbt
    · rw [p8] at hbs; rw [r8] at hbt
      refine hSS i j b (fun hij => ?_) hbs hbt
      subst hij
      rw [q1] at s1; cases s1
      rw [q2] at s2; exact hst (Option.some.inj s2)
    · rw [p8] at hbs; rw [r5] at hbt; exact oldNew r3 hbt (hown b (.inr ⟨i, hbs⟩)).1
    · rw [p5] at hbs; rw [r3] at hbt; exact oldNew p3 hbs (hown b (.inl hbt)).1
    · rw [p5] at hbs; rw [r8] at hbt; exact oldNew p3 hbs (hown b (.inr ⟨j, hbt⟩)).1
    · rw [p5] at hbs; rw [r5] at hbt; exact h.apart s t b hst hbs hbt
  · intro t b hb
    rcases inS3 hb with hb | ⟨hn, hb⟩
    · obtain ⟨k1, k2, k3⟩ := hown b hb
      exact ⟨memB k1, k2, k3⟩
    · obtain ⟨k1, k2, k3⟩ := h.own t b hb
      refine ⟨k1, Nat.lt_of_lt_of_le k2 hB.size, fun hf => ?_⟩
      rcases (hF2 b hf).1 with hf | hf
      · exact k3 hf
      · exact oldNew hn hb hf
  · exact fun b hb => (hF2 b hb).2
  · intro b hb
    rcases (hF2 b hb).1 with hf | hf
    · exact h.old b hf
    · exact .inr (memB hf)
  · exact fun b hb => hF b (h.keeps b hb)
  · exact h.below.trans (hB.wider fun k _ hk => memB hk)
  · exact fun b hb => h.base b (Nat.le_trans hB.size hb)
end
end
end Go.A2
