/- YtcinobbeapgklaaA2Keys2: which slots an operation turns . No statement of the seat is proved here. -/
import Derived.Test.YtcinobbeapgklaaA2Keys
namespace Go.A2
section
variable {X : Tab} {e e' : Env X}
/-- An operation turns what its footprint says. -/
theorem eff_key {ans : Ret X} {g : Nat} {d : Option Nat} {op : AOp X} {u : Ups X} (h : eff ans g e d op = some u) : ∀ y ∈ u, y.1 ∈ keysOf e d op := fun y hy => by
  have out : ∀ {v : AV X}, some (outU d v) = some u → y.1 ∈ keysOf e d op := fun {v} hv => by
    cases hv; exact List.mem_append_left _ (mem_outU hy)
  have outB : ∀ {α : Type} {o : Option α} {f : α → AV X}, (o.bind fun z => some (outU d (f z))) = some u → y.1 ∈ keysOf e d op := fun {α o f} hv => by
    obtain ⟨z, _, hz⟩ := Option.bind_eq_some_iff.1 hv
    exact out hz
  have app : ∀ {u1 : Ups X} {v : AV X} {ks : List Nat}, u1 ++ outU d v = u → (∀ y ∈ u1, y.1 ∈ ks) → keysOf e d op = d.toList ++ ks → y.1 ∈ keysOf e d op := fun {u1 v ks} hu hk hko => by
    subst hu
    rw [hko]
    rcases List.mem_append.1 hy with hy | hy
    · exact List.mem_append_right _ (hk y hy)
    · exact List.mem_append_left _ (mem_outU hy)
  cases op with
  | move x =>
    cases x with
    | c z => exact out (v := z) (by simpa only [eff] using h)
    | t s =>
      simp only [eff] at h
      split at h
      · rename_i T v o hes
        split at h
        · exact out h
        · rename_i hp
          exact app (u1 := [(s, .undef)]) (ks := mvK e (.t s)) (Option.some.inj h) (fun z hz => by simp only [List.mem_singleton] at hz; subst hz; simp [mvK, hes, hp]) rfl
      · rename_i l hes
        exact app (u1 := [(s, .undef)]) (ks := mvK e (.t s)) (Option.some.inj h) (fun z hz => by simp only [List.mem_singleton] at hz; subst hz; simp [mvK, hes]) rfl
      · exact out h
    | v s =>
      simp only [eff] at h
      split at h
      · cases h
      · exact out h
      · rename_i T v o hn hes
        split at h
        · exact out h
        · rename_i hp
          split at h
          · refine app (u1 := [(s, .val T v .no)]) (ks := mvK e (.v s)) (Option.some.inj h) (fun z hz => ?_) rfl
            simp only [List.mem_singleton] at hz; subst hz
            show s ∈ mvK e (.v s)
            simp only [mvK, hes]
            rw [if_neg hp]; simp
          · cases h
      · exact out h
  | load T x => exact loadV_key (by simpa only [eff] using h) y hy
  | store T x v =>
    simp only [eff] at h
    split at h
    · rename_i T' v' o u1 ht
      split at h
      · obtain ⟨u2, h2, rfl⟩ := Option.map_eq_some_iff.1 h
        rcases List.mem_append.1 hy with hy | hy
        · exact List.mem_append_right _ (List.mem_append_left _ (take_key ht y hy))
        · refine List.mem_append_right _ (List.mem_append_right _ ?_)
          have hk := storeV_key h2 y hy
          -- the pointer is as it was
          have hsoft := take_softP ht
          have key : ∀ s, (∃ b q, Go.A2.rd (applyU e u1) (.v s) = .ptr b q) → Go.A2.rd (applyU e u1) (.v s) = Go.A2.rd e (.v s) := fun s hp => by
            rcases hsoft s with h1 | h1 | ⟨T, v, o, m, h1, h3, _⟩
            · simp only [Go.A2.rd]; rw [h1]
            · obtain ⟨b, q, hp⟩ := hp
              simp only [Go.A2.rd, h1] at hp; cases hp
            · rcases slotC_some h1 with hes | ⟨g', hes⟩
              · rw [hes] at h3
                simp only [withMask] at h3
                obtain ⟨b, q, hp⟩ := hp
                simp only [Go.A2.rd, h3] at hp
                exfalso
                cases T <;> first | cases hp | (cases m <;> cases hp)
              · rw [hes] at h3
                simp only [withMask] at h3
                simp only [Go.A2.rd, h3, hes]
          have hptr : ∃ b q, Go.A2.rd (applyU e u1) x = .ptr b q := by
            cases hr : Go.A2.rd (applyU e u1) x with
            | ptr b q => exact ⟨b, q, rfl⟩
            | _ => rw [hr] at h2; simp [storeV] at h2
          have hrd : Go.A2.rd (applyU e u1) x = Go.A2.rd e x := by
            cases x with
            | c z => rfl
            | t s => exact key s hptr
            | v s => exact key s hptr
          rw [hrd] at hk; exact hk
      · cases h
    · cases h
  | box T x =>
    simp only [eff] at h
    split at h
    · rename_i T' v o u1 ht
      split at h
      · exact app (u1 := u1) (ks := tk e x) (Option.some.inj h) (take_key ht) rfl
      · cases h
    · cases h
  | alloc T => exact out (by simpa only [eff] using h)
  | bin o a b => simp only [eff] at h; exact outB (f := id) h
  | un o a => simp only [eff] at h; exact outB (f := id) h
  | bad => cases h
  | isNil n x => cases h
  | build i ps =>
    simp only [eff] at h
    split at h
    · rename_i vs u1 ht
      split at h
      · exact app (u1 := u1) (ks := ps.flatMap fun q => tk e q.2) (Option.some.inj h) (takeAll_key ht) rfl
      · cases h
    · cases h
  | buildA n t ps =>
    simp only [eff] at h
    split at h
    · rename_i vs u1 ht
      split at h
      · split at h
        · exact app (u1 := u1) (ks := ps.flatMap fun q => tk e q.2) (Option.some.inj h) (takeAll_key ht) rfl
        · cases h
      · cases h
    · cases h
  | buildSlice b t n ps =>
    simp only [eff] at h
    split at h
    · rename_i vs u1 ht
      split at h
      · split at h
        · obtain ⟨l, _, h⟩ := Option.bind_eq_some_iff.1 h
          exact app (u1 := u1) (ks := ps.flatMap fun q => tk e q.2) (Option.some.inj h) (takeAll_key ht) rfl
        · cases h
      · cases h
    · cases h
  | append b t x z =>
    simp only [eff] at h
    split at h
    · rename_i b1 t1 l1 u1 zf hg
      split at h
      · split at h
        · split at h
          · obtain ⟨l, _, h⟩ := Option.bind_eq_some_iff.1 h
            exact app (u1 := u1) (ks := grabK e x) (Option.some.inj h) (grab_key hg) rfl
          · exact app (u1 := u1) (ks := grabK e x) (Option.some.inj h) (grab_key hg) rfl
        · cases h
      · cases h
    · cases h
  | slice T x lo hi mx =>
    simp only [eff] at h
    split at h
    · rename_i T' v o u1 lo' hi' mx' ht _ _ _
      split at h
      · split at h
        · obtain ⟨l, _, h⟩ := Option.bind_eq_some_iff.1 h
          exact app (u1 := u1) (ks := tk e x) (Option.some.inj h) (take_key ht) rfl
        · cases h
      · cases h
    · cases h
  | call f args =>
    simp only [eff] at h
    split at h
    · rename_i f' as hc
      exact afterCall_key (Rs := args.flatMap fun x => rootsOf (Go.A2.rd e x)) (fun a ha => by
        simp only [callArgs] at hc
        split at hc
        · rename_i as' h1
          simp only [Option.some.injEq, Prod.mk.injEq] at hc
          obtain ⟨_, rfl⟩ := hc
          obtain ⟨i, hi, rfl⟩ := List.mem_iff_getElem.1 ha
          obtain ⟨x, hx, hax⟩ := allO_get' h1 (List.getElem?_eq_getElem hi)
          obtain ⟨q1, q2⟩ := argV_roots hax
          have hm := List.mem_of_getElem? hx
          exact ⟨fun s hs => List.mem_flatMap.2 ⟨x, hm, q1 s hs⟩, fun r hr => List.mem_flatMap.2 ⟨x, hm, q2 r hr⟩⟩
        · cases hc) h y hy
    · cases h
  | callv x args =>
    simp only [eff] at h
    split at h
    · rename_i f' as hc
      exact afterCall_key (Rs := args.flatMap fun x => rootsOf (Go.A2.rd e x)) (fun a ha => by
        simp only [callArgs] at hc
        split at hc
        · split at hc
          · rename_i as' fs cs h1 h2 h3
            simp only [Option.some.injEq, Prod.mk.injEq] at hc
            obtain ⟨_, rfl⟩ := hc
            have capc : ∀ {l : List (AV X)} {r : List (Arg X)}, allO (capArg e) l = some r → a ∈ r → (∀ s, a.back = some s → s ∈ args.flatMap fun x => rootsOf (Go.A2.rd e x)) ∧ ∀ q ∈ a.roots, q.1 ∈ args.flatMap fun x => rootsOf (Go.A2.rd e x) := fun {l r} h1 ha => by
              obtain ⟨i, hi, rfl⟩ := List.mem_iff_getElem.1 ha
              obtain ⟨x, hx, hax⟩ := allO_get' h1 (List.getElem?_eq_getElem hi)
              obtain ⟨q1, q2⟩ := capArg_roots hax
              rw [q1, q2]; simp
            rcases List.mem_append.1 ha with ha | ha
            · rcases List.mem_append.1 ha with ha | ha
              · exact capc h2 ha
              · obtain ⟨i, hi, rfl⟩ := List.mem_iff_getElem.1 ha
                obtain ⟨x, hx, hax⟩ := allO_get' h1 (List.getElem?_eq_getElem hi)
                obtain ⟨q1, q2⟩ := argV_roots hax
                have hm := List.mem_of_getElem? hx
                exact ⟨fun s hs => List.mem_flatMap.2 ⟨x, hm, q1 s hs⟩, fun r hr => List.mem_flatMap.2 ⟨x, hm, q2 r hr⟩⟩
            · exact capc h3 ha
          · cases hc
        · cases hc) h y hy
    · cases h
  | conv k x => simp only [eff] at h; split at h <;> first | exact out h | cases h
  | part i j x => simp only [eff] at h; repeat' split at h
                  all_goals first | exact out h | cases h
  | fld i j x => simp only [eff] at h; repeat' split at h
                 all_goals first | exact out h | cases h
  | nilCheck x => simp only [eff] at h; repeat' split at h
                  all_goals first | exact out h | cases h
  | eq T n a b => simp only [eff] at h; repeat' split at h
                  all_goals first | exact out h | cases h
  | makeFunc f a b => simp only [eff] at h; split at h <;> first | exact out h | cases h
  | idxStr x i => simp only [eff] at h; split at h <;> first | exact outB h | cases h
  | makeSlice b t l c => simp only [eff] at h; split at h <;> first | exact outB h | cases h
  | mm m args => simp only [eff] at h; split at h <;> first | exact outB h | cases h
  | pick c a b => simp only [eff] at h; split at h <;> first | exact outB h | cases h
  | idxV n t x i => simp only [eff] at h; repeat' split at h
                    all_goals first | exact outB h | cases h
  | idxA n t x i => simp only [eff] at h; repeat' split at h
                    all_goals first | exact outB h | cases h
  | idxS b t x i => simp only [eff] at h; repeat' split at h
                    all_goals first | exact outB h | cases h
  | len b x =>
    cases b with
    | true => simp only [eff] at h; split at h <;> first | exact out h | cases h
    | false =>
      simp only [eff] at h
      obtain ⟨⟨b', t', l⟩, _, h⟩ := Option.bind_eq_some_iff.1 h
      exact out h
  | extract x i =>
    simp only [eff] at h
    split at h
    · rename_i s
      split at h
      · rename_i l hes
        split at h
        · rename_i T v o hl
          split at h
          · exact out h
          · exact app (u1 := [(s, .tup (l.set i .undef))]) (ks := mvK e (.t s)) (Option.some.inj h) (fun z hz => by simp only [List.mem_singleton] at hz; subst hz; simp [mvK, hes]) rfl
        · exact out h
        · cases h
      · cases h
    · cases h
end
end Go.A2
