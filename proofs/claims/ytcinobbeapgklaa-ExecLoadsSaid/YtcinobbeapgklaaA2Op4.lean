/- YtcinobbeapgklaaA2Op4: parts of results, closures, least and greatest, lengths. No statement of the seat is proved here. -/
import Derived.Test.YtcinobbeapgklaaA2Op3
namespace Go.A2
section
variable {P : Program} {Γ : Cx}
theorem OwnsGL_set {Q : Nat → Prop} : ∀ {l : List (AV Γ.X)} (_ : OwnsGL Q l) (i : Nat), OwnsGL Q (l.set i .undef)
  | [], _, _ => trivial
  | _ :: _, h, 0 => ⟨trivial, h.2⟩
  | _ :: _, h, i + 1 => ⟨h.1, OwnsGL_set h.2 i⟩
theorem RefGL_set {Q : Nat → Prop} : ∀ {l : List (AV Γ.X)} (_ : RefGL Q l) (i : Nat), RefGL Q (l.set i .undef)
  | [], _, _ => trivial
  | _ :: _, h, 0 => ⟨trivial, h.2⟩
  | _ :: _, h, i + 1 => ⟨h.1, RefGL_set h.2 i⟩

section
variable {K : List Nat} {N : Slots} {F0 B U : Nat → Prop} {w0 : World} {F : Nat → Prop} {S : Nat → List Nat} {e : Env Γ.X} {a : Act} {w : World}
/-- A slot that references don't look at may turn. -/
theorem EnvRel.keptT (h : EnvRel N F0 B U w0 F S e a w) {s : Nat} {x : AV Γ.X} (hx : slotC x = none) : Kept U e a w (upd e s x) a w := by
  have h0 := h.kept (e' := upd e s .undef) (a' := a) (w' := w) fun t => by
    by_cases ht : t = s
    · subst ht; exact .inr (by rw [upd_same]; trivial)
    · exact .inl ⟨upd_ne e _ ht, rfl, fun _ _ => rfl⟩
  refine ⟨fun t q g b ty l' hqf hg hc => ?_, fun t g T1 v1 o1 hg hb => ?_⟩
  · by_cases ht : t = s
    · subst ht
      unfold cont at hc
      rw [upd_same, hx] at hc
      cases hc
    · obtain ⟨l, k1, k2, k3⟩ := h0.ref t q g b ty l' hqf hg (by rw [cont_congr (e := upd e s x) (by rw [upd_ne e _ ht, upd_ne e _ ht])]; exact hc)
      refine ⟨l, k1, k2, ?_⟩
      rw [← k3]
      unfold hdr
      rw [upd_ne e _ ht, upd_ne e _ ht]
  · by_cases ht : t = s
    · subst ht
      rw [upd_same] at hb
      rw [hb] at hx; cases hx
    · rw [upd_ne e _ ht] at hb
      exact h0.box t g T1 v1 o1 hg (by rw [upd_ne e _ ht]; exact hb)

section steps
variable {T0 T1 T2 : Option Γ.X.Ty} {g : Nat} {o : Oper} {us : Ups Γ.X} {ans : Ret Γ.X} (hX : TabOk Γ.X) (h : EnvRel N F0 B U w0 F S e a w) (hg : ¬ U g) (hd : ∀ k, o.dst = some k → N.ok k)

section
variable {next : Act → World → Prop} {Q : Exit → Act → World → Prop} (hnext : ∀ a' w', Sim N F0 B (withG U g) w0 (applyU e us) a' w' → next a' w')
include hX h hg hd hnext

theorem step_extract {Y : Operand} {x : AX Γ.X} {i : Nat} (ho : o.op = .extract Y i) (hx : compX Γ K T0 Y = some x) (hs : eff ans g e o.dst (.extract x i) = some us) : o.wp P a w next Q := by
  have _ := hX
  simp only [eff] at hs
  cases x with
  | t s =>
    simp only [] at hs
    have hY := compX_slot (.inl hx)
    subst hY
    cases hes : e s with
    | tup l =>
      simp only [hes] at hs
      have hr := h.rep s
      have hrf := h.refs s
      have how := h.owns s
      rw [hes] at hr hrf how
      have hev : a.eval (.tmp s) = a.tmps.getD s Go.undef := rfl
      generalize hu : a.tmps.getD s Go.undef = u at hr
      generalize hS : S s = R at hr
      cases hr with
      | u h => cases h
      | tup _ us' Ss hl hp =>
        cases hli : l[i]? with
        | none => simp [hli] at hs
        | some y =>
          have hil : i < l.length := (List.getElem?_eq_some_iff.1 hli).1
          obtain ⟨q, hq⟩ : ∃ q, us'[i]? = some q := ⟨us'[i]'(by omega), List.getElem?_eq_getElem (by omega)⟩
          have hrun : (execOp a.eval o).run P w = .ok (.value q) w := by
            simp only [execOp, ho, Instr.extract, hev, hu]
            simp [hq]
          have hyr := hp i y q hli hq
          have hyf := RefGL_get hrf hli
          unfold Oper.wp
          rw [hrun]
          show next (a.put o.dst q) w
          cases y with
          | val T v m =>
            simp only [hli] at hs
            split at hs
            · rename_i hpo
              cases hs
              obtain ⟨cs, k1, k2⟩ := SRep.valInv hyr
              obtain ⟨_, hSi⟩ := k1.toPure hpo
              rw [hSi] at k1
              exact hnext _ _ (h.outV hd hg hpo k1 k2)
            · cases hs
              obtain ⟨r, hr1, hr2⟩ := cat_split Ss hil
              have hnd := h.nodup s
              rw [hS, hr1] at hnd
              obtain ⟨n1, n2, n3⟩ := nodup_parts hnd
              have hk : Kept U e a w (upd e s (.tup (l.set i .undef))) a w := h.keptT rfl
              have hturn := h.turn (s := s) (x := .tup (l.set i .undef)) (T := cat Ss i ++ r) (w' := w) (F' := F) (U' := U) (a' := a) rfl rfl (fun _ _ => rfl) (fun _ _ => rfl) hk (fun _ h => h) (fun _ h => h) (fun _ _ => rfl) (fun _ _ _ _ => rfl) (.refl _ _) (fun b hb => .inl hb)
                (by
                  rw [hu]
                  have := SRep.tup (e := upd e s (.tup (l.set i .undef))) (a := a) (w := w) (F := F) (l.set i .undef) us' (fun k => if k = i then [] else Ss k) (by rw [List.length_set]; exact hl) fun k x u hx hu => by
                    by_cases hki : k = i
                    · subst hki
                      rw [List.getElem?_set_self hil] at hx
                      cases hx
                      simp only [if_true]
                      exact .u (.undef u)
                    · rw [List.getElem?_set_ne (Ne.symm hki)] at hx
                      simp only [hki, if_false]
                      exact (hp k x u hx hu).step (fun _ h => h) (fun _ _ => rfl) hk (RefGL_get hrf hx) fun _ _ => rfl
                  rw [List.length_set, hr2 _ fun k hk => by simp [show k ≠ i by omega], cat_congr (g := Ss) fun k hk => by simp [show k ≠ i by omega]] at this
                  simpa using this)
                (OwnsGL_set how i) (RefGL_set hrf i) n1
                (fun b hb => h.own s b (by rw [hS, hr1]; rcases List.mem_append.1 hb with hb | hb <;> simp [hb]))
                (fun b hb t ht => h.apart s t b (Ne.symm ht) (by rw [hS, hr1]; rcases List.mem_append.1 hb with hb | hb <;> simp [hb]))
              have hh : Hand B U F (updS S s (cat Ss i ++ r)) (upd e s (.tup (l.set i .undef))) a w (.val T v (m.gen g)) q (Ss i) := by
                refine ⟨(hyr.step (fun _ h => h) (fun _ _ => rfl) hk hyf fun _ _ => rfl).gen g, trivial, n2, fun b hb => h.own s b (by rw [hS, hr1]; simp [hb]), fun b hb t => ?_⟩
                by_cases hts : t = s
                · subst hts; rw [updS_same]; exact n3 b hb
                · rw [updS_ne S _ hts]
                  exact h.apart s t b (Ne.symm hts) (by rw [hS, hr1]; simp [hb])
              refine hnext _ _ ?_
              rw [applyU_append]
              exact hturn.out hd hg hh (OGen_gen g m)
          | fn f as bs =>
            simp only [hli] at hs
            cases hs
            have hSi : Ss i = [] := by
              generalize Ss i = R at hyr
              cases hyr with
              | u h => cases h
              | fn => rfl
            rw [hSi] at hyr
            exact hnext _ _ (h.out hd hg (Hand.ofPure hyr hyf) trivial)
          | _ => simp [hli] at hs
    | _ => simp [hes] at hs
  | v s => simp at hs
  | c y => simp at hs
end

section
include hX h hg hd

omit hX h hg hd in
theorem capRef_some {y z : AV Γ.X} (hz : capRef y = some z) {u : Value} {R : List Nat} (hr : SRep e a w F y u R) (hrf : RefG U y) : SRep e a w F z u [] ∧ RefG U z := by
  cases y with
  | ptr b q =>
    simp only [capRef, Option.some.injEq] at hz; subst hz
    have := ptr_nil hr
    subst this
    exact ⟨hr, hrf⟩
  | rptr T v =>
    simp only [capRef, Option.some.injEq] at hz; subst hz
    cases hr with
    | u h => cases h with
      | rptr T v b o cs hb hc hp => exact ⟨.u (.rptr T v b o cs hb hc hp), trivial⟩
  | val T v m =>
    simp only [capRef] at hz
    split at hz
    · rename_i hpo
      cases hz
      obtain ⟨cs, k1, k2⟩ := SRep.valInv hr
      exact ⟨.u (.val T v .no u cs [] (.pure (k1.toPure hpo).1) k2), trivial⟩
    · cases hz
  | _ => simp [capRef] at hz

omit hg hd in
theorem caps_some {Ys : List Operand} {xs : List (AX Γ.X)} (hx : allO (compX Γ K none) Ys = some xs) {zs : List (AV Γ.X)} (hz : allO (fun x => capRef (Go.A2.rd e x)) xs = some zs) :
    zs.length = (Ys.map a.eval).length ∧ (∀ (i : Nat) z u, zs[i]? = some z → (Ys.map a.eval)[i]? = some u → SRep e a w F z u []) ∧ RefGL U zs := by
  obtain ⟨h1, h2⟩ := allO_spec hx
  obtain ⟨h3, h4⟩ := allO_spec hz
  have key : ∀ (i : Nat) z, zs[i]? = some z → ∃ Y, Ys[i]? = some Y ∧ SRep e a w F z (a.eval Y) [] ∧ RefG U z := fun i z hi => by
    obtain ⟨x, hxi, hcr⟩ := allO_get' hz hi
    obtain ⟨Y, hYi, hcx⟩ := allO_get' hx hxi
    obtain ⟨R, k1, k2, _⟩ := h.rd hX hcx
    obtain ⟨k3, k4⟩ := capRef_some hcr k1 k2
    exact ⟨Y, hYi, k3, k4⟩
  refine ⟨by simp [h3, h1], fun i z u hi hu => ?_, RefGL_mk fun z hz' => ?_⟩
  · obtain ⟨Y, hYi, k1, _⟩ := key i z hi
    rw [List.getElem?_map, hYi] at hu
    simp at hu; subst hu
    exact k1
  · obtain ⟨i, hi, rfl⟩ := List.mem_iff_getElem.1 hz'
    obtain ⟨_, _, _, k2⟩ := key i _ (List.getElem?_eq_getElem hi)
    exact k2

theorem look_makeFunc {f : Nat} {first caps : Array Operand} {xs ys : List (AX Γ.X)} (ho : o.op = .makeFunc (.func f) first caps) (hx : allO (compX Γ K none) first.toList = some xs) (hy : allO (compX Γ K none) caps.toList = some ys)
    (hs : eff ans g e o.dst (.makeFunc f xs ys) = some us) : Looks N F0 B U w0 P e a w g o us := by
  simp only [eff] at hs
  split at hs
  · rename_i as bs h1 h2
    cases hs
    obtain ⟨k1, k2, k3⟩ := caps_some hX h hx h1
    obtain ⟨q1, q2, q3⟩ := caps_some hX h hy h2
    refine ⟨.func (.func f) (first.toList.map a.eval).toArray (caps.toList.map a.eval).toArray, ?_, h.out hd hg (Hand.ofPure (.fn f as bs _ _ k1 q1 k2 q2) ⟨k3, q3⟩) trivial⟩
    simp only [execOp, ho, Instr.makeFunc]
    have e1 : ∀ A : Array Operand, A.map a.eval = (A.toList.map a.eval).toArray := fun A => by rw [← Array.toList_inj]; simp
    rw [e1 first, e1 caps]
    rfl
  · cases hs

omit hX h hg hd in
theorem mm_run (isMax : Bool) {k : IntKind} : ∀ {l : List (AV Γ.X)} {us : List Value} {x z : W k}, mmI k isMax x l = some z → us.length = l.length → (∀ (i : Nat) y u, l[i]? = some y → us[i]? = some u → ∀ n : W k, valOf y (.int k) = some n → u = .int k n.n) →
    (us.foldlM (if isMax then Builtin.max2 else Builtin.min2) (.int k x.n)).run P w = .ok (.int k z.n) w
  | [], us, x, z, hz, hl, _ => by
    have : us = [] := List.eq_nil_of_length_eq_zero (by simpa using hl)
    subst this
    simp only [mmI, Option.some.injEq] at hz; subst hz; rfl
  | y :: l, us, x, z, hz, hl, hu => by
    cases us with
    | nil => cases hl
    | cons u us =>
      simp only [mmI] at hz
      cases hy : valOf y (.int k) with
      | none => simp [hy] at hz
      | some n =>
        simp only [hy] at hz
        have hu0 : u = .int k n.n := hu 0 y u rfl rfl n hy
        subst hu0
        have ih := mm_run isMax hz (by simpa using hl) fun i y u hi hui => hu (i + 1) y u (by simpa using hi) (by simpa using hui)
        simp only [List.foldlM_cons, Sem.run_bind]
        cases isMax
        · have : (Builtin.min2 (.int k x.n) (.int k n.n)).run P w = .ok (.int k (W.min x n).n) w := by
            show Result.ok (Value.int k (if n.n < x.n then n.n else x.n)) w = _
            unfold W.min
            by_cases hlt : n.n < x.n <;> simp [hlt]
          simp only [Bool.false_eq_true, if_false] at ih ⊢
          rw [this]
          simpa using ih
        · have : (Builtin.max2 (.int k x.n) (.int k n.n)).run P w = .ok (.int k (W.max x n).n) w := by
            show Result.ok (Value.int k (if n.n > x.n then n.n else x.n)) w = _
            unfold W.max
            by_cases hlt : x.n < n.n <;> simp [hlt]
          simp only [if_true] at ih ⊢
          rw [this]
          simpa using ih

omit hX h hg hd in
theorem argsC_spec : ∀ {ts : List TypeId} {Ys : List Operand} {xs : List (AX Γ.X)}, argsC Γ K ts Ys = some xs → xs.length = Ys.length ∧ ∀ (i : Nat) x, xs[i]? = some x → ∃ T Y, Ys[i]? = some Y ∧ compX Γ K T Y = some x
  | ts, [], xs, hh => by simp [argsC] at hh; subst hh; simp
  | ts, Y :: Ys, xs, hh => by
    simp only [argsC] at hh
    split at hh
    · rename_i y ys h1 h2
      simp only [Option.some.injEq] at hh; subst hh
      obtain ⟨h3, h4⟩ := argsC_spec h2
      refine ⟨by simp [h3], fun i x hi => ?_⟩
      cases i with
      | zero => simp at hi; subst hi; exact ⟨_, Y, rfl, h1⟩
      | succ i => simpa using h4 i x (by simpa using hi)
    · cases hh

omit hg hd in
theorem valOf_int {Y : Operand} {T : Option Γ.X.Ty} {x : AX Γ.X} (hx : compX Γ K T Y = some x) {k : IntKind} {n : W k} (hv : valOf (Go.A2.rd e x) (.int k) = some n) : a.eval Y = .int k n.n := by
  unfold valOf at hv
  split at hv
  · rename_i T' v m hr
    obtain ⟨rfl, hv⟩ := castT_some hv
    simp only at hv; subst hv
    exact h.rdInt hX hx hr
  · cases hv

theorem look_mm {c : Call} {isMax : Bool} {ts : List TypeId} {xs : List (AX Γ.X)} (ho : o.op = .call c) (hc : c.callee = .builtin (if isMax then .max else .min)) (hx : argsC Γ K ts c.args.toList = some xs)
    (hs : eff ans g e o.dst (.mm isMax xs) = some us) : Looks N F0 B U w0 P e a w g o us := by
  obtain ⟨h1, h2⟩ := argsC_spec hx
  simp only [eff] at hs
  split at hs
  · rename_i k n on l hl
    obtain ⟨z, hz, hs⟩ := Option.bind_eq_some_iff.1 hs
    cases hs
    cases xs with
    | nil => cases hl
    | cons x xs =>
      simp only [List.map_cons, List.cons.injEq] at hl
      obtain ⟨hx0, rfl⟩ := hl
      cases hY : c.args.toList with
      | nil => rw [hY] at h1; cases h1
      | cons Y Ys =>
        rw [hY] at h1 h2
        obtain ⟨TT, Y', hY', hcx⟩ := h2 0 x rfl
        simp at hY'; subst hY'
        have e0 := h.rdInt hX hcx hx0
        have hrun := mm_run (P := P) (w := w) isMax hz (us := Ys.map a.eval) (by simpa using h1.symm) fun i y u hi hu n hn => by
          rw [List.getElem?_map] at hi hu
          cases hxi : xs[i]? with
          | none => simp [hxi] at hi
          | some xi =>
            simp [hxi] at hi; subst hi
            obtain ⟨Ti, Yi, hYi, hcxi⟩ := h2 (i + 1) xi (by simpa using hxi)
            simp at hYi
            rw [hYi] at hu
            simp at hu; subst hu
            exact valOf_int hX h hcxi hn
        refine ⟨.int k z.n, ?_, h.outInt hd hg _ _⟩
        simp only [execOp, ho, resolve, hc]
        have hargs : c.args.toList.map a.eval = .int k n.n :: Ys.map a.eval := by rw [hY]; simp [e0]
        cases isMax
        · simp only [Bool.false_eq_true, if_false] at hrun ⊢
          simp [invoke, builtin, Builtin.min_, hargs, hrun]
        · simp only [if_true] at hrun ⊢
          simp [invoke, builtin, Builtin.max_, hargs, hrun]
  · cases hs

omit hX h hg hd in
theorem len_arg {c : Call} {ts : List TypeId} {x : AX Γ.X} (hx : argsC Γ K ts c.args.toList = some [x]) : ∃ T Y, c.args = #[Y] ∧ compX Γ K T Y = some x := by
  obtain ⟨h1, h2⟩ := argsC_spec hx
  obtain ⟨TT, Y, hY, hcx⟩ := h2 0 x rfl
  refine ⟨TT, Y, ?_, hcx⟩
  rw [← Array.toList_inj]
  cases hl : c.args.toList with
  | nil => rw [hl] at h1; cases h1
  | cons Z Zs =>
    rw [hl] at h1 hY
    simp at h1 hY
    rw [hY, ← h1]

theorem look_lenStr {c : Call} {t : TypeId} {ts : List TypeId} {x : AX Γ.X} (ho : o.op = .call c) (hc : c.callee = .builtin .len) (hx : argsC Γ K ts c.args.toList = some [x]) (hty : c.argTypes[0]? = some t) (ht : P.underlying t = some .string)
    (hs : eff ans g e o.dst (.len true x) = some us) : Looks N F0 B U w0 P e a w g o us := by
  obtain ⟨TT, Y, ha, hcx⟩ := len_arg hx
  simp only [eff] at hs
  split at hs
  · rename_i s os hr
    cases hs
    have e0 := h.rdStr hX hcx hr
    refine ⟨.int .i64 (Str.len s).n, ?_, h.outInt hd hg _ _⟩
    have hsz : (⟨s.l.toArray⟩ : ByteArray).size = s.l.length := by simp [ByteArray.size]
    simp only [execOp, ho, resolve, hc, ha]
    simp [invoke, builtin, Builtin.len_, hty, run_underlying' ht, e0, goInt, hsz, Str.len]
  · cases hs
theorem look_lenS {c : Call} {t el : TypeId} {ts : List TypeId} {x : AX Γ.X} (ho : o.op = .call c) (hc : c.callee = .builtin .len) (hx : argsC Γ K ts c.args.toList = some [x]) (hty : c.argTypes[0]? = some t) (ht : P.underlying t = some (.slice el))
    (hs : eff ans g e o.dst (.len false x) = some us) : Looks N F0 B U w0 P e a w g o us := by
  obtain ⟨TT, Y, ha, hcx⟩ := len_arg hx
  simp only [eff] at hs
  obtain ⟨⟨b, t', l⟩, hl, hs⟩ := Option.bind_eq_some_iff.1 hs
  cases hs
  obtain ⟨ad, cap, css, hu, _⟩ := h.rdSl hX hcx hl
  refine ⟨.int .i64 l.len.n, ?_, h.outInt hd hg _ _⟩
  simp only [execOp, ho, resolve, hc, ha]
  simp [invoke, builtin, Builtin.len_, hty, run_underlying' ht, hu, goInt, Sl.len]
end
end steps
end
end
end Go.A2
