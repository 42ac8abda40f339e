/- YtcinobbeapgklaaA2Fn: what the machine computes of a function is what the function gives. No statement of the seat is proved here. -/
import Derived.Test.YtcinobbeapgklaaA2Exec2
namespace Go.A2
section
variable {P : Program} {Γ : Cx}
section
variable {K : List Nat} {N : Slots} {F0 B U : Nat → Prop} {w0 : World} {F : Nat → Prop} {S : Nat → List Nat} {e : Env Γ.X} {a : Act} {w : World} {C : CK Γ.X}

def resRun (tmps : Array Value) : ResultVar → Sem Value
  | .tmp t => pure (tmps.getD t Go.undef)
  | .cell p t => do loadVar t (← asAddr (tmps.getD p Go.undef))
theorem results_eq (fn : Func) (tmps : Array Value) : Go.results fn tmps = (do
    let vs ← List.toArray <$> fn.results.toList.mapM (resRun tmps)
    pure (if h : vs.size = 1 then vs[0] else .tuple vs)) := by
  have h1 : Go.results fn tmps = (do
    let vs ← fn.results.mapM (resRun tmps)
    pure (if h : vs.size = 1 then vs[0] else .tuple vs)) := by
    unfold Go.results
    congr 1
  rw [h1, Array.mapM_eq_mapM_toList]

/-- A value in hand leaves the frame. -/
theorem EnvRel.leave (h : EnvRel N F0 B U w0 F S e a w) {T : Γ.X.Ty} {v : Γ.X.den T} {o : Own} {cs : List Value} {R : List Nat} {u : Value} (hv : VRep w F T v o cs R) (hu : valOk T cs u) (hal : o.alive = true) (hn : R.Nodup) (ho : ∀ b ∈ R, B b ∧ b < w.heap.size ∧ ¬ F b)
    (hap : ∀ b ∈ R, ∀ s, b ∉ S s) (fz : Bool) : ∃ F1 R1, EnvRel N F0 B U w0 F1 S e a w ∧ (∀ b, F b → F1 b) ∧ (∀ b, F1 b → F b ∨ b ∈ R) ∧ URep w F1 (.val T v (if fz then .no else o.gen 0)) u R1 ∧ R1.Nodup ∧ (∀ b ∈ R1, b ∈ R ∧ ¬ F1 b) := by
  cases fz with
  | false => exact ⟨F, R, h, fun _ h => h, fun b hb => .inl hb, .val T v _ u cs R (hv.gen 0) hu, hn, fun b hb => ⟨hb, (ho b hb).2.2⟩⟩
  | true =>
    refine ⟨fun b => F b ∨ b ∈ R, [], h.world (fun _ h => .inl h) (fun _ _ => rfl) (fun _ _ _ => rfl) (.refl _ _) fun b hb => hb.imp_right fun hb => ⟨(ho b hb).1, (ho b hb).2.1, hap b hb⟩, fun _ h => .inl h, fun _ h => h, ?_, List.nodup_nil, by simp⟩
    exact .val T v .no u cs [] (.pure (hv.freeze (fun _ h => .inl h) (fun _ h => .inr h) hal)) hu

theorem EnvRel.resOne (hX : TabOk Γ.X) (h : EnvRel N F0 B U w0 F S e a w) {rv : ResultVar} {fz : Bool} {r : ARes Γ.X × Bool} (hr : compRes P Γ (rv, fz) = some r) {v : AV Γ.X} {e1 : Env Γ.X} (ho : Go.A2.resOne e r = some (v, e1)) :
    ∃ u F1 S1 T, (resRun a.tmps rv).run P w = .ok u w ∧ EnvRel N F0 B U w0 F1 S1 e1 a w ∧ Less F S F1 S1 ∧ URep w F1 v u T ∧ T.Nodup ∧ (∀ b ∈ T, B b ∧ b < w.heap.size ∧ ¬ F1 b) ∧ (∀ b ∈ T, ∀ s, b ∉ S1 s) ∧ (∀ b ∈ T, ∃ s, b ∈ S s) := by
  -- with what is in hand
  have fin : ∀ {S1 : Nat → List Nat} {e2 : Env Γ.X} {T : Γ.X.Ty} {y : Γ.X.den T} {o : Own} {cs : List Value} {R : List Nat} {u : Value}, (resRun a.tmps rv).run P w = .ok u w → EnvRel N F0 B U w0 F S1 e2 a w → (∀ s b, b ∈ S1 s → b ∈ S s) → VRep w F T y o cs R → valOk T cs u → o.alive = true → R.Nodup →
      (∀ b ∈ R, ∃ s, b ∈ S s) → (∀ b ∈ R, ∀ s, b ∉ S1 s) → v = .val T y (if fz then .no else o.gen 0) → e1 = e2 →
      ∃ u F1 S1 T, (resRun a.tmps rv).run P w = .ok u w ∧ EnvRel N F0 B U w0 F1 S1 e1 a w ∧ Less F S F1 S1 ∧ URep w F1 v u T ∧ T.Nodup ∧ (∀ b ∈ T, B b ∧ b < w.heap.size ∧ ¬ F1 b) ∧ (∀ b ∈ T, ∀ s, b ∉ S1 s) ∧ (∀ b ∈ T, ∃ s, b ∈ S s) := fun {S1 e2 T y o cs R u} hrun k1 ksub hv hu hal hn hin hap hve hee => by
    subst hve hee
    obtain ⟨F1, R1, g1, g2, g3, g4, g5, g6⟩ := k1.leave hv hu hal hn (fun b hb => by obtain ⟨s, hs⟩ := hin b hb; exact h.own s b hs) hap fz
    refine ⟨u, F1, S1, R1, hrun, g1, ⟨g2, fun b hb => (g3 b hb).imp_right fun hb => hin b hb, ksub⟩, g4, g5, fun b hb => ?_, fun b hb => hap b (g6 b hb).1, fun b hb => hin b (g6 b hb).1⟩
    obtain ⟨s, hs⟩ := hin b (g6 b hb).1
    exact ⟨(h.own s b hs).1, (h.own s b hs).2.1, (g6 b hb).2⟩
  have dropSub : ∀ s t b, b ∈ updS S s [] t → b ∈ S t := fun s t b hb => by
    by_cases ht : t = s
    · subst ht; rw [updS_same] at hb; cases hb
    · rwa [updS_ne S _ ht] at hb
  cases rv with
  | tmp t =>
    simp only [compRes, Option.some.injEq] at hr; subst hr
    simp only [Go.A2.resOne] at ho
    split at ho
    · rename_i r q g hes
      split at ho
      · rename_i b ty l us hc hu
        simp only [Option.some.injEq, Prod.mk.injEq] at ho
        obtain ⟨rfl, rfl⟩ := ho
        have hgr : Go.A2.grab e (.v t) = some ⟨b, ty, l, us, false⟩ := by simp only [Go.A2.grab, hes, hc, hu]
        obtain ⟨S1, m, R, k1, k2, k3, k4, k5, k6, k7⟩ := h.grab hX (K := [t]) (T0 := none) (Y := .tmp t) (x := .v t) (by simp [compX, inK]) hgr
        have hn : R.Nodup := by
          obtain ⟨_, _, _, _, _, _, alt⟩ := grabbed k2 (by rcases k3 with ⟨h, _⟩ | h; exact .inl h; exact .inr h)
          rcases alt with ⟨_, rfl, _⟩ | ⟨blk, _, _, _, rfl, _⟩ <;> simp
        have hev : a.eval (.tmp t) = a.tmps.getD t Go.undef := rfl
        rw [hev] at k2
        have hv : ∃ g', VRep w F (.slice b ty) l (.yes g') [a.tmps.getD t Go.undef] R := by
          rcases k3 with ⟨rfl, hz | hl⟩ | ⟨g', rfl⟩
          · cases hz
          · obtain ⟨ad, hcs⟩ := full_inv k2
            obtain ⟨_, hR⟩ := k2.toPure rfl
            subst hR
            rw [hcs, hl]
            exact ⟨0, .ownNil b ty l 0 ad hl⟩
          · exact ⟨g', k2⟩
        obtain ⟨g', hv⟩ := hv
        exact fin rfl k1 k7 hv (by unfold valOk; rw [if_neg (by simp [aggB])]) rfl hn k6 k5 rfl rfl
      · cases ho
    · rename_i T y o hes
      split at ho
      · rename_i hal
        simp only [Option.some.injEq, Prod.mk.injEq] at ho
        obtain ⟨rfl, rfl⟩ := ho
        obtain ⟨cs, k1, k2⟩ := h.valAt hes
        refine fin rfl (h.drop t) (dropSub t) k1 k2 hal (h.nodup t) (fun b hb => ⟨t, hb⟩) (fun b hb s hs => ?_) rfl rfl
        by_cases hst : s = t
        · subst hst; rw [updS_same] at hs; cases hs
        · rw [updS_ne S _ hst] at hs; exact h.apart t s b (Ne.symm hst) hb hs
      · cases ho
    · cases ho
  | cell p t =>
    simp only [compRes] at hr
    obtain ⟨T, hT, rfl⟩ := Option.map_eq_some_iff.1 hr
    simp only [Go.A2.resOne] at ho
    split at ho
    · rename_i g T' y o hes
      split at ho
      · rename_i y' hy
        obtain ⟨rfl, hy⟩ := castT_some hy
        simp only at hy; subst hy
        split at ho
        · rename_i hal
          simp only [Option.some.injEq, Prod.mk.injEq] at ho
          obtain ⟨rfl, rfl⟩ := ho
          obtain ⟨b, cells, ty, S', k1, k2, k3, k4⟩ := h.boxAt hes
          have hl := k3.length hX
          obtain ⟨uu, hu1, hu2⟩ : ∃ uu, (loadVar t ⟨b, 0, none⟩).run P w = .ok uu w ∧ valOk T' cells.toList uu := by
            have := run_loadVar' (P := P) (w := w) (t := t) (T := T') hT (b := b) (o := 0) (cs := cells.toList) hl (fun j v hj => by rw [Nat.zero_add, cell_of k2]; simpa using hj)
            exact this
          have hnd := h.nodup p
          rw [k4] at hnd
          refine fin (u := uu) ?_ (h.drop p) (dropSub p) k3 hu2 hal (List.nodup_cons.1 hnd).2 (fun b' hb => ⟨p, by rw [k4]; simp [hb]⟩) (fun b' hb s hs => ?_) rfl rfl
          · simp only [resRun, k1, asAddr]
            simpa using hu1
          · by_cases hst : s = p
            · subst hst; rw [updS_same] at hs; cases hs
            · rw [updS_ne S _ hst] at hs; exact h.apart p s b' (Ne.symm hst) (by rw [k4]; simp [hb]) hs
        · cases ho
      · cases ho
    · cases ho

/-- Results, one behind the other. -/
inductive URepL (w : World) (F : Nat → Prop) : List (AV Γ.X) → List Value → List (List Nat) → Prop where
  | nil : URepL w F [] [] []
  | cons {x u R xs us Rs} (h : URep w F x u R) (t : URepL w F xs us Rs) : URepL w F (x :: xs) (u :: us) (R :: Rs)
theorem URepL.get {xs : List (AV Γ.X)} {us : List Value} {Rs : List (List Nat)} (h : URepL (Γ := Γ) w F xs us Rs) : xs.length = us.length ∧ Rs.length = xs.length ∧ ∀ (i : Nat) x u, xs[i]? = some x → us[i]? = some u → URep w F x u (Rs.getD i []) := by
  induction h with
  | nil => simp
  | cons h _ ih =>
    obtain ⟨h1, h2, h3⟩ := ih
    refine ⟨by simp [h1], by simp [h2], fun i x u hx hu => ?_⟩
    cases i with
    | zero => simp at hx hu; subst hx hu; exact h
    | succ i => simpa using h3 i x u (by simpa using hx) (by simpa using hu)

theorem EnvRel.resAll (hX : TabOk Γ.X) : ∀ {prs : List (ResultVar × Bool)} {rs : List (ARes Γ.X × Bool)} {F : Nat → Prop} {S : Nat → List Nat} {e : Env Γ.X} (_ : EnvRel N F0 B U w0 F S e a w) (_ : allO (compRes P Γ) prs = some rs) {vs : List (AV Γ.X)} {e1 : Env Γ.X} (_ : Go.A2.resAll e rs = some (vs, e1)),
    ∃ us F1 S1 Rs, ((prs.map (·.1)).mapM (resRun a.tmps)).run P w = .ok us w ∧ EnvRel N F0 B U w0 F1 S1 e1 a w ∧ Less F S F1 S1 ∧ URepL (Γ := Γ) w F1 vs us Rs ∧ Rs.flatten.Nodup ∧ (∀ b ∈ Rs.flatten, B b ∧ b < w.heap.size ∧ ¬ F1 b) ∧ (∀ b ∈ Rs.flatten, ∀ s, b ∉ S1 s) ∧ (∀ b ∈ Rs.flatten, ∃ s, b ∈ S s)
  | [], rs, F, S, e, h, hr, vs, e1, ho => by
    simp [allO] at hr; subst hr
    simp [Go.A2.resAll] at ho
    obtain ⟨rfl, rfl⟩ := ho
    exact ⟨[], F, S, [], rfl, h, .refl _ _, .nil, by simp, by simp, by simp, by simp⟩
  | (rv, fz) :: prs, rs, F, S, e, h, hr, vs, e1, ho => by
    simp only [allO] at hr
    split at hr
    · rename_i r rs' hr1 hr2
      simp only [Option.some.injEq] at hr; subst hr
      simp only [Go.A2.resAll] at ho
      split at ho
      · rename_i v e2 ho1
        split at ho
        · rename_i vs' e3 ho2
          simp only [Option.some.injEq, Prod.mk.injEq] at ho
          obtain ⟨rfl, rfl⟩ := ho
          obtain ⟨u, F1, S1, R, g1, g2, g3, g4, g5, g6, g7, g8⟩ := h.resOne hX hr1 ho1
          obtain ⟨us, F2, S2, Rs, k1, k2, k3, k4, k5, k6, k7, k8⟩ := EnvRel.resAll hX g2 hr2 ho2
          have hRF : ∀ b ∈ R, ¬ F2 b := fun b hb hf => by
            rcases k3.from_ b hf with hf | ⟨s, hs⟩
            · exact (g6 b hb).2.2 hf
            · exact g7 b hb s hs
          refine ⟨u :: us, F2, S2, R :: Rs, ?_, k2, g3.trans k3, .cons (g4.mono k3.keeps (fun _ _ => rfl) fun _ _ => rfl) k4, ?_, ?_, ?_, ?_⟩
          · rw [List.map_cons, List.mapM_cons]
            simp only [Sem.run_bind, g1, Result.andThen_ok, k1]
            rfl
          · rw [List.flatten_cons]
            refine List.nodup_append.2 ⟨g5, k5, fun x hx y hy he => ?_⟩
            subst he
            obtain ⟨s, hs⟩ := k8 x hy
            exact g7 x hx s hs
          · intro b hb
            rw [List.flatten_cons] at hb
            rcases List.mem_append.1 hb with hb | hb
            · exact ⟨(g6 b hb).1, (g6 b hb).2.1, hRF b hb⟩
            · exact k6 b hb
          · intro b hb s hs
            rw [List.flatten_cons] at hb
            rcases List.mem_append.1 hb with hb | hb
            · exact g7 b hb s (k3.owned s b hs)
            · exact k7 b hb s hs
          · intro b hb
            rw [List.flatten_cons] at hb
            rcases List.mem_append.1 hb with hb | hb
            · exact g8 b hb
            · obtain ⟨s, hs⟩ := k8 b hb
              exact ⟨s, g3.owned s b hs⟩
        · cases ho
      · cases ho
    · cases hr

theorem entry_get (args : List (AV Γ.X)) (s : Nat) : entry args s = match args[s]? with | some x => genV 0 x | none => .undef := by
  have gen : ∀ (l : List (AV Γ.X)) (k s : Nat), mkE ((l.zipIdx k).map fun (v, i) => (i, genV 0 v)) s = if k ≤ s then (match l[s - k]? with | some x => genV 0 x | none => .undef) else .undef := fun l => by
    induction l with
    | nil => intro k s; simp [mkE]
    | cons x l ih =>
      intro k s
      simp only [List.zipIdx_cons, List.map_cons, mkE, ih]
      by_cases hs : s = k
      · subst hs; simp
      · rw [if_neg hs]
        by_cases hk : k ≤ s
        · rw [if_pos hk, if_pos (by omega)]
          rw [show s - k = (s - (k + 1)) + 1 by omega, List.getElem?_cons_succ]
        · rw [if_neg hk, if_neg (by omega)]
  have := gen args 0 s
  simpa [entry] using this

/-- A function is compiled so. -/
def Compiled (P : Program) (Γ : Cx) (f : Nat) (af : AFn Γ.X) : Prop := ∃ (x : FnX) (fn : Func) (c : Code) (j : Nat), P.funcs[f]? = some fn ∧ fn.body = some c ∧ (fn.name == "runtime.NumGoroutine") = false ∧
  (∃ body, compCode P Γ x.mk' x.keep fn.ntmps x.lent 1 c = some (body, j) ∧ af.body = trimIt Γ x.mk' 0 body) ∧ allO (compRes P Γ) (fn.results.toList.zip x.res) = some af.res ∧ af.res.length = fn.results.size ∧ af.np ≤ fn.ntmps ∧ af.keep = x.keep ∧ af.lent = x.lent

/-- A function's run. -/
theorem fn_sound (hm : P.follows .mixedOrders = true) (hX : TabOk Γ.X) (hC : CSound P C) (hD : DrawSound P Γ C) {f Nf : Nat} {af : AFn Γ.X} (hcomp : Compiled P Γ f af) {args : List (AV Γ.X)} {r : Ret Γ.X} (hr : runFnT C Nf af args some = some r) : Spec P f args r := by
  obtain ⟨x, fn, c, j, hf, hb, hname, ⟨body, hcode, hbody⟩, hres, hrl, hnp, hkeep, hlentq⟩ := hcomp
  refine ⟨⟨fn, hf, by simp [hb], hname⟩, fun w F0 vals Ss hF0 hlen hargs hSn hSS hS0 => ?_⟩
  unfold runFnT at hr
  split at hr
  · rename_i hal
    have hsz : vals.toArray.size ≤ fn.ntmps := by simp [← hlen, hal]; exact hnp
    refine calls_of_wp hf hb ?_
    let V : List (Nat × Value) := (vals.zipIdx.filter fun q => inK x.lent q.2).map fun q => (q.2, q.1)
    let N : Slots := ⟨fn.ntmps, V⟩
    have hV : ∀ i u, (i, u) ∈ V ↔ (vals[i]? = some u ∧ inK x.lent i = true) := fun i u => by
      show (i, u) ∈ ((vals.zipIdx.filter fun q => inK x.lent q.2).map fun q => (q.2, q.1)) ↔ _
      simp only [List.mem_map, List.mem_filter, Prod.mk.injEq, Prod.exists]
      constructor
      · rintro ⟨a, b, ⟨h1, h2⟩, rfl, rfl⟩
        exact ⟨List.mem_zipIdx_iff_getElem?.1 h1, h2⟩
      · rintro ⟨h1, h2⟩
        exact ⟨u, i, ⟨List.mem_zipIdx_iff_getElem?.2 h1, h2⟩, rfl, rfl⟩
    have hN : N.fits fn.ntmps x.lent := ⟨rfl, fun q hq => ((hV q.1 q.2).1 hq).2⟩
    have htm : ∀ s u, vals[s]? = some u → (vals.toArray ++ Array.replicate (fn.ntmps - vals.toArray.size) Go.undef).getD s Go.undef = u := fun s u hs => by
      have hlt := (List.getElem?_eq_some_iff.1 hs).1
      have he := (List.getElem?_eq_some_iff.1 hs).2
      simp [Array.getD_eq_getD_getElem?, Array.getElem?_append, hlt, he]
    -- the start
    let S0 : Nat → List Nat := fun s => if s < vals.length then Ss s else []
    have hS0' : ∀ s b, b ∈ S0 s → b ∈ Ss s := fun s b hb => by
      have hb : b ∈ (if s < vals.length then Ss s else []) := hb
      split at hb
      · exact hb
      · cases hb
    have h0 : EnvRel N F0 (fun b => w.heap.size ≤ b ∨ ∃ i, b ∈ Ss i) (· < 1) w F0 S0 (entry args) { tmps := vals.toArray ++ Array.replicate (fn.ntmps - vals.toArray.size) Go.undef, defers := [] } w := by
      have at_ : ∀ s, SRep (entry args) { tmps := vals.toArray ++ Array.replicate (fn.ntmps - vals.toArray.size) Go.undef, defers := [] } w F0 (entry args s) ((vals.toArray ++ Array.replicate (fn.ntmps - vals.toArray.size) Go.undef).getD s Go.undef) (S0 s) ∧ OwnsG (· < 1) (entry args s) ∧ RefG (· < 1) (entry args s) := fun s => by
        show SRep _ _ _ _ _ _ (if s < vals.length then Ss s else []) ∧ _
        by_cases hs : s < vals.length
        · rw [if_pos hs]
          obtain ⟨u, hu⟩ : ∃ u, vals[s]? = some u := ⟨_, List.getElem?_eq_getElem hs⟩
          obtain ⟨y, hy⟩ : ∃ y, args[s]? = some y := ⟨_, List.getElem?_eq_getElem (by omega)⟩
          rw [htm s u hu]
          have hen : entry args s = genV 0 y := by rw [entry_get, hy]
          rw [hen]
          exact ⟨((hargs s y u hy hu).toS _ _).gen 0, (OwnsG_gen 0 y).imp fun g (hg : g = 0) => show g < 1 by omega, RefG_gen 0 (FRep_ref (hargs s y u hy hu))⟩
        · rw [if_neg hs]
          have hen : entry args s = .undef := by rw [entry_get, List.getElem?_eq_none (by omega)]
          rw [hen]
          exact ⟨.u (.undef _), trivial, trivial⟩
      refine ⟨?_, ?_, rfl, fun s => (at_ s).1, fun s => (at_ s).2.1, fun s => (at_ s).2.2, ?_, ?_, ?_, hF0, fun b hb => .inl hb, fun _ h => h, .refl _ _, fun b hb => .inl hb⟩
      · show (vals.toArray ++ Array.replicate (fn.ntmps - vals.toArray.size) Go.undef).size = fn.ntmps
        simp at hsz ⊢; omega
      · intro s u hsu
        exact htm s u ((hV s u).1 hsu).1
      · intro s
        show (if s < vals.length then Ss s else []).Nodup
        split
        · exact hSn s
        · exact List.nodup_nil
      · exact fun s t b hst h1 h2 => hSS s t b hst (hS0' s b h1) (hS0' t b h2)
      · exact fun s b hb => ⟨.inr ⟨s, hS0' s b hb⟩, (hS0 s b (hS0' s b hb)).1, (hS0 s b (hS0' s b hb)).2⟩
    rw [hkeep, hbody] at hr
    obtain ⟨k2, hr2, hk2⟩ := trimIt_run hX hr
    refine Sim.exec hm hX hC hD Nf hN c hcode ⟨F0, S0, h0⟩ hr2 (hk2 fun xx e a' w' hsim hk => ?_)
    have post : optK (results e af) some = some r → a'.defers = [] ∧ ∃ v, (Go.results fn a'.tmps).run P w' = .ok v w' ∧ ∃ (v0 : Value) (F' : Nat → Prop) (R : List Nat) (So : Nat → List Nat), Ending.returned v = .returned v0 ∧ BelowP (fun b => w.heap.size ≤ b ∨ ∃ i, b ∈ Ss i) w w' ∧
        FRep w' F' r.1 v0 R ∧ (∀ (i : Nat) x v, r.2[i]? = some x → vals[i]? = some v → FRep w' F' x v (So i)) ∧
        R.Nodup ∧ (∀ i, (So i).Nodup) ∧ (∀ i j b, i ≠ j → b ∈ So i → b ∉ So j) ∧ (∀ i b, b ∈ So i → b ∉ R) ∧
        (∀ b, (b ∈ R ∨ ∃ i, b ∈ So i) → (w.heap.size ≤ b ∨ ∃ i, b ∈ Ss i) ∧ b < w'.heap.size ∧ ¬ F' b) ∧
        (∀ b, F0 b → F' b) ∧ ∀ b, F' b → (F0 b ∨ w.heap.size ≤ b ∨ ∃ i, b ∈ Ss i) ∧ b < w'.heap.size := fun hk => by
      obtain ⟨r', hr', hrr⟩ := optK_some hk
      simp only [Option.some.injEq] at hrr; subst hrr
      obtain ⟨F, S, h⟩ := hsim
      unfold Go.A2.results at hr'
      split at hr'
      · rename_i vs e1 hall
        simp only [Option.some.injEq] at hr'; subst hr'
        obtain ⟨us, F1, S1, Rs, k1, k2, k3, k4, k5, k6, k7, k8⟩ := h.resAll hX hres hall
        have hfst : (fn.results.toList.zip x.res).map (·.1) = fn.results.toList := by
          have hz := (allO_spec hres).1
          rw [hrl] at hz
          refine List.map_fst_zip ?_
          rw [List.length_zip] at hz
          simp at hz ⊢; omega
        rw [hfst] at k1
        have hrun : (Go.results fn a'.tmps).run P w' = .ok (if hh : us.toArray.size = 1 then us.toArray[0] else .tuple us.toArray) w' := by
          rw [results_eq]
          simp only [Sem.run_bind]
          simp only [Sem.run_map, k1, Result.andThen_ok]
          rfl
        have hSo : ∀ i b, b ∈ (if inK x.lent i = true ∧ i < af.np then (match e1 i with | .box _ _ _ _ => S1 i | _ => []) else []) → b ∈ S1 i := fun i b hb => by
          split at hb
          · split at hb
            · exact hb
            · cases hb
          · cases hb
        refine ⟨h.defers, _, hrun, _, F1, Rs.flatten, fun i => if inK x.lent i = true ∧ i < af.np then (match e1 i with | .box _ _ _ _ => S1 i | _ => []) else [], rfl, k2.below, ?_, ?_, k5, ?_, ?_, ?_, ?_, k2.keeps, fun b hb => ⟨k2.old b hb, k2.free b hb⟩⟩
        · obtain ⟨l1, l2, l3⟩ := k4.get
          show FRep w' F1 (one vs) _ _
          have tup : FRep w' F1 (.tup vs) (.tuple us.toArray) Rs.flatten := by
            have := FRep.tup (w := w') (F := F1) vs us (fun i => Rs.getD i []) l1 fun i x u hx hu => .u (l3 i x u hx hu)
            rw [← l2, cat_flatten] at this
            exact this
          cases k4 with
          | nil => exact tup
          | @cons x0 u0 R0 xs us' Rs' hx0 t =>
            cases t with
            | nil =>
              have hsz1 : ([u0] : List Value).toArray.size = 1 := rfl
              rw [dif_pos hsz1]
              show FRep w' F1 x0 u0 _
              simpa using FRep.u hx0
            | @cons x1 u1 R1 xs1 us1 Rs1 hx1 t1 =>
              have hne : ¬ ((u0 :: u1 :: us1).toArray.size = 1) := by simp
              rw [dif_neg hne]
              exact tup
        · intro i y v hy hv
          show FRep w' F1 y v (if inK x.lent i = true ∧ i < af.np then (match e1 i with | .box _ _ _ _ => S1 i | _ => []) else [])
          have hy : (outsOf e1 af.np af.lent)[i]? = some y := hy
          unfold outsOf at hy
          rw [List.getElem?_map] at hy
          cases hri : (List.range af.np)[i]? with
          | none => simp [hri] at hy
          | some i' =>
            have hlt : i < af.np := by simpa using (List.getElem?_eq_some_iff.1 hri).1
            have hi' : i' = i := by have := (List.getElem?_eq_some_iff.1 hri).2; simpa using this.symm
            subst hi'
            simp only [hri, Option.map_some, Option.some.injEq] at hy
            rw [hlentq] at hy
            by_cases hl : inK x.lent i' = true
            · rw [if_pos (show (x.lent.any fun z => z == i') = true from hl)] at hy
              rw [if_pos ⟨hl, hlt⟩]
              cases hes : e1 i' with
              | box g T z o =>
                rw [hes] at hy
                simp only at hy; subst hy
                obtain ⟨b, cells, ty, S', q1, q2, q3, q4⟩ := k2.boxAt hes
                have hvt := k2.lent i' v ((hV i' v).2 ⟨hv, hl⟩)
                rw [q1] at hvt; subst hvt
                simp only
                rw [q4]
                exact .box 0 T z _ b cells ty S' q2 (q3.gen 0)
              | _ => rw [hes] at hy; simp only at hy; subst hy; exact .u (.undef _)
            · rw [if_neg (show ¬ (x.lent.any fun z => z == i') = true from hl)] at hy
              subst hy
              rw [if_neg fun hh => hl hh.1]
              exact .u (.undef _)
        · intro i
          show (if inK x.lent i = true ∧ i < af.np then (match e1 i with | .box _ _ _ _ => S1 i | _ => []) else []).Nodup
          split
          · split
            · exact k2.nodup i
            · exact List.nodup_nil
          · exact List.nodup_nil
        · intro i j b hij hbi hbj
          exact k2.apart i j b hij (hSo i b hbi) (hSo j b hbj)
        · intro i b hb hbR
          exact k7 b hbR i (hSo i b hb)
        · intro b hb
          rcases hb with hb | ⟨i, hb⟩
          · exact k6 b hb
          · exact k2.own i b (hSo i b hb)
      · cases hr'
    cases xx with
    | normal => exact post hk
    | ret => exact post hk
    | exit id => cases hk
  · cases hr
end
end
end Go.A2
