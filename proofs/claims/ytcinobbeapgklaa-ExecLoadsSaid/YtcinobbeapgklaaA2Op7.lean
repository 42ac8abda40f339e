/- YtcinobbeapgklaaA2Op7: comparisons. No statement of the seat is proved here. -/
import Derived.Test.YtcinobbeapgklaaA2Op6
import Derived.Laws.StructEq
namespace Go.A2
section
variable {P : Program} {Γ : Cx}

theorem run_part' {w : World} {w' : World} {F : Nat → Prop} (hX : TabOk Γ.X) {t : TypeId} {T : Γ.X.Ty} (ht : tyC P Γ t = some T) {x : Γ.X.den T} {c1 cx c2 : List Value} {off : Nat} (h : PRep w' F T x cx) (ho : c1.length = off) :
    ∃ u, (part t (c1 ++ cx ++ c2).toArray off).run P w = .ok u w ∧ valOk T cx u := by
  obtain ⟨_, k6, k7⟩ := tyC_some ht
  have hl := h.length hX
  unfold part
  cases hb : aggB T with
  | true =>
    rw [hb] at k7
    refine ⟨.agg cx.toArray, ?_, by unfold valOk; rw [if_pos hb]⟩
    simp only [Sem.run_bind, Sem.run_pure, run_isAggT k7, run_sizeO k6, Result.andThen_ok, if_true]
    have : (c1 ++ cx ++ c2).toArray.extract off (off + Γ.X.sz T) = cx.toArray := by rw [← ho, ← hl]; simp
    rw [this]
  | false =>
    have hs1 : Γ.X.sz T = 1 := by cases T <;> first | rfl | simp [aggB] at hb
    rw [hs1] at hl
    cases cx with
    | nil => cases hl
    | cons c cx =>
      cases cx with
      | cons => simp at hl
      | nil =>
        refine ⟨c, ?_, by unfold valOk; rw [if_neg (by simp [hb])]⟩
        rw [hb] at k7
        have hat : (c1 ++ [c] ++ c2).toArray[off]? = some c := by rw [← ho]; simp
        simp only [Sem.run_bind, run_isAggT k7, Result.andThen_ok, Bool.false_eq_true, if_false, hat, Sem.run_pure]

theorem getT_ext {X : Tab} : ∀ {ts : List X.Ty} {x y : X.Tup ts}, (∀ j t a b, getT ts x j = some ⟨t, a⟩ → getT ts y j = some ⟨t, b⟩ → a = b) → x = y
  | [], x, y, _ => rfl
  | t :: ts, x, y, h => by
    have h1 : x.1 = y.1 := h 0 t x.1 y.1 rfl rfl
    have h2 : x.2 = y.2 := getT_ext fun j t a b h3 h4 => h (j + 1) t a b h3 h4
    exact Prod.ext h1 h2

theorem listEq_iff {α : Type} {f : α → α → Bool} : ∀ {l m : List α}, (∀ a ∈ l, ∀ b, f a b = true ↔ a = b) → l.length = m.length → (listEq f l m = true ↔ l = m)
  | [], [], _, _ => by simp [listEq]
  | [], _ :: _, _, h => by cases h
  | _ :: _, [], _, h => by cases h
  | x :: l, y :: m, hf, hl => by
    simp only [listEq, Bool.and_eq_true, List.cons.injEq]
    rw [hf x (by simp) y, listEq_iff (fun a ha b => hf a (by simp [ha]) b) (by simpa using hl)]

theorem eq_iff {X : Tab} (hX : TabOk X) : ∀ {T : X.Ty} {a b : X.den T}, X.comparable T = true → (X.eq T a b = true ↔ a = b)
  | .int k, a, b, _ => by
    show W.eq a b = true ↔ a = b
    unfold W.eq
    constructor
    · intro h; exact W.ext (by simpa using h)
    · intro h; rw [h]; simp
  | .bool, a, b, _ => by
    show beqB a b = true ↔ a = b
    exact beq_iff_eq (α := Bool)
  | .str, a, b, _ => by
    show (Str.l a == Str.l b) = true ↔ a = b
    constructor
    · intro h; exact Str.ext (by simpa using h)
    · intro h; rw [h]; simp
  | .named i, a, b, h => hX.eq i h a b
  | .arr n t, a, b, h => by
    show listEq (X.eq t) (Arr.l a) (Arr.l b) = true ↔ a = b
    rw [listEq_iff (fun x _ y => eq_iff hX (T := t) h) (by rw [Arr.h a, Arr.h b])]
    constructor
    · exact fun h => Arr.ext h
    · intro h; rw [h]
  | .slice _ _, _, _, h => by cases h

theorem eqIn_sound (hX : TabOk Γ.X) {w' : World} {F : Nat → Prop} : ∀ (d : Nat) (t : TypeId) (T : Γ.X.Ty) (a b : Γ.X.den T) (cs ds : List Value) (u v : Value) (D : Nat) (w : World), eqFit P Γ d t T = true → PRep w' F T a cs → PRep w' F T b ds → valOk T cs u → valOk T ds v → d ≤ D →
    ∃ r, (Op.equalIn D t u v).run P w = .ok r w ∧ (r = true ↔ a = b)
  | 0, _, _, _, _, _, _, _, _, _, _, h, _, _, _, _, _ => by simp [eqFit] at h
  | d + 1, t, T, a, b, cs, ds, u, v, D, w, h, ha, hb, hu, hv, hD => by
    obtain ⟨D, rfl⟩ : ∃ D', D = D' + 1 := ⟨D - 1, by omega⟩
    simp only [eqFit, Bool.and_eq_true] at h
    obtain ⟨hty, h⟩ := h
    have hty : tyC P Γ t = some T := by
      cases hc : tyC P Γ t with
      | none => simp [hc] at hty
      | some T' => simp [hc] at hty; rw [hty]
    cases hud : P.underlying t with
    | none => rw [hud] at h; simp at h
    | some dd =>
      rw [hud] at h
      cases T with
      | int k =>
        cases dd <;> simp at h
        have e1 := ha.intInv; have e2 := hb.intInv
        subst e1 e2
        unfold valOk at hu hv
        rw [if_neg (by simp [aggB])] at hu hv
        cases hu; cases hv
        refine ⟨_, run_equalIn_int w D t k _ _ _ hud, ?_⟩
        constructor
        · intro hh; exact W.ext (by simpa using hh)
        · intro hh; rw [hh]; simp
      | bool =>
        cases dd <;> simp at h
        have e1 := ha.boolInv; have e2 := hb.boolInv
        subst e1 e2
        unfold valOk at hu hv
        rw [if_neg (by simp [aggB])] at hu hv
        cases hu; cases hv
        exact ⟨_, run_equalIn_bool' w D t _ _ hud, beq_iff_eq (α := Bool)⟩
      | str =>
        cases dd <;> simp at h
        have e1 := ha.strInv; have e2 := hb.strInv
        subst e1 e2
        unfold valOk at hu hv
        rw [if_neg (by simp [aggB])] at hu hv
        cases hu; cases hv
        refine ⟨_, run_equalIn_string w D t _ _ hud, ?_⟩
        constructor
        · intro hh
          have : (⟨(Str.l a).toArray⟩ : ByteArray).toList = (⟨(Str.l b).toArray⟩ : ByteArray).toList := by simpa using hh
          rw [ByteArray.toList_eq, ByteArray.toList_eq] at this
          exact Str.ext (by simpa using this)
        · intro hh; rw [hh]; simp
      | named i =>
        cases dd with
        | struct fs =>
          simp only [Bool.and_eq_true, Bool.not_eq_true'] at h
          obtain ⟨⟨hst, hfl⟩, hf⟩ := h
          unfold valOk at hu hv
          rw [if_pos (by simp [aggB])] at hu hv
          subst hu hv
          have hfo : P.fieldsOf t = fs := by unfold Program.fieldsOf; rw [hud]
          have hrun : ∀ r, (Op.eqFields D cs.toArray ds.toArray fs.toList).run P w = .ok r w → (Op.equalIn (D + 1) t (.agg cs.toArray) (.agg ds.toArray)).run P w = .ok r w := fun r hr => by
            rw [run_equalIn_struct w D t cs.toArray ds.toArray (by rw [hfo]; exact hud) hst, hfo, hr]
          cases ha with
          | named _ _ css hca =>
            cases hb with
            | named _ _ dss hcb =>
              have key : ∀ (l : List Γ.X.Ty) (j : Nat), (∀ k, l[k]? = (Γ.X.fields i)[j + k]?) → eqFlds P Γ fs i (eqFit P Γ d) l j = true → ∃ r, (Op.eqFields D (cat css (Γ.X.fields i).length).toArray (cat dss (Γ.X.fields i).length).toArray (fs.toList.drop j)).run P w = .ok r w ∧
                  (r = true ↔ ∀ k, j ≤ k → ∀ t x y, getT (Γ.X.fields i) (Γ.X.to i a) k = some ⟨t, x⟩ → getT (Γ.X.fields i) (Γ.X.to i b) k = some ⟨t, y⟩ → x = y) := fun l => by
                induction l with
                | nil =>
                  intro j hl hq
                  simp only [eqFlds, decide_eq_true_eq] at hq
                  refine ⟨true, ?_, ?_⟩
                  · rw [List.drop_eq_nil_of_le (by simp [hq])]; rfl
                  · refine ⟨fun _ k hk t x y hx _ => ?_, fun _ => rfl⟩
                    exfalso
                    have h1 := getT_type hx
                    have h2 := hl (k - j)
                    rw [show j + (k - j) = k by omega, h1] at h2
                    simp at h2
                | cons T l ih =>
                  intro j hl hq
                  simp only [eqFlds, Bool.and_eq_true] at hq
                  obtain ⟨⟨hq1, hq2⟩, hq3⟩ := hq
                  obtain ⟨f, T', f1, f2, f3, f4, f5⟩ := fldOk_some hq2
                  have hT := hl 0
                  simp only [List.getElem?_cons_zero, Nat.add_zero] at hT
                  rw [f2] at hT; cases hT
                  rw [f1] at hq1
                  simp only [Bool.and_eq_true] at hq1
                  obtain ⟨hnm, hfit⟩ := hq1
                  obtain ⟨xa, hxa⟩ := getT_some (Γ.X.to i a) f2
                  obtain ⟨xb, hxb⟩ := getT_some (Γ.X.to i b) f2
                  have hjl : j < (Γ.X.fields i).length := (List.getElem?_eq_some_iff.1 f2).1
                  obtain ⟨ra, hra, _⟩ := cat_split css hjl
                  obtain ⟨rb, hrb, _⟩ := cat_split dss hjl
                  have offa : (cat css j).length = f.offset := by
                    rw [f3]
                    exact cat_szs (fun k t' hk => by
                      obtain ⟨y, hy⟩ := getT_some (Γ.X.to i a) hk
                      exact (hca k t' y hy).length hX) (Nat.le_of_lt hjl)
                  have offb : (cat dss j).length = f.offset := by
                    rw [f3]
                    exact cat_szs (fun k t' hk => by
                      obtain ⟨y, hy⟩ := getT_some (Γ.X.to i b) hk
                      exact (hcb k t' y hy).length hX) (Nat.le_of_lt hjl)
                  obtain ⟨ua, ra1, ra2⟩ := run_part' (P := P) (w := w) (c2 := ra) hX f4 (hca j T xa hxa) offa
                  obtain ⟨ub, rb1, rb2⟩ := run_part' (P := P) (w := w) (c2 := rb) hX f4 (hcb j T xb hxb) offb
                  obtain ⟨r1, r2, r3⟩ := eqIn_sound hX d f.type T xa xb _ _ ua ub D w hfit (hca j T xa hxa) (hcb j T xb hxb) ra2 rb2 (by omega)
                  obtain ⟨q1, q2, q3⟩ := ih (j + 1) (fun k => by have := hl (k + 1); rw [List.getElem?_cons_succ] at this; rw [this]; congr 1; omega) hq3
                  have hdrop : fs.toList.drop j = f :: fs.toList.drop (j + 1) := by
                    have hjs : j < fs.size := (Array.getElem?_eq_some_iff.1 f1).1
                    rw [List.drop_eq_getElem_cons (by simpa using hjs)]
                    congr 1
                    have := (Array.getElem?_eq_some_iff.1 f1).2
                    simpa using this
                  rw [hdrop]
                  refine ⟨r1 && q1, ?_, ?_⟩
                  · simp only [Op.eqFields]
                    rw [if_pos (by simpa using hnm)]
                    simp only [Sem.run_bind]
                    rw [hra, hrb, ra1]
                    simp only [Result.andThen_ok]
                    rw [rb1]
                    simp only [Result.andThen_ok]
                    rw [r2]
                    simp only [Result.andThen_ok]
                    cases r1 with
                    | true =>
                      simp only [Bool.not_true, Bool.false_eq_true, if_false, Bool.true_and]
                      rw [← hra, ← hrb]; exact q2
                    | false => simp
                  · rw [Bool.and_eq_true, r3, q3]
                    constructor
                    · rintro ⟨h1, h2⟩ k hk t x y hx hy
                      by_cases hkj : k = j
                      · subst hkj
                        rw [hxa] at hx; cases hx
                        rw [hxb] at hy; cases hy
                        exact h1
                      · exact h2 k (by omega) t x y hx hy
                    · intro hh
                      exact ⟨hh j (Nat.le_refl _) T xa xb hxa hxb, fun k hk => hh k (by omega)⟩
              obtain ⟨r, k1, k2⟩ := key (Γ.X.fields i) 0 (fun k => by rw [Nat.zero_add]) hf
              refine ⟨r, hrun r (by simpa using k1), k2.trans ?_⟩
              constructor
              · intro hh
                have : Γ.X.to i a = Γ.X.to i b := getT_ext fun j t x y hx hy => hh j (Nat.zero_le _) t x y hx hy
                exact (hX.of_to i a).symm.trans ((congrArg (Γ.X.of i) this).trans (hX.of_to i b))
              · rintro rfl k _ t x y hx hy
                rw [hx] at hy; cases hy; rfl
        | _ => simp at h
      | arr m T =>
        cases dd with
        | array n el =>
          simp only [Bool.and_eq_true, decide_eq_true_eq] at h
          obtain ⟨rfl, hf⟩ := h
          unfold valOk at hu hv
          rw [if_pos (by simp [aggB])] at hu hv
          subst hu hv
          have hel : ∃ T', tyC P Γ el = some T' ∧ T' = T := by
            cases d with
            | zero => simp [eqFit] at hf
            | succ d =>
              simp only [eqFit, Bool.and_eq_true] at hf
              cases hc : tyC P Γ el with
              | none => simp [hc] at hf
              | some T' => simp [hc] at hf; exact ⟨T', rfl, hf.1⟩
          obtain ⟨T', hel, rfl⟩ := hel
          cases ha with
          | arr _ _ _ css hca =>
            cases hb with
            | arr _ _ _ dss hcb =>
              have key : ∀ (k j : Nat), j + k = n → ∃ r : Bool, (forIn (List.range' j k) ((none, ()) : Option Bool × Unit) fun i r => do
                      let a ← part el (cat css n).toArray (i * Γ.X.sz T')
                      let b ← part el (cat dss n).toArray (i * Γ.X.sz T')
                      let q ← Op.equalIn D el a b
                      if (!q) = true then pure (ForInStep.done (some false, ())) else pure (ForInStep.yield (none, ()))).run P w = .ok (if r then none else some false, ()) w ∧
                  (r = true ↔ ∀ m x y, j ≤ m → (Arr.l a)[m]? = some x → (Arr.l b)[m]? = some y → x = y) := fun k => by
                induction k with
                | zero =>
                  intro j hj
                  refine ⟨true, by simp, fun _ m x y hm hx _ => ?_, fun _ => rfl⟩
                  have := (List.getElem?_eq_some_iff.1 hx).1
                  rw [Arr.h a] at this; omega
                | succ k ih =>
                  intro j hj
                  have hjl : j < n := by omega
                  obtain ⟨xa, hxa⟩ : ∃ x, (Arr.l a)[j]? = some x := ⟨_, List.getElem?_eq_getElem (by rw [Arr.h a]; exact hjl)⟩
                  obtain ⟨xb, hxb⟩ : ∃ x, (Arr.l b)[j]? = some x := ⟨_, List.getElem?_eq_getElem (by rw [Arr.h b]; exact hjl)⟩
                  obtain ⟨ra, hra, _⟩ := cat_split css hjl
                  obtain ⟨rb, hrb, _⟩ := cat_split dss hjl
                  have offa : (cat css j).length = j * Γ.X.sz T' := cat_length fun m hm => (hca m _ (List.getElem?_eq_getElem (by rw [Arr.h a]; omega))).length hX
                  have offb : (cat dss j).length = j * Γ.X.sz T' := cat_length fun m hm => (hcb m _ (List.getElem?_eq_getElem (by rw [Arr.h b]; omega))).length hX
                  obtain ⟨ua, ra1, ra2⟩ := run_part' (P := P) (w := w) (c2 := ra) hX hel (hca j xa hxa) offa
                  obtain ⟨ub, rb1, rb2⟩ := run_part' (P := P) (w := w) (c2 := rb) hX hel (hcb j xb hxb) offb
                  obtain ⟨r1, r2, r3⟩ := eqIn_sound hX d el T' xa xb _ _ ua ub D w hf (hca j xa hxa) (hcb j xb hxb) ra2 rb2 (by omega)
                  obtain ⟨q1, q2, q3⟩ := ih (j + 1) (by omega)
                  refine ⟨r1 && q1, ?_, ?_⟩
                  · rw [List.range'_succ, List.forIn_cons]
                    simp only [Sem.run_bind]
                    rw [hra, hrb, ra1]
                    simp only [Result.andThen_ok]
                    rw [rb1]
                    simp only [Result.andThen_ok]
                    rw [r2]
                    simp only [Result.andThen_ok]
                    cases r1 with
                    | true =>
                      simp only [Bool.not_true, Bool.false_eq_true, if_false, Bool.true_and, Sem.run_pure, Result.andThen_ok]
                      rw [← hra, ← hrb]; exact q2
                    | false => simp
                  · rw [Bool.and_eq_true, r3, q3]
                    constructor
                    · rintro ⟨h1, h2⟩ m x y hm hx hy
                      by_cases hmj : m = j
                      · subst hmj
                        rw [hxa] at hx; cases hx
                        rw [hxb] at hy; cases hy
                        exact h1
                      · exact h2 m x y (by omega) hx hy
                    · intro hh
                      exact ⟨hh j xa xb (Nat.le_refl _) hxa hxb, fun m x y hm => hh m x y (by omega)⟩
              obtain ⟨r, k1, k2⟩ := key n 0 (by omega)
              refine ⟨r, ?_, k2.trans ?_⟩
              · simp only [Op.equalIn, Sem.run_bind, run_underlying' hud, Result.andThen_ok, run_sizeO (tyC_some hel).2.1]
                rw [Std.Legacy.Range.forIn_eq_forIn_range']
                simp only [Std.Legacy.Range.size, Nat.sub_zero, Nat.add_sub_cancel, Nat.div_one]
                rw [k1]
                cases r <;> simp
              · constructor
                · intro hh
                  refine Arr.ext (List.ext_getElem? fun m => ?_)
                  by_cases hm : m < n
                  · obtain ⟨xa, hxa⟩ : ∃ x, (Arr.l a)[m]? = some x := ⟨_, List.getElem?_eq_getElem (by rw [Arr.h a]; exact hm)⟩
                    obtain ⟨xb, hxb⟩ : ∃ x, (Arr.l b)[m]? = some x := ⟨_, List.getElem?_eq_getElem (by rw [Arr.h b]; exact hm)⟩
                    rw [hxa, hxb, hh m xa xb (Nat.zero_le _) hxa hxb]
                  · rw [List.getElem?_eq_none (by rw [Arr.h a]; omega), List.getElem?_eq_none (by rw [Arr.h b]; omega)]
                · rintro rfl m x y _ hx hy
                  rw [hx] at hy; cases hy; rfl
        | _ => simp at h
      | slice b t' => cases dd <;> simp at h

section
variable {K : List Nat} {N : Slots} {F0 B U : Nat → Prop} {w0 : World} {F : Nat → Prop} {S : Nat → List Nat} {e : Env Γ.X} {a : Act} {w : World}
section steps
variable {T0 T1 T2 : Option Γ.X.Ty} {g : Nat} {o : Oper} {us : Ups Γ.X} {ans : Ret Γ.X} (hX : TabOk Γ.X) (h : EnvRel N F0 B U w0 F S e a w) (hg : ¬ U g) (hd : ∀ k, o.dst = some k → N.ok k)
include hX h

theorem rdP {Y : Operand} {x : AX Γ.X} (hx : compX Γ K T0 Y = some x) {T : Γ.X.Ty} {v : Γ.X.den T} (hv : valP (Go.A2.rd e x) T = some v) : ∃ cs, PRep w F T v cs ∧ valOk T cs (a.eval Y) := by
  unfold valP at hv
  split at hv
  · rename_i T' v' m hr
    split at hv
    · rename_i hp
      obtain ⟨rfl, hv⟩ := castT_some hv
      simp only at hv; subst hv
      obtain ⟨cs, R, k1, k2⟩ := h.rdVal hX hx hr
      exact ⟨cs, (k1.toPure hp).1, k2⟩
    · cases hv
  · cases hv

include hg hd
theorem look_eq {neg : Bool} {t u : TypeId} {T : Γ.X.Ty} {Y Z : Operand} {x y : AX Γ.X} (ho : o.op = .binOp (if neg then .neq else .eql) t Y Z u) (hf : eqFit P Γ depthC t T = true) (hni : isIntT P t = false) (hgd : P.eqGuardType P.depth t = false) (hx : compX Γ K T0 Y = some x) (hy : compX Γ K T1 Z = some y)
    (hs : eff ans g e o.dst (.eq T neg x y) = some us) : Looks N F0 B U w0 P e a w g o us := by
  simp only [eff] at hs
  split at hs
  · rename_i va vb h1 h2
    split at hs
    · rename_i hcmp
      cases hs
      obtain ⟨cs, a1, a2⟩ := rdP hX h hx h1
      obtain ⟨ds, b1, b2⟩ := rdP hX h hy h2
      obtain ⟨r, r1, r2⟩ := eqIn_sound (P := P) hX depthC t T va vb cs ds _ _ Op.maxDepth w hf a1 b1 a2 b2 (by decide)
      have hr : r = Γ.X.eq T va vb := by
        rw [Bool.eq_iff_iff, r2, eq_iff hX hcmp]
      refine ⟨.bool (if neg then !(Γ.X.eq T va vb) else Γ.X.eq T va vb), ?_, h.outBool hd hg _⟩
      have fin : ∀ uY uZ, a.eval Y = uY → a.eval Z = uZ → (eqGuard (if neg then .neq else .eql) t Y Z uY uZ).run P w = .ok () w → ((binOp (if neg then .neq else .eql) t uY uZ).run P w = .ok (.bool (if neg then !(Γ.X.eq T va vb) else Γ.X.eq T va vb)) w) →
          (execOp a.eval o).run P w = .ok (.value (.bool (if neg then !(Γ.X.eq T va vb) else Γ.X.eq T va vb))) w := fun uY uZ e1 e2 e3 e4 => by
        simp only [execOp, ho, e1, e2]
        simp [e3, e4]
      rw [hr] at r1
      have hfit := hf
      simp only [depthC, eqFit, Bool.and_eq_true] at hfit
      have hfit := hfit.2
      cases hud : P.underlying t with
      | none => rw [hud] at hfit; simp at hfit
      | some dd =>
        rw [hud] at hfit
        generalize a.eval Y = uY at a2 r1 fin
        generalize a.eval Z = uZ at b2 r1 fin
        have agg : ∀ xs ys, uY = .agg xs → uZ = .agg ys → (eqGuard (if neg then .neq else .eql) t Y Z uY uZ).run P w = .ok () w ∧ ((binOp (if neg then .neq else .eql) t uY uZ).run P w = .ok (.bool (if neg then !(Γ.X.eq T va vb) else Γ.X.eq T va vb)) w) := fun xs ys e1 e2 => by
          subst e1 e2
          refine ⟨run_eqGuard_agg w _ t Y Z xs ys hgd, ?_⟩
          have r1' : (Op.equalIn 10000 t (.agg xs) (.agg ys)).run P w = .ok (Γ.X.eq T va vb) w := r1
          cases neg
          · simp only [Bool.false_eq_true, if_false]
            rw [run_eql_struct, r1']; rfl
          · simp only [if_true]
            rw [run_neq_struct, r1']; rfl
        refine fin uY uZ rfl rfl ?_ ?_
        · cases T with
          | int k => cases dd <;> first | (simp at hfit; done) | (simp [isIntT, hud] at hni)
          | bool =>
            have e1 := a1.boolInv; have e2 := b1.boolInv
            subst e1 e2
            unfold valOk at a2 b2; rw [if_neg (by simp [aggB])] at a2 b2
            cases a2; cases b2
            cases neg <;> rfl
          | str =>
            have e1 := a1.strInv; have e2 := b1.strInv
            subst e1 e2
            unfold valOk at a2 b2; rw [if_neg (by simp [aggB])] at a2 b2
            cases a2; cases b2
            cases neg <;> rfl
          | slice => cases dd <;> simp at hfit
          | _ =>
            unfold valOk at a2 b2; rw [if_pos (by simp [aggB])] at a2 b2
            exact (agg _ _ a2 b2).1
        · cases T with
          | int k => cases dd <;> first | (simp at hfit; done) | (simp [isIntT, hud] at hni)
          | bool =>
            have e1 := a1.boolInv; have e2 := b1.boolInv
            subst e1 e2
            unfold valOk at a2 b2; rw [if_neg (by simp [aggB])] at a2 b2
            cases a2; cases b2
            cases neg
            · simp only [Bool.false_eq_true, if_false, binOp, Sem.run_bind, Sem.run_pure, Op.equal]
              rw [r1]; rfl
            · simp only [if_true, binOp, Sem.run_bind, Sem.run_pure, Op.equal]
              rw [r1]; rfl
          | str =>
            have e1 := a1.strInv; have e2 := b1.strInv
            subst e1 e2
            unfold valOk at a2 b2; rw [if_neg (by simp [aggB])] at a2 b2
            cases a2; cases b2
            have hb : ∀ l m : List UInt8, ((⟨l.toArray⟩ : ByteArray).toList == (⟨m.toArray⟩ : ByteArray).toList) = (l == m) := fun l m => by
              rw [ByteArray.toList_eq, ByteArray.toList_eq]
            cases neg
            · simp only [Bool.false_eq_true, if_false, binOp, Op.stringOp, hb]
              rfl
            · simp only [if_true, binOp, Op.stringOp, hb]
              rfl
          | slice => cases dd <;> simp at hfit
          | _ =>
            unfold valOk at a2 b2; rw [if_pos (by simp [aggB])] at a2 b2
            exact (agg _ _ a2 b2).2
    · cases hs
  · cases hs
end steps
end
end
end Go.A2
