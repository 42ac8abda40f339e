/- YtcinobbeapgklaaA2Op10: parts of slices and strings. No statement of the seat is proved here. -/
import Derived.Test.YtcinobbeapgklaaA2Op9
import Derived.Laws.Slices
namespace Go.A2
section
variable {P : Program} {Γ : Cx}
section
variable {K : List Nat} {N : Slots} {F0 B U : Nat → Prop} {w0 : World} {F : Nat → Prop} {S : Nat → List Nat} {e : Env Γ.X} {a : Act} {w : World}

/-- A bound: none, or a whole number from 0. -/
def Bnd (v : Option Value) (n : Option Nat) : Prop := (v = none ∧ n = none) ∨ ∃ k i, v = some (.int k i) ∧ 0 ≤ i ∧ n = some i.toNat
theorem oNat_some (hX : TabOk Γ.X) (h : EnvRel N F0 B U w0 F S e a w) {Y : Option Operand} {x : Option (AX Γ.X)} (hx : oX Γ K Y = some x) {n : Option Nat} (hn : oNat e x = some n) : Bnd (Y.map a.eval) n := by
  cases Y with
  | none =>
    simp [oX] at hx; subst hx
    simp [oNat] at hn; subst hn
    exact .inl ⟨rfl, rfl⟩
  | some Y =>
    simp only [oX] at hx
    cases hc : compX Γ K none Y with
    | none => simp [hc] at hx
    | some y =>
      simp [hc] at hx; subst hx
      simp only [oNat] at hn
      cases hv : natOf (Go.A2.rd e y) with
      | none => simp [hv] at hn
      | some m =>
        simp [hv] at hn; subst hn
        unfold natOf at hv
        split at hv
        · rename_i k i o' hr
          unfold nat? at hv
          split at hv
          · rename_i h0
            cases hv
            have := h.rdInt hX hc hr
            exact .inr ⟨k, i.n, by simp [this], h0, rfl⟩
          · cases hv
        · cases hv
theorem run_bounds {isSlice : Bool} {len cap : Nat} {lo hi mx : Option Value} {l h m : Option Nat} (h1 : Bnd lo l) (h2 : Bnd hi h) (h3 : Bnd mx m) (hlc : len ≤ cap) (hm : m = none ∨ h.isSome = true) (hcap : m.getD cap ≤ cap) (hh : h.getD len ≤ m.getD cap) (hl : l.getD 0 ≤ h.getD len) :
    (Instr.sliceBounds isSlice len cap lo hi mx).run P w = .ok (l.getD 0, h.getD len, m.getD cap) w := by
  rcases h1 with ⟨rfl, rfl⟩ | ⟨k1, i1, rfl, p1, rfl⟩ <;> rcases h2 with ⟨rfl, rfl⟩ | ⟨k2, i2, rfl, p2, rfl⟩ <;> rcases h3 with ⟨rfl, rfl⟩ | ⟨k3, i3, rfl, p3, rfl⟩
  all_goals simp only [Option.getD_some, Option.getD_none, Option.isSome_some, Option.isSome_none, Bool.false_eq_true, or_false, reduceCtorEq, or_true] at hm hcap hh hl
  all_goals simp only [Instr.sliceBounds, Sem.run_bind, Sem.run_pure, Result.andThen_ok, Option.getD_some, Option.getD_none]
  · rw [run_sliceBound w k2 i2 cap _ p2 (by omega)]
    simp
  · rw [run_sliceBound w k3 i3 cap _ p3 (by omega)]
    simp only [Result.andThen_ok, Sem.run_pure]
    rw [run_sliceBound w k2 i2 _ _ p2 (by omega)]
    simp
  · rw [run_sliceBound w k1 i1 _ _ p1 (by omega)]
    simp
  · rw [run_sliceBound w k2 i2 cap _ p2 (by omega)]
    simp only [Result.andThen_ok, Sem.run_pure]
    rw [run_sliceBound w k1 i1 _ _ p1 (by omega)]
    simp
  · rw [run_sliceBound w k3 i3 cap _ p3 (by omega)]
    simp only [Result.andThen_ok, Sem.run_pure]
    rw [run_sliceBound w k2 i2 _ _ p2 (by omega)]
    simp only [Result.andThen_ok, Sem.run_pure]
    rw [run_sliceBound w k1 i1 _ _ p1 (by omega)]
    simp

theorem pre_sub {b : Nat} {T : Γ.X.Ty} {l l' : Sl b (Γ.X.den T)} {lo hi : Nat} (hs : Sl.sub? l lo hi = some l') : lo ≤ hi ∧ hi ≤ l.l.length ∧ l'.l.length = hi - lo ∧ ∀ i, i < hi - lo → l'.l[i]? = l.l[lo + i]? := by
  unfold Sl.sub? at hs
  split at hs
  · rename_i hc
    cases hs
    refine ⟨hc.1, hc.2, by simp; omega, fun i hi' => ?_⟩
    simp only [List.getElem?_drop]
    rw [List.getElem?_take_of_lt (by omega)]
  · cases hs

section steps
variable {T0 T1 T2 : Option Γ.X.Ty} {g : Nat} {o : Oper} {us : Ups Γ.X} {ans : Ret Γ.X} (hX : TabOk Γ.X) (h : EnvRel N F0 B U w0 F S e a w) (hg : ¬ U g) (hd : ∀ k, o.dst = some k → N.ok k)
variable {next : Act → World → Prop} {Q : Exit → Act → World → Prop} (hnext : ∀ a' w', Sim N F0 B (withG U g) w0 (applyU e us) a' w' → next a' w')
include hX h hg hd hnext

theorem step_sliceStr {t : TypeId} {Y : Operand} {Lo Hi Mx : Option Operand} {x : AX Γ.X} {lo hi mx : Option (AX Γ.X)} (ho : o.op = .slice t Y Lo Hi Mx) (ht : P.underlying t = some .string) (hx : compX Γ K T0 Y = some x) (hlo : oX Γ K Lo = some lo) (hhi : oX Γ K Hi = some hi) (hmx : oX Γ K Mx = some mx)
    (hs : eff ans g e o.dst (.slice .str x lo hi mx) = some us) : o.wp P a w next Q := by
  simp only [eff] at hs
  split at hs
  · rename_i T v m u lo' hi' mx' hta h1 h2 h3
    split at hs
    · rename_i v' hv
      obtain ⟨rfl, hv⟩ := castT_some hv
      simp only at hv; subst hv
      split at hs
      · obtain ⟨r, hr, hs⟩ := Option.bind_eq_some_iff.1 hs
        cases hs
        obtain ⟨F1, S1, cs, R, k1, k2, k3, k4, _⟩ := h.take hX hx hta
        have b1 := oNat_some (a := a) hX h hlo h1
        have b2 := oNat_some (a := a) hX h hhi h2
        have b3 := oNat_some (a := a) hX h hmx h3
        have ecs := k3.strInv
        subst ecs
        unfold valOk at k4; rw [if_neg (by simp [aggB])] at k4
        have e0 : a.eval Y = .string ⟨(Str.l v).toArray⟩ := by simpa using k4.symm
        simp only [subV] at hr
        split at hr
        · rename_i hmn
          have : mx' = none := by cases mx' <;> first | rfl | cases hmn
          subst this
          cases hsub : Str.sub? v (lo'.getD 0) (hi'.getD (Str.l v).length) with
          | none => rw [hsub] at hr; cases hr
          | some s' =>
            rw [hsub] at hr; cases hr
            unfold Str.sub? at hsub
            split at hsub
            · rename_i hc
              cases hsub
              have hsz : (⟨(Str.l v).toArray⟩ : ByteArray).size = (Str.l v).length := by simp [ByteArray.size]
              have hbnd := run_bounds (P := P) (w := w) (isSlice := false) (len := (Str.l v).length) (cap := (Str.l v).length) b1 b2 b3 (Nat.le_refl _) (.inl rfl) (Nat.le_refl _) hc.2 hc.1
              have hmxn : Mx.map a.eval = none := by rcases b3 with ⟨h, _⟩ | ⟨_, _, _, _, h⟩; exact h; cases h
              have hext : (⟨(Str.l v).toArray⟩ : ByteArray).extract (lo'.getD 0) (hi'.getD (Str.l v).length) = ⟨(((Str.l v).take (hi'.getD (Str.l v).length)).drop (lo'.getD 0)).toArray⟩ := by
                apply ByteArray.ext
                rw [ByteArray.data_extract]
                apply Array.ext'
                simp [List.extract_eq_take_drop, List.drop_take]
              have hrun : (execOp a.eval o).run P w = .ok (.value (.string ⟨(((Str.l v).take (hi'.getD (Str.l v).length)).drop (lo'.getD 0)).toArray⟩)) w := by
                simp only [execOp, ho, e0]
                rw [hmxn] at hbnd ⊢
                simp only [Instr.sliceAt, Instr.slice, Sem.run_bind, run_underlying' ht, Result.andThen_ok, Sem.run_pure, hsz, Option.isSome_none, Bool.false_eq_true, if_false]
                simp only [hbnd, Result.andThen_ok, Sem.run_pure, hext]
              unfold Oper.wp
              rw [hrun]
              refine hnext _ _ ?_
              rw [applyU_append]
              refine k1.outV hd hg rfl (.pure (.str _)) ?_
              unfold valOk; rw [if_neg (by simp [aggB])]
            · cases hsub
        · cases hr
      · cases hs
    · cases hs
  · cases hs

theorem step_slice {t el : TypeId} {b : Nat} {T : Γ.X.Ty} {Y : Operand} {Lo Hi Mx : Option Operand} {x : AX Γ.X} {lo hi mx : Option (AX Γ.X)} (ho : o.op = .slice t Y Lo Hi Mx) (ht : P.underlying t = some (.slice el)) (hsz : sizeO P el = some (Γ.X.sz T)) (hx : compX Γ K T0 Y = some x) (hlo : oX Γ K Lo = some lo)
    (hhi : oX Γ K Hi = some hi) (hmx : oX Γ K Mx = some mx) (hs : eff ans g e o.dst (.slice (.slice b T) x lo hi mx) = some us) : o.wp P a w next Q := by
  simp only [eff] at hs
  split at hs
  · rename_i T' v m u lo' hi' mx' hta h1 h2 h3
    split at hs
    · rename_i v' hv
      obtain ⟨rfl, hv⟩ := castT_some hv
      simp only at hv; subst hv
      split at hs
      · rename_i hal
        obtain ⟨r, hr, hs⟩ := Option.bind_eq_some_iff.1 hs
        cases hs
        obtain ⟨F1, S1, cs, R, k1, k2, k3, k4, k5, k6, k7, _⟩ := h.take hX hx hta
        have b1 := oNat_some (a := a) hX h hlo h1
        have b2 := oNat_some (a := a) hX h hhi h2
        have b3 := oNat_some (a := a) hX h hmx h3
        -- all of it is frozen
        have hF2 := k3.freeze (F' := fun b => F1 b ∨ b ∈ R) (fun _ h => .inl h) (fun _ h => .inr h) hal
        have hfull : m = .full → ∃ ad, cs = [.slice ad (Sl.l v).length (Sl.l v).length] := fun hm => by
          subst hm
          exact full_inv k3
        have henv := k1.world (w' := w) (F' := fun b => F1 b ∨ b ∈ R) (fun _ h => .inl h) (fun _ _ => rfl) (fun _ _ _ => rfl) (.refl _ _) fun b' hb' => hb'.imp_right fun hb' => ⟨(k6 b' hb').1, (k6 b' hb').2.1, k7 b' hb'⟩
        unfold valOk at k4; rw [if_neg (by simp [aggB])] at k4
        subst k4
        generalize hu : a.eval Y = uY at hF2 hfull
        cases hF2 with
        | slice _ _ _ ad cap css hcap ha hp =>
          -- a part
          have part : ∀ (lo hi : Nat) (l' : Sl b (Γ.X.den T)) (cm : Nat), Sl.sub? v lo hi = some l' → hi ≤ cm → cm ≤ cap → PRep w (fun b => F1 b ∨ b ∈ R) (.slice b T) l' [.slice (if cm = lo then ad else ad.map (·.add (lo * Γ.X.sz T))) (hi - lo) (cm - lo)] := fun lo hi l' cm hsub hcm hcc => by
            obtain ⟨p1, p2, p3, p4⟩ := pre_sub hsub
            rw [← p3]
            refine .slice b T l' _ _ (fun i => css (lo + i)) (by omega) (fun hne => ?_) fun i xx hi' => ?_
            · have hpos : 0 < l'.l.length := List.length_pos_iff.2 hne
              obtain ⟨blk, o', q1, q2, q3⟩ := ha (by intro hn; rw [hn] at p2; simp at p2; omega)
              refine ⟨blk, o' + lo * Γ.X.sz T, ?_, q2, fun i j u hi' hj => ?_⟩
              · rw [if_neg (by omega), q1]; simp [addr_add]
              · have := q3 (lo + i) j u (by omega) hj
                rw [← this]; congr 2; rw [Nat.add_mul]; omega
            · have hil : i < l'.l.length := (List.getElem?_eq_some_iff.1 hi').1
              rw [p4 i (by omega)] at hi'
              exact hp _ xx hi'
          have hlc : (Sl.l v).length ≤ cap := hcap
          have run : ∀ (hh : lo'.getD 0 ≤ hi'.getD (Sl.l v).length) (h4 : mx' = none ∨ hi'.isSome = true) (h5 : mx'.getD cap ≤ cap) (h6 : hi'.getD (Sl.l v).length ≤ mx'.getD cap),
              (execOp a.eval o).run P w = .ok (.value (.slice (if mx'.getD cap = lo'.getD 0 then ad else ad.map (·.add (lo'.getD 0 * Γ.X.sz T))) (hi'.getD (Sl.l v).length - lo'.getD 0) (mx'.getD cap - lo'.getD 0))) w := fun hh h4 h5 h6 => by
            have hbnd := run_bounds (P := P) (w := w) (isSlice := true) b1 b2 b3 hlc h4 h5 h6 hh
            simp only [execOp, ho, hu]
            simp only [Instr.sliceAt, Instr.slice, Sem.run_bind, run_underlying' ht, Result.andThen_ok, Sem.run_pure, hbnd, run_sizeO hsz]
          simp only [subV] at hr
          split at hr
          · -- two bounds
            cases hsub : Sl.sub? v (lo'.getD 0) (hi'.getD (Sl.l v).length) with
            | none => rw [hsub] at hr; cases hr
            | some l' =>
              rw [hsub] at hr; cases hr
              obtain ⟨p1, p2, p3, p4⟩ := pre_sub hsub
              unfold Oper.wp
              rw [run p1 (.inl rfl) (Nat.le_refl _) (by simp only [Option.getD_none]; omega)]
              refine hnext _ _ ?_
              rw [applyU_append]
              have hpt := part _ _ _ cap hsub (by omega) (Nat.le_refl _)
              simp only [Option.getD_none]
              split
              · rename_i hi0
                obtain ⟨ad', hc⟩ := hfull rfl
                simp only [List.cons.injEq, Value.slice.injEq, and_true] at hc
                obtain ⟨_, _, hc⟩ := hc
                refine henv.outV hd hg rfl (cs := [_]) ?_ (by unfold valOk; rw [if_neg (by simp [aggB])])
                simp only [Option.getD_none] at hpt p3 ⊢
                rw [hc, ← p3] at hpt ⊢
                exact .full b T l' _ hpt
              · exact henv.outV hd hg rfl (.pure hpt) (by unfold valOk; rw [if_neg (by simp [aggB])])
          · rename_i mm
            split at hr
            · rename_i hcond
              obtain ⟨rfl, hml⟩ := hcond
              cases hsub : Sl.sub? v (lo'.getD 0) mm with
              | none => rw [hsub] at hr; cases hr
              | some l' =>
                rw [hsub] at hr; cases hr
                obtain ⟨p1, p2, p3, p4⟩ := pre_sub hsub
                unfold Oper.wp
                rw [run (by simpa using p1) (.inr rfl) (by simp; omega) (by simp)]
                refine hnext _ _ ?_
                rw [applyU_append]
                have hpt := part _ _ _ mm hsub (Nat.le_refl _) (by omega)
                simp only [Option.getD_some]
                refine henv.outV hd hg rfl (cs := [_]) ?_ (by unfold valOk; rw [if_neg (by simp [aggB])])
                rw [← p3] at hpt ⊢
                exact .full b T l' _ hpt
            · cases hr
      · cases hs
    · cases hs
  · cases hs
end steps
end
end
end Go.A2
