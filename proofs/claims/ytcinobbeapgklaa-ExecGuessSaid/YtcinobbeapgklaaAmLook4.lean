/- YtcinobbeapgklaaAmLook4: least and greatest, lengths, parts of values; all that looks, in one. No statement of the seat is proved here. -/
import Derived.Test.YtcinobbeapgklaaAmLook3
namespace Go.AM
open Go.RowKit (Below)

section
variable {P : Program} {K : List Nat} {F0 : Nat → Prop} {B n : Nat} {w0 : World} {F : Nat → Prop} {S : Nat → List Nat} {e : Env} {a : Act} {w : World}

theorem run_mm (isMax : Bool) : ∀ (l : List AV) (x z : AV), mmI isMax x l = some z →
    flatC x = true ∧ (∀ y ∈ l, flatC y = true) ∧ flatC z = true ∧ ((l.map sv).foldlM (if isMax then Builtin.max2 else Builtin.min2) (sv x)).run P w = .ok (sv z) w
  | [], x, z, h => by
    unfold mmI at h
    split at h
    · simp only [Option.some.injEq] at h; subst h; exact ⟨rfl, by simp, rfl, rfl⟩
    · rename_i heq; cases heq
    · cases h
  | y :: l, x, z, h => by
    unfold mmI at h
    split at h
    · rename_i heq; cases heq
    · rename_i k a' k' b' l' heq
      cases heq
      split at h
      · rename_i hk
        subst hk
        obtain ⟨h1, h2, h3, h4⟩ := run_mm isMax l _ z h
        refine ⟨rfl, by simpa [flatC] using h2, h3, ?_⟩
        simp only [List.map_cons, List.foldlM_cons, Sem.run_bind]
        cases isMax
        · have : (Builtin.min2 (sv (.int k a')) (sv (.int k b'))).run P w = .ok (.int k (if b' < a' then b' else a')) w := rfl
          simp only [Bool.false_eq_true, if_false] at h4 ⊢
          rw [this]
          simpa [sv] using h4
        · have : (Builtin.max2 (sv (.int k a')) (sv (.int k b'))).run P w = .ok (.int k (if b' > a' then b' else a')) w := rfl
          simp only [if_true] at h4 ⊢
          rw [this]
          simpa [sv] using h4
      · cases h
    · cases h

/-- The operands of a call. -/
theorem EnvRel.rdFlats (h : EnvRel K F0 B n w0 F S e a w) : ∀ {Xs : List Operand} {xs : List AX}, mapO (compX K) Xs = some xs → (∀ y ∈ xs.map (Go.AM.rd e), flatC y = true) →
    Xs.map a.eval = (xs.map (Go.AM.rd e)).map sv
  | [], xs, hx, _ => by simp [mapO] at hx; subst hx; rfl
  | X :: Xs, xs, hx, hf => by
    simp only [mapO] at hx
    split at hx
    · rename_i y ys h1 h2
      simp only [Option.some.injEq] at hx; subst hx
      simp only [List.map_cons]
      rw [h.rdFlat h1 rfl (hf _ (by simp)), EnvRel.rdFlats h h2 fun z hz => hf z (by simp only [List.map_cons, List.mem_cons]; exact .inr hz)]
    · cases hx

theorem EnvRel.look_mm (h : EnvRel K F0 B n w0 F S e a w) {o : Oper} {c : Call} {isMax : Bool} {xs : List AX} (ho : o.op = .call c) (hc : c.callee = .builtin (if isMax then .max else .min))
    (hx : mapO (compX K) c.args.toList = some xs) {z : AV} (hz : val e (.mm isMax xs) = some z) : Looks K P e a w F o z := by
  simp only [val] at hz
  cases hxs : xs.map (Go.AM.rd e) with
  | nil => simp [hxs] at hz
  | cons y l =>
    simp only [hxs] at hz
    obtain ⟨h1, h2, h3, h4⟩ := run_mm (P := P) (w := w) isMax l y z hz
    have hargs := h.rdFlats hx (by rw [hxs]; intro q hq; rcases List.mem_cons.1 hq with rfl | hq; exact h1; exact h2 q hq)
    rw [hxs] at hargs
    refine ⟨sv z, ?_, sv_rep h3⟩
    rw [List.map_cons] at hargs
    simp only [execOp, ho, resolve, hc]
    cases isMax
    · simp only [Bool.false_eq_true, if_false] at h4 ⊢
      simp [invoke, builtin, Builtin.min_, hargs, h4]
    · simp only [if_true] at h4 ⊢
      simp [invoke, builtin, Builtin.max_, hargs, h4]

theorem EnvRel.look_lenStr (h : EnvRel K F0 B n w0 F S e a w) {o : Oper} {c : Call} {t : TypeId} {X : Operand} {x : AX} (ho : o.op = .call c) (hc : c.callee = .builtin .len) (hargs : c.args.toList = [X])
    (hty : c.argTypes[0]? = some t) (ht : P.underlying t = some .string) (hx : compX K X = some x) {z : AV} (hz : val e (.lenStr x) = some z) : Looks K P e a w F o z := by
  have ha : c.args = #[X] := by rw [← Array.toList_inj]; simpa using hargs
  simp only [val] at hz
  split at hz
  · rename_i s hy
    simp only [Option.some.injEq] at hz; subst hz
    refine ⟨.int .i64 s.length, ?_, sv_rep (z := .int .i64 s.length) rfl⟩
    simp only [execOp, ho, resolve, hc, ha]
    have hsz : (⟨s.toArray⟩ : ByteArray).size = s.length := by simp [ByteArray.size]
    simp [invoke, builtin, Builtin.len_, hty, run_underlying' ht, h.rdStr hx hy, goInt, hsz]
  · cases hz

/-- A slice's operand: its header. -/
theorem EnvRel.rdRows (h : EnvRel K F0 B n w0 F S e a w) {X : Operand} {x : AX} (hx : compX K X = some x) {rows : List (List AV)} (hr : rowsOf e (Go.AM.rd e x) = some rows) :
    ∃ ad cap, a.eval X = .slice ad rows.length cap := by
  obtain ⟨T, hp⟩ := h.rd hx
  generalize hy : Go.AM.rd e x = y at hr hp
  generalize hv : a.eval X = v at hp
  cases y with
  | sl full rs =>
    simp [rowsOf] at hr; subst hr
    have hp := (hp.cell rfl).1
    cases hp with
    | slNil => exact ⟨_, 0, rfl⟩
    | sl full rows b o' esz cap vals hb hcap hfull hesz hcl hcell hpp => exact ⟨_, cap, rfl⟩
  | ref s c =>
    simp [rowsOf] at hr
    obtain ⟨rows', ad, cap, hc, hX, _⟩ := h.rdRef hx hy
    rw [hr] at hc; cases hc
    exact ⟨ad, cap, by rw [← hv]; exact hX⟩
  | own z rs =>
    simp [rowsOf] at hr; subst hr
    cases hp with
    | val h => cases h with
      | val h => cases h with
        | cell h => cases h with
          | pure h hc => simp [isCell] at hc
          | ownNil => exact ⟨_, _, rfl⟩
          | own => exact ⟨_, _, rfl⟩
  | _ => simp [rowsOf] at hr

theorem EnvRel.look_lenS (h : EnvRel K F0 B n w0 F S e a w) {o : Oper} {c : Call} {t el : TypeId} {X : Operand} {x : AX} (ho : o.op = .call c) (hc : c.callee = .builtin .len) (hargs : c.args.toList = [X])
    (hty : c.argTypes[0]? = some t) (ht : P.underlying t = some (.slice el)) (hx : compX K X = some x) {z : AV} (hz : val e (.lenS x) = some z) : Looks K P e a w F o z := by
  have ha : c.args = #[X] := by rw [← Array.toList_inj]; simpa using hargs
  simp only [val] at hz
  cases hr : rowsOf e (Go.AM.rd e x) with
  | none => simp [hr] at hz
  | some rows =>
    simp [hr] at hz; subst hz
    obtain ⟨ad, cap, hX⟩ := h.rdRows hx hr
    refine ⟨.int .i64 rows.length, ?_, sv_rep (z := .int .i64 rows.length) rfl⟩
    simp only [execOp, ho, resolve, hc, ha]
    simp [invoke, builtin, Builtin.len_, hty, run_underlying' ht, hX, goInt]

theorem EnvRel.look_part1 (h : EnvRel K F0 B n w0 F S e a w) {o : Oper} {t : TypeId} {X : Operand} {x : AX} {i : Nat} {fs : Array Field} {f : Field} (ho : o.op = .field t X i) (ht : P.underlying t = some (.struct fs)) (hf : fs[i]? = some f)
    (hat : isAggT P f.type = some false) (hx : compX K X = some x) {z : AV} (hz : val e (.part1 x f.offset) = some z) : Looks K P e a w F o z := by
  simp only [val] at hz
  split at hz
  · rename_i cs hy
    obtain ⟨T, hr⟩ := h.rd hx
    rw [hy] at hr
    split at hz
    · rename_i y hyo
      split at hz
      · rename_i hcy
        simp only [Option.some.injEq] at hz; subst hz
        generalize hv : a.eval X = v at hr
        cases hr with
        | val h => cases h with
          | val h => cases h with
            | cell h => cases h with
              | pure h hc => simp [isCell] at hc
            | agg hl =>
              obtain ⟨u, T', h1, h2, _⟩ := hl.get f.offset y hyo
              refine ⟨u, ?_, (h2.pureOf hcy).srep⟩
              simp only [execOp, ho, Instr.field, hv]
              simp [run_underlying' ht, hf, asAgg, part, run_isAggT hat, h1]
      · cases hz
    · cases hz
  · cases hz

theorem EnvRel.look_partN (h : EnvRel K F0 B n w0 F S e a w) {o : Oper} {t : TypeId} {X : Operand} {x : AX} {i m : Nat} {fs : Array Field} {f : Field} (ho : o.op = .field t X i) (ht : P.underlying t = some (.struct fs)) (hf : fs[i]? = some f)
    (hat : isAggT P f.type = some true) (hsz : sizeO P f.type = some m) (hx : compX K X = some x) {z : AV} (hz : val e (.partN x f.offset m) = some z) : Looks K P e a w F o z := by
  simp only [val] at hz
  split at hz
  · rename_i cs hy
    obtain ⟨T, hr⟩ := h.rd hx
    rw [hy] at hr
    split at hz
    · rename_i hcond
      simp only [Option.some.injEq] at hz; subst hz
      generalize hv : a.eval X = v at hr
      cases hr with
      | val h => cases h with
        | val h => cases h with
          | cell h => cases h with
            | pure h hc => simp [isCell] at hc
          | agg hl =>
            rename_i vs
            obtain ⟨S1, S2, _, _, hd⟩ := hl.split f.offset
            obtain ⟨S3, S4, _, ht', _⟩ := hd.split m
            obtain ⟨hS, hp⟩ := ht'.pure (List.all_eq_true.1 hcond.2)
            refine ⟨.agg ((vs.drop f.offset).take m).toArray, ?_, (PRep.agg _ _ ht'.length (List.all_eq_true.1 hcond.2) hp).srep⟩
            simp only [execOp, ho, Instr.field, hv]
            simp only [run_underlying' ht, hf, asAgg, part, Sem.run_bind, Result.andThen_ok, Sem.run_pure]
            simp [run_isAggT hat, run_sizeO hsz]
    · cases hz
  · cases hz

end
end Go.AM
