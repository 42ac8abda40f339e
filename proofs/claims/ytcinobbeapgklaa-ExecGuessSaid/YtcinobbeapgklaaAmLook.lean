/- YtcinobbeapgklaaAmLook: the operations that only look, one by one. No statement of the seat is proved here. -/
import Derived.Test.YtcinobbeapgklaaAmVal
import Derived.Laws.Entries
import Derived.Laws.Small
import Derived.Laws.StructEq
namespace Go.AM
open Go.RowKit (Below)

section
variable {P : Program} {K : List Nat} {F0 : Nat → Prop} {B n : Nat} {w0 : World} {F : Nat → Prop} {S : Nat → List Nat} {e : Env} {a : Act} {w : World}

/-- What 'look' says of an operation. -/
def Looks (K : List Nat) (P : Program) (e : Env) (a : Act) (w : World) (F : Nat → Prop) (o : Oper) (x : AV) : Prop :=
  ∃ u, (execOp a.eval o).run P w = .ok (.value u) w ∧ SRep K e a w F x u []

theorem EnvRel.rdCell (h : EnvRel K F0 B n w0 F S e a w) {X : Operand} {x : AX} (hx : compX K X = some x) {y : AV} (hy : Go.AM.rd e x = y) (hc : isCell y = true) : PRep w F y (a.eval X) := by
  obtain ⟨T, hr⟩ := h.rd hx
  rw [hy] at hr
  exact (hr.cell hc).1
theorem EnvRel.rdPure (h : EnvRel K F0 B n w0 F S e a w) {X : Operand} {x : AX} (hx : compX K X = some x) {y : AV} (hy : Go.AM.rd e x = y) (hc : isPure y = true) : PRep w F y (a.eval X) := by
  obtain ⟨T, hr⟩ := h.rd hx
  rw [hy] at hr
  exact (hr.pure hc).1
theorem EnvRel.rdBool (h : EnvRel K F0 B n w0 F S e a w) {X : Operand} {x : AX} (hx : compX K X = some x) {b : Bool} (hy : Go.AM.rd e x = .bool b) : a.eval X = .bool b := by
  have := h.rdCell hx hy rfl
  generalize a.eval X = v at this
  cases this; rfl
theorem EnvRel.rdInt (h : EnvRel K F0 B n w0 F S e a w) {X : Operand} {x : AX} (hx : compX K X = some x) {k : IntKind} {m : Int} (hy : Go.AM.rd e x = .int k m) : a.eval X = .int k m := by
  have := h.rdCell hx hy rfl
  generalize a.eval X = v at this
  cases this; rfl
theorem EnvRel.rdStr (h : EnvRel K F0 B n w0 F S e a w) {X : Operand} {x : AX} (hx : compX K X = some x) {s : List UInt8} (hy : Go.AM.rd e x = .str s) : a.eval X = .string ⟨s.toArray⟩ := by
  have := h.rdCell hx hy rfl
  generalize a.eval X = v at this
  cases this; rfl

theorem EnvRel.look_pick (h : EnvRel K F0 B n w0 F S e a w) {o : Oper} {c x y : Operand} {ao : AOp} (ho : o.op = .pick c x y) (hco : compOp P K o.op = some ao) {z : AV} (hz : val e ao = some z) : Looks K P e a w F o z := by
  simp only [ho, compOp] at hco
  split at hco
  · rename_i c' x' y' hc hx hy
    simp at hco; subst hco
    simp only [val] at hz
    split at hz
    · rename_i hcb
      split at hz
      · rename_i b hb
        simp at hz; subst hz
        refine ⟨.bool b, ?_, .val (.val (.cell (.pure (.bool b) rfl)))⟩
        simp only [execOp, ho, h.rdBool hc hcb, h.rdBool hx hb]
        rfl
      · cases hz
    · rename_i hcb
      split at hz
      · rename_i b hb
        simp at hz; subst hz
        refine ⟨.bool b, ?_, .val (.val (.cell (.pure (.bool b) rfl)))⟩
        simp only [execOp, ho, h.rdBool hc hcb, h.rdBool hy hb]
        rfl
      · cases hz
    · cases hz
  · cases hco

theorem cell_of {b i : Nat} {cells : Array Value} {ty : TypeId} {fr : Nat × Nat} (hg : w.heap[b]? = some (.cells cells ty fr)) : w.cell? ⟨b, i, none⟩ = cells[i]? := by
  simp [World.cell?, hg]

/-- A pointer's operand, read: where it leads, and what stands there. -/
theorem EnvRel.rdRptr (h : EnvRel K F0 B n w0 F S e a w) {X : Operand} {x : AX} (hx : compX K X = some x) {cs : List AV} {off : Nat} (hy : Go.AM.rd e x = .rptr cs off) :
    ∃ b o, a.eval X = .pointer (some ⟨b, o + off, none⟩) ∧ F b ∧ (∀ y ∈ cs, isCell y = true) ∧ ∀ (j : Nat) y, cs[j]? = some y → ∃ v, w.cell? ⟨b, o + j, none⟩ = some v ∧ PRep w F y v := by
  have := h.rdCell hx hy rfl
  generalize a.eval X = v at this
  cases this with
  | rptr cs b o off vals hb hc hcell hp =>
    refine ⟨b, o, rfl, hb, hc, fun j y hj => ⟨vals j, hcell j (List.getElem?_eq_some_iff.1 hj).1, hp j y hj⟩⟩

theorem EnvRel.rdPtr (h : EnvRel K F0 B n w0 F S e a w) {X : Operand} {x : AX} (hx : compX K X = some x) {s : Nat} {c : Option Nat} {row off : Nat} (hy : Go.AM.rd e x = .ptr s c row off) :
    ∃ rows r b cells ty, content e s c = some rows ∧ rows[row]? = some r ∧ blk (hdr a w s c) = some b ∧ a.eval X = .pointer (some ⟨b, row * r.length + off, none⟩) ∧
      w.heap[b]? = some (.cells cells ty (0, 0)) ∧ b ∈ S s ∧ (∀ (j : Nat) y, r[j]? = some y → ∃ v T, cells[row * r.length + j]? = some v ∧ CRep w F y v T ∧ ∀ b ∈ T, b ∈ S s) ∧ inA K s = true := by
  obtain ⟨T, hr⟩ := h.rd hx
  rw [hy] at hr
  generalize a.eval X = v at hr
  cases hr with
  | val h => have := TRep_refRoot h; simp [refRoot] at this
  | ptr _ _ _ _ rows r b hr hrow hb hK =>
    obtain ⟨b', cells, ty, h1, h2, h3, h4⟩ := h.row hr hrow
    rw [hb] at h1; cases h1
    exact ⟨rows, r, b, cells, ty, hr, hrow, hb, rfl, h2, h3, h4, hK⟩

theorem CRep.pureOf {x : AV} {v : Value} {T : List Nat} (h : CRep w F x v T) (hc : isCell x = true) : PRep w F x v := by
  cases h with
  | pure h _ => exact h
  | _ => simp [isCell] at hc

theorem EnvRel.look_load1 (h : EnvRel K F0 B n w0 F S e a w) {o : Oper} {t : TypeId} {X : Operand} {x : AX} (ho : o.op = .load t X) (hat : isAggT P t = some false) (hx : compX K X = some x)
    {z : AV} (hz : val e (.load1 x) = some z) : Looks K P e a w F o z := by
  have hrun : ∀ b i v, a.eval X = .pointer (some ⟨b, i, none⟩) → w.cell? ⟨b, i, none⟩ = some v → (execOp a.eval o).run P w = .ok (.value v) w := fun b i v h1 h2 => by
    simp only [execOp, ho, Instr.loadAt, Instr.sureAddr, h1, loadVar]
    simp [run_isAggT hat, run_load, h2]
  simp only [val] at hz
  split at hz
  · rename_i cs off hy
    obtain ⟨b, o', hp, hb, hcl, hcells⟩ := h.rdRptr hx hy
    split at hz
    · rename_i y hyo
      split at hz
      · rename_i hcy
        simp at hz; subst hz
        obtain ⟨v, hv, hpv⟩ := hcells off y hyo
        exact ⟨v, hrun b _ v hp hv, hpv.srep⟩
      · cases hz
    · cases hz
  · rename_i s c row off hy
    obtain ⟨rows, r, b, cells, ty, hc, hrow, hblk, hp, hg, hbS, hcells, hKp⟩ := h.rdPtr hx hy
    simp only [hc, hrow] at hz
    split at hz
    · rename_i zz rr hro
      cases c with
      | some k => simp at hz
      | none =>
        simp at hz; subst hz
        obtain ⟨v, T, hv, hcr, _⟩ := hcells off _ hro
        have hcell := (cell_of (w := w) hg (i := row * r.length + off)).trans hv
        refine ⟨v, hrun b _ v hp hcell, ?_⟩
        have hs : ∃ cs, e s = .box cs ∧ row = 0 ∧ r = cs := by
          cases hes : e s with
          | box cs =>
            simp [content, hes] at hc; subst hc
            cases row with
            | zero => simp at hrow; exact ⟨cs, rfl, rfl, hrow.symm⟩
            | succ i => simp at hrow
          | own z' rs =>
            simp [content, hes] at hc; subst hc
            exfalso
            have hr := h.rep s
            rw [hes] at hr
            generalize a.tmps.getD s Go.undef = u at hr
            generalize S s = T' at hr
            cases hr with
            | val h => cases h with
              | val h => cases h with
                | cell h => cases h with
                  | pure h hc => simp [isCell] at hc
                  | ownNil => simp at hrow
                  | own esz rows b cap cells ty hg hsz hcap hmx hesz hcl h =>
                    have := hcl r (List.mem_of_getElem? hrow) _ (List.mem_of_getElem? hro)
                    simp [isCell] at this
          | _ => simp [content, hes] at hc
        obtain ⟨cs, hes, rfl, rfl⟩ := hs
        refine .ref s (some off) v (by simp [content, hes, hro]) (by simp) ?_ hKp
        have hh : a.tmps.getD s Go.undef = .pointer (some ⟨b, 0, none⟩) := by
          have hr := h.rep s
          rw [hes] at hr
          unfold hdr at hblk
          simp only [] at hblk
          generalize a.tmps.getD s Go.undef = u at hr hblk
          generalize S s = T' at hr
          cases hr with
          | val h => cases h with
            | val h => cases h with
              | cell h => cases h with
                | pure h hc => simp [isCell] at hc
          | box cs b' cells' ty' S' hg' hl => simp [blk] at hblk; subst hblk; rfl
        simp only [hdr, hh]
        simp at hcell
        simp [hcell]
    · rename_i y hyo hne
      split at hz
      · rename_i hcy
        simp at hz; subst hz
        obtain ⟨v, T, hv, hcr, _⟩ := hcells off y hne
        exact ⟨v, hrun b _ v hp ((cell_of hg).trans hv), (hcr.pureOf hcy).srep⟩
      · cases hz
    · cases hz
  · cases hz

theorem run_loadCells' {b o m : Nat} {vs : List Value} (hl : vs.length = m) (h : ∀ (j : Nat) v, vs[j]? = some v → w.cell? ⟨b, o + j, none⟩ = some v) : (loadCells ⟨b, o, none⟩ m).run P w = .ok vs.toArray w := by
  subst hl
  have hadd : ∀ j, (⟨b, o, none⟩ : Addr).add j = ⟨b, o + j, none⟩ := fun j => by unfold Addr.add; split <;> simp_all
  rw [run_loadCells_list (P := P) w ⟨b, o, none⟩ vs fun j v hj => by rw [hadd]; exact h j v hj]

/-- Values for cells that read so. -/
theorem pick_vals {Q : Nat → AV → Value → Prop} : ∀ (xs : List AV) (i : Nat), (∀ (j : Nat) x, xs[j]? = some x → ∃ v, Q (i + j) x v) →
    ∃ vs : List Value, vs.length = xs.length ∧ ∀ (j : Nat) x v, xs[j]? = some x → vs[j]? = some v → Q (i + j) x v
  | [], i, _ => ⟨[], rfl, by simp⟩
  | x :: xs, i, h => by
    obtain ⟨v, hv⟩ := h 0 x rfl
    obtain ⟨vs, hl, hvs⟩ := pick_vals xs (i + 1) fun j y hj => by
      obtain ⟨u, hu⟩ := h (j + 1) y (by simpa using hj)
      exact ⟨u, by rw [Nat.add_right_comm, Nat.add_assoc]; exact hu⟩
    refine ⟨v :: vs, by simp [hl], fun j y u hj hu => ?_⟩
    cases j with
    | zero => simp at hj hu; subst hj; subst hu; exact hv
    | succ j => have := hvs j y u (by simpa using hj) (by simpa using hu); rw [Nat.add_right_comm, Nat.add_assoc] at this; exact this

theorem EnvRel.look_loadN (h : EnvRel K F0 B n w0 F S e a w) {o : Oper} {t : TypeId} {X : Operand} {x : AX} {m : Nat} (ho : o.op = .load t X) (hat : isAggT P t = some true) (hsz : sizeO P t = some m)
    (hx : compX K X = some x) {z : AV} (hz : val e (.loadN m x) = some z) : Looks K P e a w F o z := by
  have hrun : ∀ b i (xs : List AV), xs.length = m → (∀ x ∈ xs, isCell x = true) → a.eval X = .pointer (some ⟨b, i, none⟩) → (∀ (j : Nat) y, xs[j]? = some y → ∃ v, w.cell? ⟨b, i + j, none⟩ = some v ∧ PRep w F y v) →
      Looks K P e a w F o (.agg xs) := fun b i xs hl hcl h1 h2 => by
    obtain ⟨vs, hvl, hvs⟩ := pick_vals (Q := fun j y v => w.cell? ⟨b, i + j, none⟩ = some v ∧ PRep w F y v) xs 0 fun j y hj => by simpa using h2 j y hj
    have hcell : ∀ (j : Nat) v, vs[j]? = some v → w.cell? ⟨b, i + j, none⟩ = some v := fun j v hj => by
      have hj' : j < xs.length := by rw [← hvl]; exact (List.getElem?_eq_some_iff.1 hj).1
      have := (hvs j xs[j] v (List.getElem?_eq_getElem hj') hj).1
      simpa using this
    refine ⟨.agg vs.toArray, ?_, (PRep.agg xs vs hvl.symm hcl fun j y v hj hv => by simpa using (hvs j y v hj hv).2).srep⟩
    simp only [execOp, ho, Instr.loadAt, Instr.sureAddr, h1, loadVar]
    simp [run_isAggT hat, run_sizeO hsz, run_loadCells' (hvl.trans hl) hcell]
  have hget : ∀ (l : List AV) (off j : Nat) y, ((l.drop off).take m)[j]? = some y → l[off + j]? = some y := fun l off j y hj => by
    rw [List.getElem?_take] at hj
    split at hj
    · simpa [List.getElem?_drop] using hj
    · cases hj
  simp only [val] at hz
  split at hz
  · rename_i cs off hy
    obtain ⟨b, o', hp, hb, hcl, hcells⟩ := h.rdRptr hx hy
    split at hz
    · rename_i hcond
      simp at hz; subst hz
      refine hrun b (o' + off) _ (by simp; omega) (List.all_eq_true.1 hcond.2) hp fun j y hj => ?_
      obtain ⟨v, h1, h2⟩ := hcells (off + j) y (hget _ _ _ _ hj)
      exact ⟨v, by rw [Nat.add_assoc]; exact h1, h2⟩
    · cases hz
  · rename_i s c row off hy
    obtain ⟨rows, r, b, cells, ty, hc, hrow, hblk, hp, hg, hbS, hcells, hKp⟩ := h.rdPtr hx hy
    simp only [hc, hrow] at hz
    split at hz
    · rename_i hcond
      simp at hz; subst hz
      refine hrun b _ _ (by simp; omega) (List.all_eq_true.1 hcond.2) hp fun j y hj => ?_
      obtain ⟨v, T, h1, h2, _⟩ := hcells (off + j) y (hget _ _ _ _ hj)
      refine ⟨v, ?_, h2.pureOf (List.all_eq_true.1 hcond.2 y (List.mem_of_getElem? hj))⟩
      rw [cell_of hg, Nat.add_assoc]; exact h1
    · cases hz
  · cases hz

end
end Go.AM
