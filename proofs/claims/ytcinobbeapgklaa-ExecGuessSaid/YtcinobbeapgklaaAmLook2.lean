/- YtcinobbeapgklaaAmLook2: more operations that only look. No statement of the seat is proved here. -/
import Derived.Test.YtcinobbeapgklaaAmLook
namespace Go.AM
open Go.RowKit (Below)

section
variable {P : Program} {K : List Nat} {F0 : Nat → Prop} {B n : Nat} {w0 : World} {F : Nat → Prop} {S : Nat → List Nat} {e : Env} {a : Act} {w : World}

theorem addr_add (b o k : Nat) : (⟨b, o, none⟩ : Addr).add k = ⟨b, o + k, none⟩ := by unfold Addr.add; split <;> simp_all

theorem EnvRel.look_addOff (h : EnvRel K F0 B n w0 F S e a w) {o : Oper} {t : TypeId} {X : Operand} {x : AX} {i : Nat} {fs : Array Field} {f : Field} {m : Nat} (ho : o.op = .fieldAddr t X i) (ht : P.underlying t = some (.struct fs))
    (hf : fs[i]? = some f) (hsz : sizeO P f.type = some (m + 1)) (hx : compX K X = some x) {z : AV} (hz : val e (.addOff x f.offset) = some z) : Looks K P e a w F o z := by
  have hrun : ∀ b i', a.eval X = .pointer (some ⟨b, i', none⟩) → (execOp a.eval o).run P w = .ok (.value (.pointer (some ⟨b, i' + f.offset, none⟩))) w := fun b i' h1 => by
    simp only [execOp, ho, Instr.fieldAt, h1]
    simp [run_underlying' ht, hf, Instr.sureAddr, fieldPlace, run_sizeO hsz, addr_add]
  simp only [val] at hz
  split at hz
  · rename_i cs off hy
    simp at hz; subst hz
    have hp := h.rdCell hx hy rfl
    generalize hv : a.eval X = v at hp
    cases hp with
    | rptr cs b o' off vals hb hc hcell hpp =>
      exact ⟨_, hrun b _ hv, by rw [Nat.add_assoc]; exact (PRep.rptr cs b o' (off + f.offset) vals hb hc hcell hpp).srep⟩
  · rename_i s c row off hy
    simp at hz; subst hz
    obtain ⟨rows, r, b, cells, ty, hc, hrow, hblk, hp, hg, hbS, hcells, hKp⟩ := h.rdPtr hx hy
    exact ⟨_, hrun b _ hp, by rw [Nat.add_assoc]; exact .ptr s c row (off + f.offset) rows r b hc hrow hblk hKp⟩
  · cases hz

theorem EnvRel.look_idxA (h : EnvRel K F0 B n w0 F S e a w) {o : Oper} {t el : TypeId} {X I : Operand} {x i : AX} {len m : Nat} (ho : o.op = .indexAddr t X I) (ht : P.underlying t = some (.array len el))
    (hsz : sizeO P el = some m) (hx : compX K X = some x) (hi : compX K I = some i) {z : AV} (hz : val e (.idxA len m x i) = some z) : Looks K P e a w F o z := by
  have hrun : ∀ b i' (k : IntKind) (j : Int), a.eval X = .pointer (some ⟨b, i', none⟩) → a.eval I = .int k j → 0 ≤ j ∧ j < len →
      (execOp a.eval o).run P w = .ok (.value (.pointer (some ⟨b, i' + j.toNat * m, none⟩))) w := fun b i' k j h1 h2 h3 => by
    simp only [execOp, ho, Instr.indexAt, h1, h2]
    simp [asIntOf, run_underlying' ht, Instr.sureAddr, run_sizeO hsz, addr_add, h3.1, h3.2]
  simp only [val] at hz
  split at hz
  · rename_i cs off k j hy hj
    split at hz
    · rename_i hb'
      simp at hz; subst hz
      have hp := h.rdCell hx hy rfl
      have hI := h.rdInt hi hj
      generalize hv : a.eval X = v at hp
      cases hp with
      | rptr cs b o' off vals hb hc hcell hpp =>
        exact ⟨_, hrun b _ k j hv hI hb', by rw [Nat.add_assoc]; exact (PRep.rptr cs b o' (off + j.toNat * m) vals hb hc hcell hpp).srep⟩
    · cases hz
  · rename_i s c row off k j hy hj
    split at hz
    · rename_i hb'
      simp at hz; subst hz
      have hI := h.rdInt hi hj
      obtain ⟨rows, r, b, cells, ty, hc, hrow, hblk, hp, hg, hbS, hcells, hKp⟩ := h.rdPtr hx hy
      exact ⟨_, hrun b _ k j hp hI hb', by rw [Nat.add_assoc]; exact .ptr s c row (off + j.toNat * m) rows r b hc hrow hblk hKp⟩
    · cases hz
  · cases hz

/-- A reference's header, where there are rows. -/
theorem EnvRel.header (h : EnvRel K F0 B n w0 F S e a w) {s : Nat} {c : Option Nat} {rows : List (List AV)} (hc : content e s c = some rows) (hb : ∀ cs, c = none → e s ≠ .box cs) :
    ∃ ad cap, hdr a w s c = .slice ad rows.length cap ∧ rows.length ≤ cap ∧ cap ≤ maxLen ∧ (rows ≠ [] → ∃ b, ad = some ⟨b, 0, none⟩) := by
  have key : ∀ z rs v T, CRep w F (.own z rs) v T → ∃ ad cap, v = .slice ad rs.length cap ∧ rs.length ≤ cap ∧ cap ≤ maxLen ∧ (rs ≠ [] → ∃ b, ad = some ⟨b, 0, none⟩) := fun z rs v T h => by
    cases h with
    | pure _ hc => simp [isCell] at hc
    | ownNil esz ad => exact ⟨ad, 0, rfl, Nat.le_refl _, Nat.zero_le _, fun h => absurd rfl h⟩
    | own esz rows b cap cells ty hg hsz hcap hmx hesz hcl h => exact ⟨_, cap, rfl, hcap, hmx, fun _ => ⟨b, rfl⟩⟩
  have hr := h.rep s
  cases c with
  | none =>
    unfold hdr
    simp only []
    generalize a.tmps.getD s Go.undef = v at hr ⊢
    generalize S s = T at hr
    cases hes : e s with
    | box cs => exact absurd hes (hb cs rfl)
    | own z rs =>
      simp [content, hes] at hc; subst hc
      rw [hes] at hr
      cases hr with
      | val h => cases h with
        | val h => cases h with
          | cell h => exact key _ _ _ _ h
    | _ => simp [content, hes] at hc
  | some k =>
    unfold hdr
    simp only []
    generalize a.tmps.getD s Go.undef = v at hr ⊢
    generalize S s = T at hr
    cases hes : e s with
    | box cs =>
      simp only [content, hes] at hc
      rw [hes] at hr
      cases hck : cs[k]? with
      | none => simp [hck] at hc
      | some y =>
        cases y with
        | own z rs =>
          simp [hck] at hc; subst hc
          cases hr with
          | val h => cases h with
            | val h => cases h with
              | cell h => cases h with
                | pure h hc => simp [isCell] at hc
          | box cs b cells ty S' hg hl =>
            obtain ⟨u, T', h1, h2, h3⟩ := hl.get k _ hck
            have hcell : w.cell? ⟨b, k, none⟩ = some u := by
              simp [World.cell?, hg]
              simpa using h1
            simp only [hcell]
            exact key _ _ _ _ h2
        | _ => simp [hck] at hc
    | _ => simp [content, hes] at hc

theorem EnvRel.rdRef (h : EnvRel K F0 B n w0 F S e a w) {X : Operand} {x : AX} (hx : compX K X = some x) {s : Nat} {c : Option Nat} (hy : Go.AM.rd e x = .ref s c) :
    ∃ rows ad cap, content e s c = some rows ∧ a.eval X = .slice ad rows.length cap ∧ a.eval X = hdr a w s c ∧ rows.length ≤ cap ∧ cap ≤ maxLen ∧ (rows ≠ [] → ∃ b, ad = some ⟨b, 0, none⟩ ∧ blk (hdr a w s c) = some b) ∧ inA K s = true := by
  obtain ⟨T, hr⟩ := h.rd hx
  rw [hy] at hr
  generalize hv : a.eval X = v at hr
  cases hr with
  | val h => have := TRep_refRoot h; simp [refRoot] at this
  | ref _ _ _ hr hb hd hK =>
    cases hc : content e s c with
    | none => simp [hc] at hr
    | some rows =>
      obtain ⟨ad, cap, h1, h2, h3, h4⟩ := h.header hc hb
      refine ⟨rows, ad, cap, rfl, by rw [hd, h1], hd, h2, h3, fun hne => ?_, hK⟩
      obtain ⟨b, hb'⟩ := h4 hne
      exact ⟨b, hb', by rw [h1, hb']; rfl⟩

theorem EnvRel.look_idxS (h : EnvRel K F0 B n w0 F S e a w) {o : Oper} {t el : TypeId} {X I : Operand} {x i : AX} {m : Nat} (ho : o.op = .indexAddr t X I) (ht : P.underlying t = some (.slice el))
    (hsz : sizeO P el = some m) (hx : compX K X = some x) (hi : compX K I = some i) {z : AV} (hz : val e (.idxS m x i) = some z) : Looks K P e a w F o z := by
  have hrun : ∀ b o' len cap (k : IntKind) (j : Int), a.eval X = .slice (some ⟨b, o', none⟩) len cap → a.eval I = .int k j → 0 ≤ j ∧ j < len →
      (execOp a.eval o).run P w = .ok (.value (.pointer (some ⟨b, o' + j.toNat * m, none⟩))) w := fun b o' len cap k j h1 h2 h3 => by
    simp only [execOp, ho, Instr.indexAt, h1, h2]
    simp [asIntOf, run_underlying' ht, run_sizeO hsz, addr_add, h3.1, h3.2]
  simp only [val] at hz
  split at hz
  · rename_i full rows k j hy hj
    split at hz
    · rename_i hb'
      split at hz
      · rename_i r hr
        split at hz
        · rename_i hlr
          simp at hz; subst hz
          have hp := h.rdCell hx hy rfl
          have hI := h.rdInt hi hj
          generalize hv : a.eval X = v at hp
          cases hp with
          | slNil => simp at hr
          | sl full rows b o' esz cap vals hb hcap hfull hesz hcl hcell hpp =>
            have hez : esz = m := by rw [← hlr]; exact (hesz r (List.mem_of_getElem? hr)).symm
            subst hez
            refine ⟨_, hrun b o' _ cap k j hv hI hb', ?_⟩
            have := PRep.rptr (w := w) (F := F) r b (o' + j.toNat * esz) 0 (fun q => vals j.toNat q) hb (hcl r (List.mem_of_getElem? hr))
              (fun q hq => hcell j.toNat q (List.getElem?_eq_some_iff.1 hr).1 (by omega)) fun q y hq => hpp j.toNat r q y hr hq
            exact this.srep
        · cases hz
      · cases hz
    · cases hz
  · rename_i s c k j hy hj
    obtain ⟨rows, ad, cap, hc, hX, hXh, hle, hmx, hnil, hKp⟩ := h.rdRef hx hy
    simp only [hc] at hz
    split at hz
    · rename_i hb'
      split at hz
      · rename_i r hr
        split at hz
        · rename_i hlr
          simp at hz; subst hz
          have hI := h.rdInt hi hj
          obtain ⟨b, rfl, hblk⟩ := hnil (by rintro rfl; simp at hr)
          refine ⟨_, hrun b 0 _ cap k j hX hI hb', ?_⟩
          have := SRep.ptr (e := e) (a := a) (w := w) (F := F) s c j.toNat 0 rows r b hc hr hblk hKp
          rw [hlr] at this
          simpa using this
        · cases hz
      · cases hz
    · cases hz
  · cases hz

theorem EnvRel.look_idxStr (h : EnvRel K F0 B n w0 F S e a w) {o : Oper} {t : TypeId} {X I : Operand} {x i : AX} (ho : o.op = .index t X I) (ht : P.underlying t = some .string)
    (hx : compX K X = some x) (hi : compX K I = some i) {z : AV} (hz : val e (.idxStr x i) = some z) : Looks K P e a w F o z := by
  simp only [val] at hz
  split at hz
  · rename_i s k j hy hj
    split at hz
    · rename_i hb'
      cases hs : s[j.toNat]? with
      | none => simp [hs] at hz
      | some b =>
        simp [hs] at hz; subst hz
        refine ⟨.int .u8 b.toNat, ?_, .val (.val (.cell (.pure (.int _ _) rfl)))⟩
        have hlt := (List.getElem?_eq_some_iff.1 hs).1
        have hg : (⟨s.toArray⟩ : ByteArray)[j.toNat]? = some b := by
          have hsz : j.toNat < (⟨s.toArray⟩ : ByteArray).size := by simpa [ByteArray.size] using hlt
          rw [getElem?_pos (⟨s.toArray⟩ : ByteArray) j.toNat hsz]
          rw [List.getElem?_eq_getElem hlt] at hs
          simpa [ByteArray.getElem_eq_getElem_data] using hs
        simp only [execOp, ho, Instr.index, h.rdStr hx hy, h.rdInt hi hj]
        simp [asIntOf, run_underlying' ht, hb', hg]
    · cases hz
  · cases hz

end
end Go.AM
