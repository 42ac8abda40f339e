/- YtcinobbeapgklaaAmWrite2: a store into a slice that a slot owns. No statement of the seat is proved here. -/
import Derived.Test.YtcinobbeapgklaaAmWrite
namespace Go.AM
open Go.RowKit (Below)

section
variable {P : Program} {K : List Nat} {F0 : Nat → Prop} {B n : Nat} {w0 : World} {F : Nat → Prop} {S : Nat → List Nat} {e : Env} {a : Act} {w : World}

/-- An owned slice, one of whose rows turns. -/
theorem CRep.ownSet {z : Nat} {rows : List (List AV)} {v : Value} {T : List Nat} (h : CRep w F (.own z rows) v T) {row off : Nat} {r new : List AV} {vs : List Value} (hr : rows[row]? = some r)
    (hle : off + new.length ≤ r.length) (hn : CRepL w F new vs []) (hnc : ∀ x ∈ new, isCell x = true) :
    ∃ b cells ty, T = [b] ∧ blk v = some b ∧ r.length = z ∧ w.heap[b]? = some (.cells cells ty (0, 0)) ∧ row * z + off + vs.length ≤ cells.size ∧
      (∀ w' : World, (∀ c, F c → w'.heap[c]? = w.heap[c]?) → w'.heap[b]? = some (.cells (cells.toList.take (row * z + off) ++ vs ++ cells.toList.drop (row * z + off + vs.length)).toArray ty (0, 0)) →
        CRep w' F (.own z (rows.set row (lay r off new))) v [b]) := by
  cases h with
  | pure _ hc => simp [isCell] at hc
  | ownNil => simp at hr
  | own esz rows b cap cells ty hg hsz hcap hmx hesz hcl h =>
    have hrl : r.length = z := hesz r (List.mem_of_getElem? hr)
    have hrow : row < rows.length := (List.getElem?_eq_some_iff.1 hr).1
    have hvl := hn.length
    have hbig : row * z + z ≤ cap * z := by
      have : (row + 1) * z ≤ cap * z := Nat.mul_le_mul_right z (by omega)
      rw [Nat.add_mul, Nat.one_mul] at this; exact this
    have hfit : row * z + off + vs.length ≤ cells.size := by rw [hsz]; omega
    refine ⟨b, cells, ty, rfl, rfl, hrl, hg, hfit, fun w' hF hg' => ?_⟩
    have hlen : (rows.set row (lay r off new)).length = rows.length := by simp
    rw [← hlen]
    obtain ⟨_, hp⟩ := hn.pure hnc
    have hsplit : ∀ (i : Nat) q, (rows.set row (lay r off new))[i]? = some q → (i = row ∧ q = lay r off new) ∨ (i ≠ row ∧ rows[i]? = some q) := fun i q hq => by
      by_cases hi : row = i
      · subst hi; simp [hrow] at hq; exact .inl ⟨rfl, hq.symm⟩
      · rw [List.getElem?_set_ne hi] at hq; exact .inr ⟨Ne.symm hi, hq⟩
    refine .own z _ b cap _ ty hg' ?_ (by rw [hlen]; exact hcap) hmx ?_ ?_ ?_
    · simp; omega
    · intro q hq
      obtain ⟨i, hi⟩ := List.getElem?_of_mem hq
      rcases hsplit i q hi with ⟨_, rfl⟩ | ⟨_, hi⟩
      · rw [lay_length hle]; exact hrl
      · exact hesz q (List.mem_of_getElem? hi)
    · intro q hq x hx
      obtain ⟨i, hi⟩ := List.getElem?_of_mem hq
      rcases hsplit i q hi with ⟨_, rfl⟩ | ⟨_, hi⟩
      · unfold lay at hx
        rcases List.mem_append.1 hx with hx | hx
        · rcases List.mem_append.1 hx with hx | hx
          · exact hcl r (List.mem_of_getElem? hr) x (List.mem_of_mem_take hx)
          · exact hnc x hx
        · exact hcl r (List.mem_of_getElem? hr) x (List.mem_of_mem_drop hx)
      · exact hcl q (List.mem_of_getElem? hi) x hx
    · intro i q j x hi hj
      have hll : row * z + off + vs.length ≤ cells.toList.length := by simpa using hfit
      have get : ∀ k : Nat, (cells.toList.take (row * z + off) ++ vs ++ cells.toList.drop (row * z + off + vs.length)).toArray[k]? = (cells.toList.take (row * z + off) ++ vs ++ cells.toList.drop (row * z + off + vs.length))[k]? := fun k => List.getElem?_toArray
      rcases hsplit i q hi with ⟨rfl, rfl⟩ | ⟨hne, hi⟩
      · by_cases hj2 : j < off ∨ off + new.length ≤ j
        · rw [lay_get hle hj2] at hj
          obtain ⟨u, hu, hpu⟩ := h i r j x hr hj
          refine ⟨u, ?_, hpu.mono (fun _ h => h) hF⟩
          rw [get, splice_get hll (by omega)]
          simpa using hu
        · have hj3 : off ≤ j ∧ j < off + new.length := by omega
          have hx : new[j - off]? = some x := by
            unfold lay at hj
            rw [List.getElem?_append_left (by simp; omega), List.getElem?_append_right (by simp; omega)] at hj
            simp only [List.length_take] at hj
            rw [← hj]; congr 1; omega
          have hjv : j - off < vs.length := by omega
          refine ⟨vs[j - off], ?_, (hp (j - off) x _ hx (List.getElem?_eq_getElem hjv)).mono (fun _ h => h) hF⟩
          rw [get, List.getElem?_append_left (by simp; omega), List.getElem?_append_right (by simp; omega)]
          simp only [List.length_take]
          rw [show i * z + j - min (i * z + off) cells.toList.length = j - off by omega, List.getElem?_eq_getElem hjv]
      · obtain ⟨u, hu, hpu⟩ := h i q j x hi hj
        refine ⟨u, ?_, hpu.mono (fun _ h => h) hF⟩
        have hjz : j < z := by
          have := (List.getElem?_eq_some_iff.1 hj).1
          have := hesz q (List.mem_of_getElem? hi)
          omega
        rw [get, splice_get hll ?_]
        · simpa using hu
        · rcases Nat.lt_or_gt_of_ne hne with hlt | hgt
          · have : (i + 1) * z ≤ row * z := Nat.mul_le_mul_right z (by omega)
            rw [Nat.add_mul, Nat.one_mul] at this
            left; omega
          · have : (row + 1) * z ≤ i * z := Nat.mul_le_mul_right z (by omega)
            rw [Nat.add_mul, Nat.one_mul] at this
            right; omega

/-- A store into a slice that a slot owns. -/
theorem EnvRel.writeOwn (h : EnvRel K F0 B n w0 F S e a w) {s z : Nat} {rows : List (List AV)} (hs : e s = .own z rows) {row off : Nat} {r new : List AV} {vs : List Value} (hr : rows[row]? = some r)
    (hle : off + new.length ≤ r.length) (hn : CRepL w F new vs []) (hnc : ∀ x ∈ new, isCell x = true) :
    ∃ b cells ty S', blk (hdr a w s none) = some b ∧ w.heap[b]? = some (.cells cells ty (0, 0)) ∧ row * r.length + off + vs.length ≤ cells.size ∧
      EnvRel K F0 B n w0 F S' (upd e s (.own z (rows.set row (lay r off new)))) a (w.setRow b (cells.toList.take (row * r.length + off) ++ vs ++ cells.toList.drop (row * r.length + off + vs.length)).toArray) := by
  obtain ⟨b, cells, ty, hT, hbk, hrl, hg, hfit, hset⟩ := (h.ownRep hs).ownSet hr hle hn hnc
  subst hrl
  have hbS : b ∈ S s := by rw [hT]; simp
  have hbown := h.own s b hbS
  refine ⟨b, cells, ty, _, hbk, hg, hfit, h.write (T' := [b]) hbS (fun k hk => setRow_other w b k _ hk) (by simp) (below_setRow _ hbown.1) ?_ (by simp) ?_ ?_ (by simp [hs]) (by simp [hs]) ?_ ?_⟩
  · exact .val (.val (.cell (hset _ (fun c hc => setRow_other w b c _ fun he => hbown.2.2 (he ▸ hc)) (setRow_heap w b cells _ ty _ hg))))
  · intro c hc; simp at hc; subst hc; exact hbown
  · intro c hc t hts; simp at hc; subst hc; exact h.apart s t c (Ne.symm hts) hbS
  · intro t c ht
    cases c with
    | none => exact ⟨by simp [content, upd_same], by simp, rfl⟩
    | some k =>
      have hrt := h.rep t
      rw [ht] at hrt
      generalize a.tmps.getD t Go.undef = u at hrt
      generalize S t = Tt at hrt
      cases hrt with
      | val h => have := TRep_refRoot h; simp [refRoot] at this
      | ref _ _ _ hr' hb' hd hK => simp [content, hs] at hr'
  · intro t c row' o ht rs q hc hrw
    cases c with
    | none =>
      simp [content, hs] at hc; subst hc
      by_cases hrr : row = row'
      · subst hrr
        rw [hr] at hrw; cases hrw
        refine ⟨rows.set row (lay r off new), lay r off new, by simp [content, upd_same], ?_, lay_length hle, rfl⟩
        have := (List.getElem?_eq_some_iff.1 hr).1
        simp [this]
      · exact ⟨rows.set row (lay r off new), q, by simp [content, upd_same], by rw [List.getElem?_set_ne hrr]; exact hrw, rfl, rfl⟩
    | some k => simp [content, hs] at hc

theorem CRepL.set {cs : List AV} {l : List Value} {T : List Nat} (h : CRepL w F cs l T) : ∀ {k : Nat} {x y : AV} {v : Value}, cs[k]? = some x → l[k]? = some v →
    ∃ T1 T2 T3, T = T1 ++ (T2 ++ T3) ∧ CRep w F x v T2 ∧ ∀ {w' : World} {F' : Nat → Prop} {T2' : List Nat}, (∀ b, F b → F' b) → (∀ b, F b → w'.heap[b]? = w.heap[b]?) → (∀ b, b ∈ T1 ∨ b ∈ T3 → w'.heap[b]? = w.heap[b]?) →
      CRep w' F' y v T2' → CRepL w' F' (cs.set k y) l (T1 ++ (T2' ++ T3)) := by
  induction h with
  | nil => intro k x y v hx; simp at hx
  | cons h t ih =>
    rename_i x0 v0 S0 xs vs S'
    intro k x y v hx hv
    cases k with
    | zero =>
      simp at hx hv; subst hx; subst hv
      refine ⟨[], S0, S', rfl, h, fun {w' F' T2'} hF hw hT hy => ?_⟩
      show CRepL w' F' (y :: xs) (v0 :: vs) (T2' ++ S')
      exact .cons hy (t.mono hF hw fun b hb => hT b (.inr hb))
    | succ k =>
      obtain ⟨T1, T2, T3, hT, hc, hs⟩ := ih (y := y) (by simpa using hx) (by simpa using hv)
      refine ⟨S0 ++ T1, T2, T3, by rw [hT, List.append_assoc], hc, fun hF hw hT' hy => ?_⟩
      rw [List.append_assoc]
      exact .cons (h.mono hF hw fun b hb => hT' b (.inl (by simp [hb]))) (hs hF hw (fun b hb => hT' b (by rcases hb with hb | hb <;> simp [hb])) hy)

/-- A store into a slice that a cell of a box owns. -/
theorem EnvRel.writeCell (h : EnvRel K F0 B n w0 F S e a w) {s k z : Nat} {cs : List AV} {rows : List (List AV)} (hs : e s = .box cs) (hk : cs[k]? = some (.own z rows)) {row off : Nat} {r new : List AV} {vs : List Value} (hr : rows[row]? = some r)
    (hle : off + new.length ≤ r.length) (hn : CRepL w F new vs []) (hnc : ∀ x ∈ new, isCell x = true) :
    ∃ b cells ty S', blk (hdr a w s (some k)) = some b ∧ w.heap[b]? = some (.cells cells ty (0, 0)) ∧ row * r.length + off + vs.length ≤ cells.size ∧
      EnvRel K F0 B n w0 F S' (upd e s (.box (cs.set k (.own z (rows.set row (lay r off new)))))) a (w.setRow b (cells.toList.take (row * r.length + off) ++ vs ++ cells.toList.drop (row * r.length + off + vs.length)).toArray) := by
  obtain ⟨b0, cells0, ty0, T, h1, h2, h3, h4⟩ := h.box hs
  obtain ⟨u, Tu, hu, _, _⟩ := h3.get k _ hk
  obtain ⟨T1, T2, T3, hT, hcr, hsetL⟩ := h3.set (y := .own z (rows.set row (lay r off new))) hk hu
  obtain ⟨b, cells, ty, hT2, hbk, hrl, hg, hfit, hset⟩ := hcr.ownSet hr hle hn hnc
  subst hrl
  subst hT2
  have hcell : w.cell? ⟨b0, k, none⟩ = some u := by rw [cell_of h2]; simpa using hu
  have hbS : b ∈ S s := by rw [h4, hT]; simp
  have hnds := h.nodup s
  rw [h4, hT] at hnds
  have hbb : b ≠ b0 := fun he => (List.nodup_cons.1 hnds).1 (by simp [he])
  have hbown := h.own s b hbS
  have hw' : ∀ c, c ≠ b → (w.setRow b (cells.toList.take (row * r.length + off) ++ vs ++ cells.toList.drop (row * r.length + off + vs.length)).toArray).heap[c]? = w.heap[c]? := fun c hc => setRow_other w b c _ hc
  have hFb : ∀ c, F c → c ≠ b := fun c hc he => hbown.2.2 (he ▸ hc)
  have hdrk : ∀ k', hdr a (w.setRow b (cells.toList.take (row * r.length + off) ++ vs ++ cells.toList.drop (row * r.length + off + vs.length)).toArray) s (some k') = hdr a w s (some k') := fun k' => by
    simp only [hdr, h1]
    rw [World.cell?_of_block (w := w) (hw' b0 (Ne.symm hbb))]
  have hnd1 := (List.nodup_cons.1 hnds).2
  refine ⟨b, cells, ty, _, by simp only [hdr, h1, hcell, Option.getD_some]; exact hbk, hg, hfit, h.write (T' := b0 :: (T1 ++ ([b] ++ T3))) hbS hw' (by simp) (below_setRow _ hbown.1) ?_ hnds ?_ ?_ (by simp [hs]) (by simp [hs]) ?_ ?_⟩
  · rw [h1]
    refine .box _ b0 cells0 ty0 _ ((hw' b0 (Ne.symm hbb)).trans h2) ?_
    refine hsetL (fun _ h => h) (fun c hc => hw' c (hFb c hc)) (fun c hc => hw' c fun he => ?_) (hset _ (fun c hc => hw' c (hFb c hc)) (setRow_heap w b cells _ ty _ hg))
    subst he
    rw [List.nodup_append] at hnd1
    rcases hc with hc | hc
    · exact hnd1.2.2 c hc c (by simp) rfl
    · have := hnd1.2.1
      rw [List.nodup_append] at this
      exact this.2.2 c (by simp) c hc rfl
  · intro c hc; exact h.own s c (by rw [h4, hT]; exact hc)
  · intro c hc t hts; exact h.apart s t c (Ne.symm hts) (by rw [h4, hT]; exact hc)
  · intro t c ht
    have hrt := h.rep t
    rw [ht] at hrt
    generalize a.tmps.getD t Go.undef = u at hrt
    generalize S t = Tt at hrt
    cases hrt with
    | val h => have := TRep_refRoot h; simp [refRoot] at this
    | ref _ _ _ hr' hb' hd hK =>
      cases c with
      | none => exact absurd hs (hb' cs rfl)
      | some k' =>
        refine ⟨?_, by simp, hdrk k'⟩
        by_cases hkk : k = k'
        · subst hkk
          have := (List.getElem?_eq_some_iff.1 hk).1
          simp [content, upd_same, this]
        · simp only [content, upd_same, List.getElem?_set_ne hkk]
          simpa only [content, hs] using hr'
  · intro t c row' o ht rs q hc hrw
    cases c with
    | none =>
      simp [content, hs] at hc; subst hc
      cases row' with
      | succ i => simp at hrw
      | zero =>
        simp at hrw; subst hrw
        exact ⟨_, _, by simp only [content, upd_same]; rfl, rfl, by simp, rfl⟩
    | some k' =>
      by_cases hkk : k = k'
      · subst hkk
        simp [content, hs, hk] at hc; subst hc
        have hlt := (List.getElem?_eq_some_iff.1 hk).1
        by_cases hrr : row = row'
        · subst hrr
          rw [hr] at hrw; cases hrw
          refine ⟨rows.set row (lay r off new), lay r off new, by simp [content, upd_same, hlt], ?_, lay_length hle, hdrk k⟩
          have := (List.getElem?_eq_some_iff.1 hr).1
          simp [this]
        · exact ⟨rows.set row (lay r off new), q, by simp [content, upd_same, hlt], by rw [List.getElem?_set_ne hrr]; exact hrw, rfl, hdrk k⟩
      · refine ⟨rs, q, ?_, hrw, rfl, hdrk k'⟩
        simp only [content, upd_same, List.getElem?_set_ne hkk]
        simpa only [content, hs] using hc

end
end Go.AM
