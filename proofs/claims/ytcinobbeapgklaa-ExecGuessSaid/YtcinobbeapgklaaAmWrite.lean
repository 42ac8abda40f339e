/- YtcinobbeapgklaaAmWrite: a store into what a slot owns. No statement of the seat is proved here. -/
import Derived.Test.YtcinobbeapgklaaAmTake
import Derived.Laws.CopyRow
namespace Go.AM
open Go.RowKit (Below)

section
variable {P : Program} {K : List Nat} {F0 : Nat → Prop} {B n : Nat} {w0 : World} {F : Nat → Prop} {S : Nat → List Nat} {e : Env} {a : Act} {w : World}

theorem setRow_other (w : World) (g k : Nat) (cs : Array Value) (h : k ≠ g) : (w.setRow g cs).heap[k]? = w.heap[k]? := by
  simp only [World.setRow, Array.getElem?_modify]
  rw [if_neg (Ne.symm h)]

theorem below_setRow {w : World} {g B : Nat} (cs : Array Value) (h : B ≤ g) : Below B w (w.setRow g cs) :=
  ⟨rfl, rfl, rfl, by simp, fun k hk => setRow_other w g k cs (by omega)⟩

/-- The box in a slot. -/
theorem EnvRel.box (h : EnvRel K F0 B n w0 F S e a w) {s : Nat} {cs : List AV} (hs : e s = .box cs) :
    ∃ b cells ty T, a.tmps.getD s Go.undef = .pointer (some ⟨b, 0, none⟩) ∧ w.heap[b]? = some (.cells cells ty (0, 0)) ∧ CRepL w F cs cells.toList T ∧ S s = b :: T := by
  have hr := h.rep s
  rw [hs] at hr
  generalize a.tmps.getD s Go.undef = v at hr
  generalize S s = T at hr
  cases hr with
  | val h => cases h with
    | val h => cases h with
      | cell h => cases h with
        | pure h hc => simp [isCell] at hc
  | box cs b cells ty S' hg hl => exact ⟨b, cells, ty, S', rfl, hg, hl, rfl⟩

theorem EnvRel.ownRep (h : EnvRel K F0 B n w0 F S e a w) {s z : Nat} {rows : List (List AV)} (hs : e s = .own z rows) : CRep w F (.own z rows) (a.tmps.getD s Go.undef) (S s) := by
  have hr := h.rep s
  rw [hs] at hr
  generalize a.tmps.getD s Go.undef = v at hr
  generalize S s = T at hr
  cases hr with
  | val h => cases h with
    | val h => cases h with
      | cell h => exact h

/-- Memory turns at one block of one slot. -/
theorem EnvRel.write (h : EnvRel K F0 B n w0 F S e a w) {s0 b0 : Nat} {x' : AV} {T' : List Nat} {w' : World} (hb0 : b0 ∈ S s0)
    (hw' : ∀ b, b ≠ b0 → w'.heap[b]? = w.heap[b]?) (hsz : w'.heap.size = w.heap.size) (hbl : Below B w w')
    (hrep : SRep K (upd e s0 x') a w' F x' (a.tmps.getD s0 Go.undef) T') (hnd : T'.Nodup) (hT' : ∀ b ∈ T', B ≤ b ∧ b < w.heap.size ∧ ¬ F b) (hap : ∀ b ∈ T', ∀ s, s ≠ s0 → b ∉ S s)
    (hno : ∀ c, e s0 ≠ .ref s0 c) (hnp : ∀ c r o, e s0 ≠ .ptr s0 c r o)
    (hc : ∀ s c, e s = .ref s0 c → (content (upd e s0 x') s0 c).isSome = true ∧ (∀ cs, c = none → x' ≠ .box cs) ∧ hdr a w' s0 c = hdr a w s0 c)
    (hp : ∀ s c row off, e s = .ptr s0 c row off → ∀ rows r, content e s0 c = some rows → rows[row]? = some r → ∃ rows' r', content (upd e s0 x') s0 c = some rows' ∧ rows'[row]? = some r' ∧ r'.length = r.length ∧ hdr a w' s0 c = hdr a w s0 c) :
    EnvRel K F0 B n w0 F (updS S s0 T') (upd e s0 x') a w' := by
  have hbF : ∀ b, F b → b ≠ b0 := fun b hb he => (h.own s0 b0 hb0).2.2 (he ▸ hb)
  refine ⟨h.size, h.defers, ?_, ?_, ?_, ?_, fun b hb => by rw [hsz]; exact h.free b hb, h.old, h.keeps, h.below.trans hbl, by rw [hsz]; exact h.base⟩
  · intro s
    by_cases hs : s = s0
    · subst hs; rw [upd_same, updS_same]; exact hrep
    · rw [upd_ne e _ hs, updS_ne S _ hs]
      have hr := h.rep s
      have hSs : ∀ b ∈ S s, b ≠ b0 := fun b hb he => h.apart s s0 b hs hb (he ▸ hb0)
      have hhdr : ∀ s1 c, s1 ≠ s0 → (content e s1 c).isSome = true → hdr a w' s1 c = hdr a w s1 c := fun s1 c hs1 hcc => by
        cases c with
        | none => rfl
        | some k =>
          cases hes : e s1 with
          | box cs =>
            obtain ⟨b, cells, ty, T, h1, h2, h3, h4⟩ := h.box hes
            unfold hdr
            simp only [h1]
            rw [World.cell?_of_block (w := w) (hw' b fun he => h.apart s1 s0 b hs1 (by rw [h4]; simp) (he ▸ hb0))]
          | _ => simp [content, hes] at hcc
      generalize hx : e s = x at hr
      generalize a.tmps.getD s Go.undef = vv at hr
      generalize S s = TT at hr hSs
      cases hr with
      | val h => exact .val (h.mono (fun _ h => h) (fun b hb => hw' b (hbF b hb)) fun b hb => hw' b (hSs b hb))
      | box cs b cells ty S1 hg hl =>
        exact .box cs b cells ty S1 ((hw' b (hSs b (by simp))).trans hg) (hl.mono (fun _ h => h) (fun b hb => hw' b (hbF b hb)) fun b hb => hw' b (hSs b (by simp [hb])))
      | ref s1 c v hr hb hd hK =>
        by_cases hs1 : s1 = s0
        · subst hs1
          obtain ⟨h1, h2, h3⟩ := hc s c hx
          exact .ref s1 c _ h1 (by rw [upd_same]; exact h2) (by rw [h3]; exact hd) hK
        · exact .ref s1 c _ (by rw [content_congr (upd_ne e x' hs1)]; exact hr) (by rw [upd_ne e x' hs1]; exact hb) (by rw [hhdr s1 c hs1 hr]; exact hd) hK
      | ptr s1 c row off rows r b hr hrow hb hK =>
        by_cases hs1 : s1 = s0
        · subst hs1
          obtain ⟨rows', r', h1, h2, h3, h4⟩ := hp s c row off hx rows r hr hrow
          rw [← h3]
          exact .ptr s1 c row off rows' r' b h1 h2 (by rw [h4]; exact hb) hK
        · exact .ptr s1 c row off rows r b (by rw [content_congr (upd_ne e x' hs1)]; exact hr) hrow (by rw [hhdr s1 c hs1 (by simp [hr])]; exact hb) hK
  · intro s
    by_cases hs : s = s0
    · subst hs; rw [updS_same]; exact hnd
    · rw [updS_ne S _ hs]; exact h.nodup s
  · intro s t b hst hb
    by_cases hs : s = s0
    · subst hs
      rw [updS_same] at hb
      rw [updS_ne S T' (Ne.symm hst)]
      exact hap b hb t (Ne.symm hst)
    · rw [updS_ne S T' hs] at hb
      by_cases ht : t = s0
      · subst ht; rw [updS_same]; exact fun hb' => hap b hb' s hs hb
      · rw [updS_ne S T' ht]; exact h.apart s t b hst hb
  · intro s b hb
    rw [hsz]
    by_cases hs : s = s0
    · subst hs; rw [updS_same] at hb; exact hT' b hb
    · rw [updS_ne S T' hs] at hb; exact h.own s b hb

theorem lay_length {cs new : List AV} {off : Nat} (h : off + new.length ≤ cs.length) : (lay cs off new).length = cs.length := by
  simp [lay]; omega
theorem lay_get {cs new : List AV} {off : Nat} (h : off + new.length ≤ cs.length) {k : Nat} (hk : k < off ∨ off + new.length ≤ k) : (lay cs off new)[k]? = cs[k]? := by
  unfold lay
  rcases hk with hk | hk
  · rw [List.append_assoc, List.getElem?_append_left (by simp; omega)]
    simp [hk]
  · rw [List.getElem?_append_right (by simp; omega)]
    simp only [List.length_append, List.length_take, List.getElem?_drop]
    congr 1
    omega
theorem splice_get {l new : List Value} {off : Nat} (h : off + new.length ≤ l.length) {k : Nat} (hk : k < off ∨ off + new.length ≤ k) : (l.take off ++ new ++ l.drop (off + new.length))[k]? = l[k]? := by
  rcases hk with hk | hk
  · rw [List.append_assoc, List.getElem?_append_left (by simp; omega)]
    simp [hk]
  · rw [List.getElem?_append_right (by simp; omega)]
    simp only [List.length_append, List.length_take, List.getElem?_drop]
    congr 1
    omega

theorem CRepL.lay {cs new : List AV} {l vs : List Value} {T Tn : List Nat} {off : Nat} (h : CRepL w F cs l T) (hn : CRepL w F new vs Tn) :
    ∃ T1 T2 T3, T = T1 ++ (T2 ++ T3) ∧ CRepL w F (Go.AM.lay cs off new) (l.take off ++ vs ++ l.drop (off + vs.length)) (T1 ++ Tn ++ T3) := by
  obtain ⟨T1, T', hT, h1, h2⟩ := h.split off
  obtain ⟨T2, T3, hT', h3, h4⟩ := h2.split new.length
  refine ⟨T1, T2, T3, by rw [hT, hT'], ?_⟩
  unfold Go.AM.lay
  have h4' : CRepL w F (cs.drop (off + new.length)) (l.drop (off + vs.length)) T3 := by
    rw [← hn.length]; simpa [List.drop_drop] using h4
  exact (h1.append hn).append h4'

theorem killCs_spec (d off m : Nat) (x : AV) : killCs d off m x = x ∨ (refRoot x ≠ none ∧ killCs d off m x = .undef) := by
  cases x with
  | ref s c => cases c with
    | none => exact .inl rfl
    | some k => simp only [killCs]; split <;> simp [refRoot]
  | ptr s c r o => cases c with
    | none => exact .inl rfl
    | some k => simp only [killCs]; split <;> simp [refRoot]
  | _ => exact .inl rfl
theorem killCs_ref {d off m k : Nat} {x : AV} (h : killCs d off m x = .ref d (some k)) : ¬ (off ≤ k ∧ k < off + m) := by
  cases x with
  | ref s c => cases c with
    | none => simp [killCs] at h
    | some k' =>
      simp only [killCs] at h
      split at h
      · cases h
      · rename_i hh; cases h; simpa using hh
  | ptr s c r o => cases c with
    | none => simp [killCs] at h
    | some k' =>
      simp only [killCs] at h
      split at h <;> cases h
  | _ => simp [killCs] at h
theorem killCs_ptr {d off m k r o : Nat} {x : AV} (h : killCs d off m x = .ptr d (some k) r o) : ¬ (off ≤ k ∧ k < off + m) := by
  cases x with
  | ref s c => cases c with
    | none => simp [killCs] at h
    | some k' =>
      simp only [killCs] at h
      split at h <;> cases h
  | ptr s c r' o' => cases c with
    | none => simp [killCs] at h
    | some k' =>
      simp only [killCs] at h
      split at h
      · cases h
      · rename_i hh; cases h; simpa using hh
  | _ => simp [killCs] at h

/-- A store into a box. -/
theorem EnvRel.writeBox (h : EnvRel K F0 B n w0 F S e a w) {s : Nat} {cs new : List AV} {vs : List Value} {Tn : List Nat} {off : Nat} (hs : e s = .box cs) (hle : off + new.length ≤ cs.length)
    (hn : CRepL w F new vs Tn) (hnd : Tn.Nodup) (hTn : ∀ b ∈ Tn, B ≤ b ∧ b < w.heap.size ∧ ¬ F b) (hap : ∀ b ∈ Tn, ∀ t, b ∉ S t)
    (hkill : ∀ t k, (∃ c, refRoot (e t) = some s ∧ (e t = .ref s (some k) ∨ ∃ r o, e t = .ptr s (some k) r o) ∧ c = k) → ¬ (off ≤ k ∧ k < off + new.length)) :
    ∃ b cells ty S', a.tmps.getD s Go.undef = .pointer (some ⟨b, 0, none⟩) ∧ w.heap[b]? = some (.cells cells ty (0, 0)) ∧ off + vs.length ≤ cells.size ∧
      EnvRel K F0 B n w0 F S' (upd e s (.box (Go.AM.lay cs off new))) a (w.setRow b (cells.toList.take off ++ vs ++ cells.toList.drop (off + vs.length)).toArray) := by
  obtain ⟨b, cells, ty, T, h1, h2, h3, h4⟩ := h.box hs
  have hvl := hn.length
  have hcl := h3.length
  have hle' : off + vs.length ≤ cells.toList.length := by omega
  obtain ⟨T1, T2, T3, hT, hlay⟩ := h3.lay hn
  have hbS : b ∈ S s := by rw [h4]; simp
  have hbown := h.own s b hbS
  have hnds := h.nodup s
  rw [h4, hT] at hnds
  have hw' : ∀ k, k ≠ b → (w.setRow b (cells.toList.take off ++ vs ++ cells.toList.drop (off + vs.length)).toArray).heap[k]? = w.heap[k]? := fun k hk => setRow_other w b k _ hk
  have hrow : (w.setRow b (cells.toList.take off ++ vs ++ cells.toList.drop (off + vs.length)).toArray).heap[b]? = some (.cells (cells.toList.take off ++ vs ++ cells.toList.drop (off + vs.length)).toArray ty (0, 0)) :=
    setRow_heap w b cells _ ty _ h2
  have hbT : b ∉ T1 ++ Tn ++ T3 := by
    intro hb
    simp only [List.mem_append] at hb
    rcases hb with (hb | hb) | hb
    · exact (List.nodup_cons.1 hnds).1 (by simp [hb])
    · exact hap b hb s hbS
    · exact (List.nodup_cons.1 hnds).1 (by simp [hb])
  have hsub : ∀ c, c ∈ T1 ∨ c ∈ T3 → c ∈ S s := fun c hc => by
    rw [h4, hT]; rcases hc with hc | hc <;> simp [hc]
  have hFb : ∀ c, F c → c ≠ b := fun c hc he => hbown.2.2 (he ▸ hc)
  refine ⟨b, cells, ty, _, h1, h2, by simpa using hle', h.write (T' := b :: (T1 ++ Tn ++ T3)) hbS hw' (by simp) (below_setRow _ hbown.1) ?_ ?_ ?_ ?_ (by simp [hs]) (by simp [hs]) ?_ ?_⟩
  · rw [h1]
    refine .box _ b _ ty _ hrow ?_
    have := hlay.mono (w' := w.setRow b (cells.toList.take off ++ vs ++ cells.toList.drop (off + vs.length)).toArray) (F' := F) (fun _ h => h) (fun c hc => hw' c (hFb c hc)) fun c hc => hw' c fun he => hbT (he ▸ hc)
    simpa using this
  · refine List.nodup_cons.2 ⟨hbT, ?_⟩
    have hnd1 := (List.nodup_cons.1 hnds).2
    rw [List.nodup_append] at hnd1
    obtain ⟨n1, n23, n4⟩ := hnd1
    rw [List.nodup_append] at n23
    refine List.nodup_append.2 ⟨List.nodup_append.2 ⟨n1, hnd, fun x hx y hy he => hap y hy s (hsub y (.inl (he ▸ hx)))⟩, n23.2.1, ?_⟩
    intro x hx y hy he
    subst he
    rcases List.mem_append.1 hx with hx | hx
    · exact n4 x hx x (by simp [hy]) rfl
    · exact hap x hx s (hsub x (.inr hy))
  · intro c hc
    rcases List.mem_cons.1 hc with rfl | hc
    · exact hbown
    · rcases List.mem_append.1 hc with hc | hc
      · rcases List.mem_append.1 hc with hc | hc
        · exact h.own s c (hsub c (.inl hc))
        · exact hTn c hc
      · exact h.own s c (hsub c (.inr hc))
  · intro c hc t hts
    rcases List.mem_cons.1 hc with rfl | hc
    · exact h.apart s t c (Ne.symm hts) hbS
    · rcases List.mem_append.1 hc with hc | hc
      · rcases List.mem_append.1 hc with hc | hc
        · exact h.apart s t c (Ne.symm hts) (hsub c (.inl hc))
        · exact hap c hc t
      · exact h.apart s t c (Ne.symm hts) (hsub c (.inr hc))
  · -- references
    intro t c ht
    have hrt := h.rep t
    rw [ht] at hrt
    generalize a.tmps.getD t Go.undef = u at hrt
    generalize S t = Tt at hrt
    cases hrt with
    | val h => have := TRep_refRoot h; simp [refRoot] at this
    | ref _ _ _ hr hb' hd hK =>
      cases c with
      | none => exact absurd hs (hb' cs rfl)
      | some k =>
        have hk := hkill t k ⟨k, by rw [ht]; rfl, .inl ht, rfl⟩
        have hk' : k < off ∨ off + new.length ≤ k := by omega
        refine ⟨?_, by simp, ?_⟩
        · simp only [content, upd_same, lay_get hle hk']
          simpa only [content, hs] using hr
        · simp only [hdr, h1]
          rw [cell_of hrow, cell_of h2]
          congr 1
          rw [List.getElem?_toArray, splice_get hle' (by omega)]
          simp
  · intro t c row o ht rows r hc hrw
    cases c with
    | none =>
      simp [content, hs] at hc; subst hc
      cases row with
      | succ i => simp at hrw
      | zero =>
        simp at hrw; subst hrw
        exact ⟨[Go.AM.lay cs off new], Go.AM.lay cs off new, by simp [content, upd_same], rfl, lay_length hle, rfl⟩
    | some k =>
      have hk := hkill t k ⟨k, by rw [ht]; rfl, .inr ⟨row, o, ht⟩, rfl⟩
      have hk' : k < off ∨ off + new.length ≤ k := by omega
      refine ⟨rows, r, ?_, hrw, rfl, ?_⟩
      · simp only [content, upd_same, lay_get hle hk']
        simpa only [content, hs] using hc
      · simp only [hdr, h1]
        rw [cell_of hrow, cell_of h2]
        congr 1
        rw [List.getElem?_toArray, splice_get hle' (by omega)]
        simp

end
end Go.AM
