/- YtdafegdnjedohaaBreak4: rules 6 to 9 of a core. No statement of the seat is proved here. -/
import Derived.Test.YtdafegdnjedohaaBreak3
import Derived.Test.YtdafegdnjedohaaClean
set_option maxRecDepth 100000
namespace Go.Proofs.Ytdafegdnjedohaa
open Go Go.A2
/-- The numbers of a unit's parts. -/
def seqsL (c : TCore) (u : W .i64) (l : List TRob) : List (W .u64) := (l.filter fun e => W.eq e.Ren.Uop.Unit u).map fun e => e.Ren.Seq
theorem seqsL_len (c : TCore) (u : W .i64) (l : List TRob) : (seqsL c u l).length ≤ l.length := by
  unfold seqsL; rw [List.length_map]; exact List.length_filter_le ..
theorem seqsL_next (c : TCore) (u : W .i64) (l : List TRob) (x : TRob) : seqsL c u (l ++ [x]) = seqsL c u l ++ if W.eq x.Ren.Uop.Unit u = true then [x.Ren.Seq] else [] := by
  unfold seqsL
  rw [List.filter_append, List.map_append]
  cases h : W.eq x.Ren.Uop.Unit u <;> simp [h]
theorem core_seq (c : TCore) (u : W .i64) (h : c.Rob.l.length < 1000) : ∃ r, F_core_seqs c u = some r ∧ r.l = seqsL c u c.Rob.l := by
  have key : ∃ o, L_core_seqs_7 (u, Sl.nil, c.Rob, Sl.len c.Rob, wi 0, ()) = some o ∧ o.1.l = seqsL c u c.Rob.l := by
    unfold L_core_seqs_7
    refine iter_acc (fun i s => ∃ a : Sl 8 (W .u64), s = (u, a, c.Rob, Sl.len c.Rob, wi i, ()) ∧ a.l = seqsL c u (c.Rob.l.take i)) c.Rob.l.length _ ?_ ?_ ⟨Sl.nil, rfl, rfl⟩ (by show _ < 1048576; omega)
    · rintro i s hi ⟨a, rfl, ha⟩
      have hlen : a.l.length ≤ i := by rw [ha]; refine Nat.le_trans (seqsL_len ..) ?_; rw [List.length_take]; omega
      obtain ⟨r, hr1, hr2⟩ := app_lit (s := a) (x := (nth c.Rob.l i).Ren.Seq) (hb := rfl) (by unfold room; omega) (by unfold room; omega)
      simp only [B_core_seqs_7, ev_ite, ev_opt, ev_ret, lt_len c.Rob hi, Sl.get_wi c.Rob hi, if_true, bind_some', hr1, wi_next c.Rob hi]
      have hn := seqsL_next c u (c.Rob.l.take i) (nth c.Rob.l i)
      cases hu : W.eq (nth c.Rob.l i).Ren.Uop.Unit u with
      | true => exact ⟨_, rfl, r, rfl, by rw [hr2, take_nth hi, hn, if_pos hu, ha]⟩
      | false => exact ⟨_, rfl, a, rfl, by rw [take_nth hi, hn, if_neg (by simp [hu]), ha, List.append_nil]⟩
    · rintro s ⟨a, rfl, ha⟩
      simp only [B_core_seqs_7, ev_ite, ev_ret, lt_end c.Rob]
      exact ⟨_, rfl, by rw [← List.take_length (l := c.Rob.l)]; exact ha⟩
  obtain ⟨o, h1, h2⟩ := key
  refine ⟨o.1, ?_, h2⟩
  unfold F_core_seqs T_core_seqs
  simp only [ev_opt, wi_zero, h1, bind_some', ev_ret]
theorem ref_seq (c : TCore) (u : W .i64) (h : c.Rob.l.length < 1000) : ∃ r, F_ref42_seqs c u = some r ∧ r.l = seqsL c u c.Rob.l := by
  have key : ∃ o, L_ref42_seqs_7 (u, c, Sl.lit 8 [] rfl, wi 0, ()) = some o ∧ o.1.l = seqsL c u c.Rob.l := by
    unfold L_ref42_seqs_7
    refine iter_acc (fun i s => ∃ a : Sl 8 (W .u64), s = (u, c, a, wi i, ()) ∧ a.l = seqsL c u (c.Rob.l.take i)) c.Rob.l.length _ ?_ ?_ ⟨Sl.lit 8 [] rfl, rfl, rfl⟩ (by show _ < 1048576; omega)
    · rintro i s hi ⟨a, rfl, ha⟩
      have hlen : a.l.length ≤ i := by rw [ha]; refine Nat.le_trans (seqsL_len ..) ?_; rw [List.length_take]; omega
      obtain ⟨r, hr1, hr2⟩ := app_lit (s := a) (x := (nth c.Rob.l i).Ren.Seq) (hb := rfl) (by unfold room; omega) (by unfold room; omega)
      simp only [B_ref42_seqs_7, ev_ite, ev_opt, ev_ret, lt_len c.Rob hi, Sl.get_wi c.Rob hi, if_true, bind_some', hr1, wi_next c.Rob hi]
      have hn := seqsL_next c u (c.Rob.l.take i) (nth c.Rob.l i)
      cases hu : W.eq (nth c.Rob.l i).Ren.Uop.Unit u with
      | true => exact ⟨_, rfl, r, rfl, by rw [hr2, take_nth hi, hn, if_pos hu, ha]⟩
      | false => exact ⟨_, rfl, a, rfl, by rw [take_nth hi, hn, if_neg (by simp [hu]), ha, List.append_nil]⟩
    · rintro s ⟨a, rfl, ha⟩
      simp only [B_ref42_seqs_7, ev_ite, ev_ret, lt_end c.Rob]
      exact ⟨_, rfl, by rw [← List.take_length (l := c.Rob.l)]; exact ha⟩
  obtain ⟨o, h1, h2⟩ := key
  refine ⟨o.1, ?_, h2⟩
  unfold F_ref42_seqs T_ref42_seqs
  simp only [ev_opt, wi_zero, h1, bind_some', ev_ret]
/-- Two lists are one, place by place. -/
theorem all_same {α β : Type} [Inhabited α] [Inhabited β] {k : IntKind} {l : List α} {m : List (W k)} {f : α → W k} (h : l.length = m.length) : (List.range l.length).all (fun i => W.eq (f (nth l i)) (nth m i)) = true ↔ l.map f = m := by
  rw [List.all_eq_true]
  constructor
  · intro hh
    refine List.ext_getElem (by rw [List.length_map, h]) fun i h1 h2 => ?_
    have h3 : i < l.length := by rw [List.length_map] at h1; exact h1
    have := W.eq_iff.1 (hh i (List.mem_range.2 h3))
    rw [nth_elem h3, nth_elem h2] at this
    rw [List.getElem_map, this]
  · rintro rfl i hi
    have hi := List.mem_range.1 hi
    rw [nth_elem hi, nth_elem (by rw [List.length_map]; exact hi), List.getElem_map, W.eq_self]
theorem len_ne {a b : Nat} {α β : Type} (x : Sl a α) (y : Sl b β) : W.ne (Sl.len x) (Sl.len y) = !decide (x.l.length = y.l.length) := by
  rw [W.ne_eq, Sl.len_wi, Sl.len_wi, wi_eq x.h.2 y.h.2]
theorem eqf_lq (x : Sl 48 TLq) (y : Sl 8 (W .u64)) (h : x.l.length < fuel) : ∃ b, F_slices_EqualFunc_Lq_uint64_of_core_memory_1 x y = some b ∧ (b = true ↔ x.l.map TLq.Seq = y.l) := by
  unfold F_slices_EqualFunc_Lq_uint64_of_core_memory_1 T_slices_EqualFunc_Lq_uint64_of_core_memory_1
  rw [ev_ite, len_ne]
  by_cases hlen : x.l.length = y.l.length
  · have key : L_slices_EqualFunc_Lq_uint64_of_core_memory_1_11 (y, ((), ()), x, Sl.len x, wi 0, ()) = some (if (List.range x.l.length).all (fun i => W.eq (nth x.l i).Seq (nth y.l i)) = true then .inr ((), ()) else .inl (false, ())) := by
      unfold L_slices_EqualFunc_Lq_uint64_of_core_memory_1_11
      refine iter_chk (fun i => (y, ((), ()), x, Sl.len x, wi i, ())) _ _ _ _ (fun i hi _ => ?_) (fun _ => ?_) h
      · simp only [B_slices_EqualFunc_Lq_uint64_of_core_memory_1_11, ev_ite, ev_opt, ev_ret, lt_len x hi, Sl.get_wi x hi, if_true, bind_some', Sl.get_wi y (hlen ▸ hi), wi_next x hi]
        show (Option.bind (some (W.eq (nth x.l i).Seq (nth y.l i))) _) = _
        cases W.eq (nth x.l i).Seq (nth y.l i) <;> rfl
      · simp only [B_slices_EqualFunc_Lq_uint64_of_core_memory_1_11, ev_ite, ev_ret, lt_end x]
        rfl
    have hs := all_same (β := Unit) (f := TLq.Seq) hlen
    simp only [hlen, decide_true, Bool.not_true, Bool.false_eq_true, if_false, ev_opt, wi_zero, key, bind_some', ev_sum]
    rw [← hs, hlen]
    cases (List.range y.l.length).all (fun i => W.eq (nth x.l i).Seq (nth y.l i)) with
    | true => exact ⟨true, rfl, fun _ => rfl, fun _ => rfl⟩
    | false => exact ⟨false, rfl, fun h => (by cases h), fun h => (by cases h)⟩
  · simp only [hlen, decide_false, Bool.not_false, if_true, ev_ret]
    exact ⟨false, rfl, fun h => (by cases h), fun h => (hlen (by rw [← h, List.length_map])).elim⟩
theorem eqf_sq (x : Sl 32 TSq) (y : Sl 8 (W .u64)) (h : x.l.length < fuel) : ∃ b, F_slices_EqualFunc_Sq_uint64_of_core_memory_2 x y = some b ∧ (b = true ↔ x.l.map TSq.Seq = y.l) := by
  unfold F_slices_EqualFunc_Sq_uint64_of_core_memory_2 T_slices_EqualFunc_Sq_uint64_of_core_memory_2
  rw [ev_ite, len_ne]
  by_cases hlen : x.l.length = y.l.length
  · have key : L_slices_EqualFunc_Sq_uint64_of_core_memory_2_11 (y, ((), ()), x, Sl.len x, wi 0, ()) = some (if (List.range x.l.length).all (fun i => W.eq (nth x.l i).Seq (nth y.l i)) = true then .inr ((), ()) else .inl (false, ())) := by
      unfold L_slices_EqualFunc_Sq_uint64_of_core_memory_2_11
      refine iter_chk (fun i => (y, ((), ()), x, Sl.len x, wi i, ())) _ _ _ _ (fun i hi _ => ?_) (fun _ => ?_) h
      · simp only [B_slices_EqualFunc_Sq_uint64_of_core_memory_2_11, ev_ite, ev_opt, ev_ret, lt_len x hi, Sl.get_wi x hi, if_true, bind_some', Sl.get_wi y (hlen ▸ hi), wi_next x hi]
        show (Option.bind (some (W.eq (nth x.l i).Seq (nth y.l i))) _) = _
        cases W.eq (nth x.l i).Seq (nth y.l i) <;> rfl
      · simp only [B_slices_EqualFunc_Sq_uint64_of_core_memory_2_11, ev_ite, ev_ret, lt_end x]
        rfl
    have hs := all_same (β := Unit) (f := TSq.Seq) hlen
    simp only [hlen, decide_true, Bool.not_true, Bool.false_eq_true, if_false, ev_opt, wi_zero, key, bind_some', ev_sum]
    rw [← hs, hlen]
    cases (List.range y.l.length).all (fun i => W.eq (nth x.l i).Seq (nth y.l i)) with
    | true => exact ⟨true, rfl, fun _ => rfl, fun _ => rfl⟩
    | false => exact ⟨false, rfl, fun h => (by cases h), fun h => (by cases h)⟩
  · simp only [hlen, decide_false, Bool.not_false, if_true, ev_ret]
    exact ⟨false, rfl, fun h => (by cases h), fun h => (hlen (by rw [← h, List.length_map])).elim⟩
/-- Rule 6. -/
def memP (c : TCore) : Prop := c.Lq.l.map TLq.Seq = seqsL c (W.of .i64 5) c.Rob.l ∧ c.Sq.l.map TSq.Seq = seqsL c (W.of .i64 6) c.Rob.l
theorem core_mem (c : TCore) (h : c.Rob.l.length < 1000) (h1 : c.Lq.l.length < fuel) (h2 : c.Sq.l.length < fuel) : ∃ b, F_core_memory c = some b ∧ (b = true ↔ memP c) := by
  obtain ⟨r1, e1, l1⟩ := core_seq c (W.of .i64 5) h
  obtain ⟨r2, e2, l2⟩ := core_seq c (W.of .i64 6) h
  obtain ⟨b1, f1, g1⟩ := eqf_lq c.Lq r1 h1
  obtain ⟨b2, f2, g2⟩ := eqf_sq c.Sq r2 h2
  unfold F_core_memory T_core_memory memP
  simp only [ev_opt, ev_ite, ev_ret, e1, e2, f1, f2, bind_some', ← l1, ← l2, ← g1, ← g2]
  cases b1 <;> cases b2 <;> simp
theorem ref_mem (c : TCore) (h : c.Rob.l.length < 1000) (h1 : c.Lq.l.length < fuel) (h2 : c.Sq.l.length < fuel) : ∃ b, F_ref42_memory c = some b ∧ (b = true ↔ memP c) := by
  obtain ⟨r1, e1, l1⟩ := ref_seq c (W.of .i64 5) h
  obtain ⟨r2, e2, l2⟩ := ref_seq c (W.of .i64 6) h
  unfold F_ref42_memory T_ref42_memory memP
  simp only [ev_opt, ev_ite, ev_ret, e1, e2, bind_some', ← l1, ← l2, len_ne]
  by_cases hl1 : c.Lq.l.length = r1.l.length
  · by_cases hl2 : c.Sq.l.length = r2.l.length
    · have key1 : L_ref42_memory_13 (c, r1, r2, wi 0, ()) = some (if (List.range c.Lq.l.length).all (fun i => W.eq (nth c.Lq.l i).Seq (nth r1.l i)) = true then .inr (c, (), r2, ()) else .inl (c, false, r2, ())) := by
        unfold L_ref42_memory_13
        refine iter_chk (fun i => (c, r1, r2, wi i, ())) _ _ _ _ (fun i hi _ => ?_) (fun _ => ?_) h1
        · have hi' : i < r1.l.length := by omega
          simp only [B_ref42_memory_13, ev_ite, ev_opt, ev_ret, lt_len c.Lq hi, lt_len r1 hi', Sl.get_wi c.Lq hi, if_true, bind_some', Sl.get_wi r1 hi', wi_next c.Lq hi, W.ne_eq]
          cases W.eq (nth c.Lq.l i).Seq (nth r1.l i) <;> rfl
        · rw [hl1]; simp only [B_ref42_memory_13, ev_ite, ev_ret, lt_end r1]
          rfl
      have key2 : L_ref42_memory_30 (c, r2, wi 0, ()) = some (if (List.range c.Sq.l.length).all (fun i => W.eq (nth c.Sq.l i).Seq (nth r2.l i)) = true then .inr ((), ()) else .inl (false, ())) := by
        unfold L_ref42_memory_30
        refine iter_chk (fun i => (c, r2, wi i, ())) _ _ _ _ (fun i hi _ => ?_) (fun _ => ?_) h2
        · have hi' : i < r2.l.length := by omega
          simp only [B_ref42_memory_30, ev_ite, ev_opt, ev_ret, lt_len c.Sq hi, lt_len r2 hi', Sl.get_wi c.Sq hi, if_true, bind_some', Sl.get_wi r2 hi', wi_next c.Sq hi, W.ne_eq]
          cases W.eq (nth c.Sq.l i).Seq (nth r2.l i) <;> rfl
        · rw [hl2]; simp only [B_ref42_memory_30, ev_ite, ev_ret, lt_end r2]
          rfl
      have hs1 := all_same (β := Unit) (f := TLq.Seq) hl1
      have hs2 := all_same (β := Unit) (f := TSq.Seq) hl2
      rw [hl1] at hs1 key1
      rw [hl2] at hs2 key2
      simp only [hl1, hl2, decide_true, Bool.not_true, Bool.false_eq_true, if_false, wi_zero, key1, bind_some', ev_sum]
      rw [← hs1, ← hs2]
      cases (List.range r1.l.length).all (fun i => W.eq (nth c.Lq.l i).Seq (nth r1.l i)) with
      | false => exact ⟨false, rfl, fun h => (by cases h), fun h => (by cases h.1)⟩
      | true =>
        simp only [if_true, Sum.elim_inr, ev_opt, key2, bind_some', ev_sum]
        cases (List.range r2.l.length).all (fun i => W.eq (nth c.Sq.l i).Seq (nth r2.l i)) with
        | true => exact ⟨true, rfl, fun _ => by simp, fun _ => rfl⟩
        | false => exact ⟨false, rfl, fun h => (by cases h), fun h => (by cases h.2)⟩
    · have hl2' : ¬ r2.l.length = c.Sq.l.length := fun h => hl2 h.symm
      simp only [hl1, hl2', decide_true, decide_false, Bool.not_true, Bool.not_false, Bool.false_eq_true, if_false, if_true]
      exact ⟨false, rfl, fun h => (by cases h), fun h => (hl2 (by rw [← h.2, List.length_map])).elim⟩
  · have hl1' : ¬ r1.l.length = c.Lq.l.length := fun h => hl1 h.symm
    simp only [hl1', decide_false, Bool.not_false, if_true]
    exact ⟨false, rfl, fun h => (by cases h), fun h => (hl1 (by rw [← h.1, List.length_map])).elim⟩
/-- A register's value. -/
theorem has_of {f : TPhys} {p : W .i64} : ∃ b, F_prf_has f p = some b ∧ (b = true → 0 ≤ p.n ∧ p.n < f.Val.l.length ∧ p.n < f.Ready.l.length) := by
  unfold F_prf_has T_prf_has
  simp only [ev_ite, ev_ret]
  cases h1 : W.ge p (W.of .i64 0) with
  | false => exact ⟨false, rfl, fun h => by cases h⟩
  | true =>
    cases h2 : W.lt p (Sl.len f.Val) with
    | false => exact ⟨false, rfl, fun h => by cases h⟩
    | true => exact ⟨_, rfl, fun h => ⟨W.ge_n.1 h1, W.lt_n.1 h2, W.lt_n.1 h⟩⟩
theorem get_at {b : Nat} {α : Type} [Inhabited α] (s : Sl b α) {p : W .i64} (h0 : 0 ≤ p.n) (h : p.n < s.l.length) : Sl.get? s p = some (nth s.l p.n.toNat) := by
  unfold Sl.get?
  rw [if_pos h0, nth_get (by omega)]
theorem get_some (f : TPhys) (p : W .i64) : ∃ r, F_prf_Get f p = some r := by
  obtain ⟨b, h1, h2⟩ := has_of (f := f) (p := p)
  unfold F_prf_Get T_prf_Get
  simp only [ev_opt, ev_ite, ev_ret, h1, bind_some']
  cases b with
  | false => exact ⟨_, rfl⟩
  | true =>
    obtain ⟨h3, h4, h5⟩ := h2 rfl
    simp only [Bool.not_true, Bool.false_eq_true, if_false, get_at f.Ready h3 h5, get_at f.Val h3 h4, bind_some']
    cases nth f.Ready.l p.n.toNat <;> exact ⟨_, rfl⟩
theorem get_same (f : TPhys) (p : W .i64) : F_ref27_Get f p = F_prf_Get f p := rfl
theorem view_same (f : TPhys) (m : Arr 16 (W .i64)) : F_ref27_View f m = F_prf_View f m := rfl
theorem view_some (f : TPhys) (m : Arr 16 (W .i64)) : ∃ r, F_prf_View f m = some r := by
  have key : ∃ o, L_prf_View_7 (f, m, Arr.rep 16 (W.of .u32 0), Arr.rep 16 (W.of .u32 0), wi 1, ()) = some o ∧ True := by
    unfold L_prf_View_7
    refine iter_acc (fun i s => ∃ z out, s = (f, m, z, out, wi (i + 1), ())) 15 (fun _ => True) ?_ ?_ ⟨_, _, rfl⟩ (by decide)
    · rintro i s hi ⟨z, out, rfl⟩
      obtain ⟨r, hr⟩ := get_some f (Arr.get m (i + 1))
      have hlt : W.lt (wi (i + 1)) (W.of .i64 16) = true := (wi_lt (m := 16) (by unfold room; omega) (by unfold room; omega)).trans (by simp; omega)
      simp only [B_prf_View_7, ev_ite, ev_opt, ev_ret, hlt, if_true, wi_idx (show i + 1 ≤ room by unfold room; omega), show i + 1 < 16 by omega, bind_some', hr, wi_add (show i + 1 < room by unfold room; omega)]
      exact ⟨_, rfl, _, _, rfl⟩
    · rintro s ⟨z, out, rfl⟩
      have hlt : W.lt (wi (15 + 1)) (W.of .i64 16) = false := rfl
      simp only [B_prf_View_7, ev_ite, ev_ret, hlt]
      exact ⟨_, rfl, trivial⟩
  obtain ⟨o, h1, _⟩ := key
  unfold F_prf_View T_prf_View
  simp only [ev_opt, show L_prf_View_7 (f, m, Arr.rep 16 (W.of .u32 0), Arr.rep 16 (W.of .u32 0), W.of .i64 1, ()) = _ from h1, bind_some', ev_ret]
  exact ⟨_, rfl⟩
/-- Rule 8. -/
theorem ref_control (a : TArch) : ∃ b, F_ref42_control a = some b ∧ (b = true ↔ cleanC a ∧ W.eq (a.R.get 0) (W.of .u32 0) = true) := by
  have hlen := a.C.h
  have key : L_ref42_control_5 (a, wi 0, ()) = some (if (List.range 12).all (fun i => !badC i (nth a.C.l i)) = true then .inr (a, (), ()) else .inl (a, false, ())) := by
    unfold L_ref42_control_5
    refine iter_chk (fun i => (a, wi i, ())) 12 _ _ _ (fun i hi _ => ?_) (fun _ => rfl) (by decide)
    have hlt : W.lt (wi i) (W.of .i64 12) = true := (wi_lt (m := 12) (by unfold room; omega) (by unfold room; omega)).trans (by simp; omega)
    simp only [B_ref42_control_5, ev_ite, ev_opt, ev_ret, hlt, if_true, wi_idx (show i ≤ room by unfold room; omega), hi, bind_some', (masks_same hi).2, wi_add (show i < room by unfold room; omega)]
    have hx : a.C.get i = nth a.C.l i := rfl
    rw [hx, ← W.masked]
    show (if badC i (nth a.C.l i) = true then _ else _) = _
    cases badC i (nth a.C.l i) <;> rfl
  have hc : cleanC a ↔ (List.range 12).all (fun i => !badC i (nth a.C.l i)) = true := by
    unfold cleanC
    rw [List.all_eq_true]
    constructor
    · intro h i hi
      have hi := List.mem_range.1 hi
      rw [h i _ (nth_get (by omega))]; rfl
    · intro h i x hx
      have hil := (List.getElem?_eq_some_iff.1 hx).1
      have := h i (List.mem_range.2 (by omega))
      rw [nth_get hil] at hx
      rw [← Option.some.inj hx]
      simpa using this
  unfold F_ref42_control T_ref42_control
  rw [hc]
  simp only [ev_opt, wi_zero, key, bind_some', ev_sum]
  cases (List.range 12).all (fun i => !badC i (nth a.C.l i)) with
  | true => exact ⟨_, rfl, fun h => ⟨rfl, h⟩, fun h => h.2⟩
  | false => exact ⟨false, rfl, fun h => (by cases h), fun h => (by cases h.1)⟩
/-- Rule 9: an entry's value isn't there. -/
noncomputable def badV (c : TCore) (e : TRob) : Bool := e.Done && W.eq e.Cause (W.of .i64 0) && W.ne e.Ren.Out (W.of .i64 (-1)) && (!((F_prf_Get c.Phys e.Ren.Out).getD (W.of .u32 0, false)).2 || W.ne ((F_prf_Get c.Phys e.Ren.Out).getD (W.of .u32 0, false)).1 e.Val)
theorem core_val (c : TCore) (h : c.Rob.l.length < fuel) : F_core_valued c = some (!(c.Rob.l.any (badV c))) := by
  have h1 : ∀ e, F_core_valued_1 e c = some (badV c e) := fun e => by
    obtain ⟨r, hr⟩ := get_some c.Phys e.Ren.Out
    unfold F_core_valued_1 T_core_valued_1 badV
    simp only [ev_opt, ev_ite, ev_ret, hr, bind_some', Option.getD_some]
    cases e.Done <;> cases W.eq e.Cause (W.of .i64 0) <;> cases W.ne e.Ren.Out (W.of .i64 (-1)) <;> cases r.2 <;> rfl
  unfold F_core_valued T_core_valued
  rw [ev_opt, has_Rob_of_core_valued_1 c.Rob c (badV c) (fun e _ => h1 e) h]
  rfl
theorem ref_val (c : TCore) (h : c.Rob.l.length < fuel) : F_ref42_there c = some (!(c.Rob.l.any (badV c))) := by
  have key : L_ref42_there_5 (c, wi 0, ()) = some (if (List.range c.Rob.l.length).all (fun i => !badV c (nth c.Rob.l i)) = true then .inr ((), ()) else .inl (false, ())) := by
    unfold L_ref42_there_5
    refine iter_chk (fun i => (c, wi i, ())) _ _ _ _ (fun i hi _ => ?_) (fun _ => ?_) h
    · obtain ⟨r, hr⟩ := get_some c.Phys (nth c.Rob.l i).Ren.Out
      simp only [B_ref42_there_5, ev_ite, ev_opt, ev_ret, lt_len c.Rob hi, if_true, Sl.get_wi c.Rob hi, bind_some', wi_next c.Rob hi, get_same, hr, badV, Option.getD_some, W.ne_eq]
      cases (nth c.Rob.l i).Done <;> cases W.eq (nth c.Rob.l i).Cause (W.of .i64 0) <;> cases W.eq (nth c.Rob.l i).Ren.Out (W.of .i64 (-1)) <;> cases r.2 <;> cases W.eq r.1 (nth c.Rob.l i).Val <;> rfl
    · simp only [B_ref42_there_5, ev_ite, ev_ret, lt_end c.Rob]
      rfl
  have hw : c.Rob.l.any (badV c) = !((List.range c.Rob.l.length).all (fun i => !badV c (nth c.Rob.l i))) := by
    refine iff_bool ?_
    rw [List.any_eq_true, Bool.not_eq_true', List.all_eq_false]
    constructor
    · rintro ⟨x, hx, h⟩
      obtain ⟨i, hi, rfl⟩ := mem_nth hx
      exact ⟨i, List.mem_range.2 hi, by simp [h]⟩
    · rintro ⟨i, hi, h⟩
      exact ⟨_, nth_mem (List.mem_range.1 hi), by simpa using h⟩
  unfold F_ref42_there T_ref42_there
  rw [hw]
  simp only [ev_opt, wi_zero, key, bind_some', ev_sum]
  cases (List.range c.Rob.l.length).all (fun i => !badV c (nth c.Rob.l i)) <;> rfl
end Go.Proofs.Ytdafegdnjedohaa
