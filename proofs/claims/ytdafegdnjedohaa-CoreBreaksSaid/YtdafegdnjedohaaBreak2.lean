/- YtdafegdnjedohaaBreak2: rules 4 and 5 of a core. No statement of the seat is proved here. -/
import Derived.Test.YtdafegdnjedohaaBreak1
import Derived.Test.YtdafegdnjedohaaA2F
set_option maxRecDepth 100000
namespace Go.Proofs.Ytdafegdnjedohaa
open Go Go.A2
/-- Has an earlier one this one's number? -/
def seqB (l : List TRen) (i : Nat) : Bool := (l.take i).any fun r => W.eq r.Seq (nth l i).Seq
def flyP (c : TCore) (l : List TRen) (i : Nat) : Prop := seqB l i = false ∧ waitsB c (nth l i) = true
theorem core_fly (c : TCore) (l : Sl 216 TRen) (hr : c.Rob.l.length < fuel) (hl : l.l.length < fuel) : ∃ b, F_core_flying c l = some b ∧ (b = true ↔ ∀ i, i < l.l.length → flyP c l.l i) := by
  have key : ∃ o, L_core_flying_7 (c, [], l, Sl.len l, wi 0, ()) = some o ∧ (((∀ i, i < l.l.length → flyP c l.l i) ∧ o = .inr ((), ())) ∨ ((¬ ∀ i, i < l.l.length → flyP c l.l i) ∧ o = .inl (false, ()))) := by
    unfold L_core_flying_7
    refine iter_check (fun i s => ∃ m : List (W .u64 × W .i64), s = (c, m, l, Sl.len l, wi i, ()) ∧ ∀ q, Option.getD (mGet W.eq m q) (W.of .i64 0) = if (l.l.take i).any (fun r => W.eq r.Seq q) = true then W.of .i64 1 else W.of .i64 0) l.l.length (flyP c l.l) (fun o => o = Sum.inl (false, ())) (fun o => o = Sum.inr ((), ())) ?_ ?_ ⟨[], rfl, fun q => rfl⟩ hl
    · rintro i s hi ⟨m, rfl, hm⟩ hP
      have hg := fun y q => mGet_put (eq := W.eq) (fun a b => W.eq_iff) m (nth l.l i).Seq y q
      have e1 : Option.getD (mGet W.eq m (nth l.l i).Seq) (W.of .i64 0) = if seqB l.l i = true then W.of .i64 1 else W.of .i64 0 := hm _
      simp only [B_core_flying_7, ev_ite, ev_opt, ev_ret, lt_len l hi, Sl.get_wi l hi, if_true, bind_some', core_waits c _ hr, wi_next l hi, hg, Option.getD_some, e1]
      unfold flyP
      cases hs : seqB l.l i with
      | true => exact .inr ⟨fun h => (by cases h.1), _, rfl, rfl⟩
      | false =>
        rw [if_neg (by decide)]
        cases hw : waitsB c (nth l.l i) with
        | false => exact .inr ⟨fun h => (by cases h.2), _, rfl, rfl⟩
        | true =>
          refine .inl ⟨⟨rfl, rfl⟩, _, rfl, _, rfl, fun q => ?_⟩
          rw [hg, take_nth hi, List.any_append]
          simp only [List.any_cons, List.any_nil, Bool.or_false]
          by_cases hq : q = (nth l.l i).Seq
          · subst hq
            rw [if_pos rfl, W.eq_self, Bool.or_true, if_pos rfl]
            rfl
          · have : W.eq (nth l.l i).Seq q = false := by rw [W.eq_dec]; simpa using fun h => hq h.symm
            rw [if_neg hq, hm, this, Bool.or_false]
    · rintro s ⟨m, rfl, hm⟩ hP
      simp only [B_core_flying_7, ev_ite, ev_ret, lt_end l]
      exact ⟨_, rfl, rfl⟩
  obtain ⟨o, h1, h2⟩ := key
  unfold F_core_flying T_core_flying
  rcases h2 with ⟨h3, rfl⟩ | ⟨h3, rfl⟩
  · exact ⟨true, by simp only [ev_opt, wi_zero, h1, bind_some', ev_sum, Sum.elim_inr, ev_ret], fun _ => h3, fun _ => rfl⟩
  · exact ⟨false, by simp only [ev_opt, wi_zero, h1, bind_some', ev_sum, Sum.elim_inl, ev_ret], fun h => (by cases h), fun h => (h3 h).elim⟩
/-- Copies of the parts. -/
theorem core_que (c : TCore) (h1 : c.Iq.l.length < 1000) (h2 : c.Units.l.length < 1000) : ∃ a b, F_core_queued c = some (a, b) ∧ a.l = c.Iq.l.map TIq.Ren ∧ b.l = c.Units.l.map TFlight.Ren := by
  have key1 : ∃ o, L_core_queued_5 (c, Sl.nil, Sl.nil, c.Iq, Sl.len c.Iq, wi 0, ()) = some o ∧ ∃ a : Sl 216 TRen, o = (c, a, Sl.nil, ()) ∧ a.l = c.Iq.l.map TIq.Ren := by
    unfold L_core_queued_5
    refine iter_acc (fun i s => ∃ a : Sl 216 TRen, s = (c, a, Sl.nil, c.Iq, Sl.len c.Iq, wi i, ()) ∧ a.l = (c.Iq.l.take i).map TIq.Ren) c.Iq.l.length _ ?_ ?_ ⟨Sl.nil, rfl, rfl⟩ (by show _ < 1048576; omega)
    · rintro i s hi ⟨a, rfl, ha⟩
      have hlen : a.l.length = i := by rw [ha, List.length_map, List.length_take]; omega
      obtain ⟨r, hr1, hr2⟩ := app_lit (s := a) (x := (nth c.Iq.l i).Ren) (hb := rfl) (by unfold room; omega) (by unfold room; omega)
      simp only [B_core_queued_5, ev_ite, ev_opt, ev_ret, lt_len c.Iq hi, Sl.get_wi c.Iq hi, if_true, bind_some', hr1, wi_next c.Iq hi]
      exact ⟨_, rfl, r, rfl, by rw [hr2, ha, take_nth hi, List.map_append]; rfl⟩
    · rintro s ⟨a, rfl, ha⟩
      simp only [B_core_queued_5, ev_ite, ev_ret, lt_end c.Iq]
      exact ⟨_, rfl, a, rfl, by rw [ha, List.take_length]⟩
  obtain ⟨o, h3, a, rfl, ha⟩ := key1
  have key2 : ∃ o, L_core_queued_20 (a, Sl.nil, c.Units, Sl.len c.Units, wi 0, ()) = some o ∧ ∃ b : Sl 216 TRen, o = (a, b, ()) ∧ b.l = c.Units.l.map TFlight.Ren := by
    unfold L_core_queued_20
    refine iter_acc (fun i s => ∃ b : Sl 216 TRen, s = (a, b, c.Units, Sl.len c.Units, wi i, ()) ∧ b.l = (c.Units.l.take i).map TFlight.Ren) c.Units.l.length _ ?_ ?_ ⟨Sl.nil, rfl, rfl⟩ (by show _ < 1048576; omega)
    · rintro i s hi ⟨b, rfl, hb⟩
      have hlen : b.l.length = i := by rw [hb, List.length_map, List.length_take]; omega
      obtain ⟨r, hr1, hr2⟩ := app_lit (s := b) (x := (nth c.Units.l i).Ren) (hb := rfl) (by unfold room; omega) (by unfold room; omega)
      simp only [B_core_queued_20, ev_ite, ev_opt, ev_ret, lt_len c.Units hi, Sl.get_wi c.Units hi, if_true, bind_some', hr1, wi_next c.Units hi]
      exact ⟨_, rfl, r, rfl, by rw [hr2, hb, take_nth hi, List.map_append]; rfl⟩
    · rintro s ⟨b, rfl, hb⟩
      simp only [B_core_queued_20, ev_ite, ev_ret, lt_end c.Units]
      exact ⟨_, rfl, b, rfl, by rw [hb, List.take_length]⟩
  obtain ⟨o, h4, b, rfl, hb⟩ := key2
  refine ⟨a, b, ?_, ha, hb⟩
  unfold F_core_queued T_core_queued
  simp only [ev_opt, wi_zero, h3, bind_some', h4, ev_ret]
/-- No number in both. -/
def bothB (a b : List TRen) : Bool := a.any fun r => b.any fun s => W.eq r.Seq s.Seq
theorem core_apart (a b : Sl 216 TRen) (ha : a.l.length < fuel) (hb : b.l.length < fuel) : F_core_apart a b = some (!bothB a.l b.l) := by
  have h1 : ∀ r, F_core_apart_1 r b = some (b.l.any fun s => W.eq r.Seq s.Seq) := fun r => by
    unfold F_core_apart_1 T_core_apart_1
    rw [ev_opt, has_Ren_of_core_apart_1_1 b r (fun s => W.eq r.Seq s.Seq) (fun _ _ => rfl) hb]
    rfl
  unfold F_core_apart T_core_apart
  rw [ev_opt, has_Ren_of_core_apart_1 a b (fun r => b.l.any fun s => W.eq r.Seq s.Seq) (fun r _ => h1 r) ha]
  rfl
theorem W.eq_comm {k : IntKind} (a b : W k) : W.eq a b = W.eq b a := by
  rw [W.eq_dec, W.eq_dec]; exact decide_eq_decide.2 ⟨Eq.symm, Eq.symm⟩
theorem seqB_iff {l : List TRen} {i : Nat} (hi : i < l.length) : seqB l i = false ↔ ∀ k, k < i → W.eq (nth l k).Seq (nth l i).Seq = false := by
  unfold seqB
  rw [List.any_eq_false]
  constructor
  · intro h k hk
    have hm : nth l k ∈ l.take i := by
      rw [nth_elem (by omega)]; exact List.mem_take_iff_getElem.2 ⟨k, by omega, rfl⟩
    simpa using h _ hm
  · intro h x hx
    obtain ⟨k, hk, rfl⟩ := List.mem_take_iff_getElem.1 hx
    have := h k (by omega)
    rw [nth_elem (by omega)] at this
    simp [this]
/-- The document's rule 4. -/
theorem ref_que (c : TCore) (hr : c.Rob.l.length < fuel) (hi : c.Iq.l.length < fuel) : ∃ b, F_ref42_queued c = some b ∧ (b = true ↔ ∀ i, i < (c.Iq.l.map TIq.Ren).length → flyP c (c.Iq.l.map TIq.Ren) i) := by
  have key : ∃ o, L_ref42_queued_5 (c, wi 0, ()) = some o ∧ (((∀ i, i < c.Iq.l.length → flyP c (c.Iq.l.map TIq.Ren) i) ∧ o = .inr ((), ())) ∨ ((¬ ∀ i, i < c.Iq.l.length → flyP c (c.Iq.l.map TIq.Ren) i) ∧ o = .inl (false, ()))) := by
    unfold L_ref42_queued_5
    refine iter_check (fun i s => s = (c, wi i, ())) c.Iq.l.length (flyP c (c.Iq.l.map TIq.Ren)) (fun o => o = Sum.inl (false, ())) (fun o => o = Sum.inr ((), ())) ?_ ?_ rfl hi
    · rintro i s hil rfl hP
      have hm : nth (c.Iq.l.map TIq.Ren) i = (nth c.Iq.l i).Ren := nth_map hil
      have inner : L_ref42_queued_20 (c, wi i, wi 0, ()) = some (if (List.range i).all (fun k => !W.eq (nth c.Iq.l k).Ren.Seq (nth c.Iq.l i).Ren.Seq) = true then .inr (c, (), wi i, ()) else .inl (c, false, wi i, ())) := by
        unfold L_ref42_queued_20
        have hroom := c.Iq.h.2
        refine iter_chk (fun k => (c, wi i, wi k, ())) i _ _ _ (fun k hk _ => ?_) (fun _ => ?_) (by omega)
        · have hkl : k < c.Iq.l.length := by omega
          simp only [B_ref42_queued_20, ev_ite, ev_opt, ev_ret, Sl.get_wi c.Iq hkl, Sl.get_wi c.Iq hil, bind_some', wi_next c.Iq hkl]
          rw [wi_lt (by omega) (by omega), if_pos (by simpa using hk)]
          cases W.eq (nth c.Iq.l k).Ren.Seq (nth c.Iq.l i).Ren.Seq <;> rfl
        · simp only [B_ref42_queued_20, ev_ite, ev_ret]
          rw [wi_lt (by omega) (by omega), if_neg (by simp)]
      simp only [B_ref42_queued_5, ev_ite, ev_opt, ev_ret, lt_len c.Iq hil, Sl.get_wi c.Iq hil, if_true, bind_some', ref_waits c _ hr, wi_zero, inner]
      have hseq : seqB (c.Iq.l.map TIq.Ren) i = false ↔ (List.range i).all (fun k => !W.eq (nth c.Iq.l k).Ren.Seq (nth c.Iq.l i).Ren.Seq) = true := by
        rw [seqB_iff (by simpa using hil), List.all_eq_true]
        constructor
        · intro h k hk
          have := h k (List.mem_range.1 hk)
          rw [nth_map (by have := List.mem_range.1 hk; omega), hm] at this
          simp [this]
        · intro h k hk
          have := h k (List.mem_range.2 hk)
          rw [nth_map (by omega), hm]
          simpa using this
      unfold flyP
      rw [hm]
      cases hw : waitsB c (nth c.Iq.l i).Ren with
      | false => exact .inr ⟨fun h => (by cases h.2), _, rfl, rfl⟩
      | true =>
        cases ha : (List.range i).all (fun k => !W.eq (nth c.Iq.l k).Ren.Seq (nth c.Iq.l i).Ren.Seq) with
        | false => exact .inr ⟨fun h => (by have := hseq.1 h.1; rw [ha] at this; cases this), _, rfl, rfl⟩
        | true =>
          refine .inl ⟨⟨hseq.2 ha, rfl⟩, _, rfl, ?_⟩
          rw [← wi_next c.Iq hil]
    · rintro s rfl hP
      simp only [B_ref42_queued_5, ev_ite, ev_ret, lt_end c.Iq]
      exact ⟨_, rfl, rfl⟩
  obtain ⟨o, h1, h2⟩ := key
  unfold F_ref42_queued T_ref42_queued
  rw [List.length_map]
  rcases h2 with ⟨h3, rfl⟩ | ⟨h3, rfl⟩
  · exact ⟨true, by simp only [ev_opt, wi_zero, h1, bind_some', ev_sum, Sum.elim_inr, ev_ret], fun _ => h3, fun _ => rfl⟩
  · exact ⟨false, by simp only [ev_opt, wi_zero, h1, bind_some', ev_sum, Sum.elim_inl, ev_ret], fun h => (by cases h), fun h => (h3 h).elim⟩
end Go.Proofs.Ytdafegdnjedohaa
