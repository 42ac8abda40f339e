/- YtdafegdnjedohaaBreak7: rule 3 of a core as the document has it; both are one. No statement of the seat is proved here. -/
import Derived.Test.YtdafegdnjedohaaBreak6
set_option maxRecDepth 100000
namespace Go.Proofs.Ytdafegdnjedohaa
open Go Go.A2
theorem ref_times (l : Sl 8 (W .i64)) (hl : l.l.length ≤ 1000) (p : Nat) : F_ref28_times l (wi p) = some (wi (cnt l.l p)) := by
  have key : ∃ o, L_ref28_times_7 (l, wi p, wi 0, wi 0, ()) = some o ∧ o = (wi (cnt l.l p), ()) := by
    unfold L_ref28_times_7
    refine iter_acc (fun i z => z = (l, wi p, wi (cnt (l.l.take i) p), wi i, ())) l.l.length _ ?_ ?_ rfl (by show _ < 1048576; omega)
    · rintro i z hi rfl
      have hc : cnt (l.l.take (i + 1)) p = cnt (l.l.take i) p + if W.eq (nth l.l i) (wi p) = true then 1 else 0 := by
        unfold cnt; rw [take_nth hi, List.countP_append, List.countP_cons, List.countP_nil, Nat.zero_add]
      have hle : cnt (l.l.take i) p ≤ i := by unfold cnt; refine Nat.le_trans List.countP_le_length ?_; rw [List.length_take]; omega
      simp only [B_ref28_times_7, ev_ite, ev_opt, ev_ret, lt_len l hi, Sl.get_wi l hi, if_true, bind_some', wi_next l hi]
      rw [hc]
      cases W.eq (nth l.l i) (wi p) with
      | true =>
        simp only [if_true]
        rw [add_small (show cnt (l.l.take i) p < 1000 by omega)]
        exact ⟨_, rfl, rfl⟩
      | false => exact ⟨_, rfl, rfl⟩
    · rintro z rfl
      simp only [B_ref28_times_7, ev_ite, ev_ret, lt_end l]
      exact ⟨_, rfl, by rw [List.take_length]⟩
  obtain ⟨o, h1, rfl⟩ := key
  unfold F_ref28_times T_ref28_times
  simp only [ev_opt, show L_ref28_times_7 (l, wi p, W.of .i64 0, W.of .i64 0, ()) = _ from h1, bind_some', ev_ret]
theorem ref_parted (s : TNames) (hring : RingOk s.Free) {nn : Nat} (hn : nn ≤ 96) (h1n : 1 ≤ nn) (fl : Sl 216 TRen) (hfl : fl.l.length ≤ 100) : ∃ b, F_ref28_parted s (wi nn) fl = some b ∧ (b = true ↔ onceP nn (allL s fl.l) ∧ (allL s fl.l).length = nn - 1) := by
  obtain ⟨r1, e1, l1⟩ := ref_list hring
  have hl1 : r1.l.length ≤ 96 := by rw [l1]; exact (ringL_len hring).1
  have hdl : (doneR s).length = 15 := by unfold doneR; simp
  have key1 : ∃ o, L_ref28_parted_7 (wi nn, fl, s, r1, wi (0 + 1), ()) = some o ∧ ∃ a : Sl 8 (W .i64), o = (wi nn, fl, a, ()) ∧ a.l = r1.l ++ doneR s := by
    unfold L_ref28_parted_7
    refine iter_acc (fun i z => ∃ a : Sl 8 (W .i64), z = (wi nn, fl, s, a, wi (i + 1), ()) ∧ a.l = r1.l ++ (doneR s).take i) 15 _ ?_ ?_ ⟨r1, rfl, by simp⟩ (by decide)
    · rintro i z hi ⟨a, rfl, ha⟩
      have hlen : a.l.length ≤ 200 := by rw [ha, List.length_append, List.length_take]; omega
      obtain ⟨r, hr1, hr2⟩ := app_lit (s := a) (x := s.Done.get (i + 1)) (hb := rfl) (by unfold room; omega) (by unfold room; omega)
      have hlt : W.lt (wi (i + 1)) (W.of .i64 16) = true := (lt_small (m := 16) (by omega) (by omega)).trans (by simp; omega)
      simp only [B_ref28_parted_7, ev_ite, ev_opt, ev_ret, hlt, if_true, wi_idx (sm (show i + 1 ≤ 1000 by omega)), show i + 1 < 16 by omega, bind_some', add_small (show i + 1 < 1000 by omega), hr1]
      exact ⟨_, rfl, r, rfl, by rw [hr2, ha, doneR_next s hi, List.append_assoc]⟩
    · rintro z ⟨a, rfl, ha⟩
      exact ⟨_, rfl, a, rfl, by rw [ha, ← hdl, List.take_length]⟩
  obtain ⟨o, e2, a, rfl, la⟩ := key1
  have hal : a.l.length ≤ 200 := by rw [la, List.length_append]; omega
  have key2 : ∃ o, L_ref28_parted_20 (wi nn, fl, a, wi 0, ()) = some o ∧ ∃ z : Sl 8 (W .i64), o = (wi nn, z, ()) ∧ z.l = a.l ++ outsL fl.l := by
    unfold L_ref28_parted_20
    refine iter_acc (fun i w => ∃ z : Sl 8 (W .i64), w = (wi nn, fl, z, wi i, ()) ∧ z.l = a.l ++ outsL (fl.l.take i)) fl.l.length _ ?_ ?_ ⟨a, rfl, by simp [outsL]⟩ (by show _ < 1048576; omega)
    · rintro i w hi ⟨z, rfl, hz⟩
      have hlen : z.l.length ≤ 300 := by rw [hz, List.length_append]; have := outsL_len (fl.l.take i); rw [List.length_take] at this; omega
      obtain ⟨r, hr1, hr2⟩ := app_lit (s := z) (x := (nth fl.l i).Out) (hb := rfl) (by unfold room; omega) (by unfold room; omega)
      have hnx : outsL (fl.l.take (i + 1)) = outsL (fl.l.take i) ++ if W.eq (nth fl.l i).Out (W.of .i64 (-1)) = true then [] else [(nth fl.l i).Out] := by rw [take_nth hi]; exact outsL_next ..
      simp only [B_ref28_parted_20, ev_ite, ev_opt, ev_ret, lt_len fl hi, Sl.get_wi fl hi, if_true, bind_some', wi_next fl hi, hr1, W.ne_eq]
      cases ho : W.eq (nth fl.l i).Out (W.of .i64 (-1)) with
      | true => exact ⟨_, rfl, z, rfl, by rw [hnx, if_pos ho, List.append_nil]; exact hz⟩
      | false => exact ⟨_, rfl, r, rfl, by rw [hnx, if_neg (by rw [ho]; simp), hr2, hz, List.append_assoc]⟩
    · rintro w ⟨z, rfl, hz⟩
      simp only [B_ref28_parted_20, ev_ite, ev_ret, lt_end fl]
      exact ⟨_, rfl, z, rfl, by rw [hz, List.take_length]⟩
  obtain ⟨o, e3, z, rfl, lz⟩ := key2
  have hzL : z.l = allL s fl.l := by rw [lz, la, l1]; rfl
  have hzl : z.l.length ≤ 300 := by rw [lz, List.length_append]; have := outsL_len fl.l; omega
  have key3 : L_ref28_parted_35 (wi nn, z, wi (0 + 1), ()) = some (if (List.range (nn - 1)).all (fun i => W.eq (wi (cnt z.l (i + 1))) (W.of .i64 1)) = true then .inr (wi nn, (), z, ()) else .inl (wi nn, false, z, ())) := by
    unfold L_ref28_parted_35
    refine iter_chk (fun i => (wi nn, z, wi (i + 1), ())) (nn - 1) _ _ _ (fun i hi _ => ?_) (fun _ => ?_) (by show _ < 1048576; omega)
    · simp only [B_ref28_parted_35, ev_ite, ev_opt, ev_ret, lt_small (show i + 1 ≤ 1000 by omega) (show nn ≤ 1000 by omega), show i + 1 < nn by omega, decide_true, if_true, ref_times z (by omega), bind_some', add_small (show i + 1 < 1000 by omega), W.ne_eq]
      cases W.eq (wi (cnt z.l (i + 1))) (W.of .i64 1) <;> rfl
    · simp only [B_ref28_parted_35, ev_ite, ev_ret, lt_small (show nn - 1 + 1 ≤ 1000 by omega) (show nn ≤ 1000 by omega), show ¬ nn - 1 + 1 < nn by omega, decide_false, Bool.false_eq_true, if_false]
  have honce : (List.range (nn - 1)).all (fun i => W.eq (wi (cnt z.l (i + 1))) (W.of .i64 1)) = true ↔ onceP nn (allL s fl.l) := by
    rw [List.all_eq_true, hzL]
    have hle : ∀ p, cnt (allL s fl.l) p ≤ 1000 := fun p => by have : cnt (allL s fl.l) p ≤ _ := List.countP_le_length; rw [← hzL] at this ⊢; omega
    constructor
    · intro h p hp hp'
      have := h (p - 1) (List.mem_range.2 (by omega))
      rw [show p - 1 + 1 = p by omega, W.eq_iff] at this
      exact wi_inj (sm (hle p)) (sm (by omega)) this
    · intro h i hi
      have hi := List.mem_range.1 hi
      rw [h (i + 1) (by omega) (by omega)]
      exact W.eq_self _
  unfold F_ref28_parted T_ref28_parted
  simp only [ev_opt, e1, bind_some', show L_ref28_parted_7 (wi nn, fl, s, r1, W.of .i64 1, ()) = _ from e2, show L_ref28_parted_20 (wi nn, fl, a, W.of .i64 0, ()) = _ from e3, show L_ref28_parted_35 (wi nn, z, W.of .i64 1, ()) = _ from key3, ev_sum]
  rw [← honce]
  cases (List.range (nn - 1)).all (fun i => W.eq (wi (cnt z.l (i + 1))) (W.of .i64 1)) with
  | false => exact ⟨false, rfl, fun h => (by cases h), fun h => (by cases h.1)⟩
  | true =>
    simp only [if_true, Sum.elim_inr, ev_ret, true_and]
    refine ⟨_, rfl, ?_⟩
    obtain ⟨m, rfl⟩ : ∃ m, nn = m + 1 := ⟨nn - 1, by omega⟩
    rw [wi_sub (by unfold room; omega), Sl.len_wi, wi_eq z.h.2 (sm (by omega)), decide_eq_true_eq, hzL]
    rfl
/-- Rule 3, as the document has it. -/
def namesR (s : TNames) (nn : Nat) (l : List TRen) : Prop := 17 ≤ nn ∧ nn ≤ 96 ∧ ratOk s.Map (wi nn) ∧ ratOk s.Done (wi nn) ∧ freeOk s.Free (wi nn) ∧ ((∀ i, i < l.length → stP (fun x => 0 ≤ x.n) s l i) ∧ mAt s l l.length = s.Map) ∧ onceP nn (allL s l) ∧ (allL s l).length = nn - 1
theorem ref_names (s : TNames) {nn : Nat} (hnn : nn ≤ 1000) (fl : Sl 216 TRen) (hfl : fl.l.length ≤ 100) : ∃ b, F_ref28_Right s (wi nn) fl = some b ∧ (b = true ↔ namesR s nn fl.l) := by
  unfold F_ref28_Right T_ref28_Right namesR
  have c1 : W.lt (wi nn) (W.of .i64 17) = decide (nn ≤ 16) := by unfold W.lt; rw [wi_n (sm hnn), show (W.of .i64 17).n = 17 from rfl]; exact decide_eq_decide.2 (by omega)
  have c2 : W.gt (wi nn) (W.of .i64 96) = decide (96 < nn) := by unfold W.gt; rw [wi_n (sm hnn), show (W.of .i64 96).n = 96 from rfl]; exact decide_eq_decide.2 (by omega)
  obtain ⟨b1, e1, g1⟩ := ref_rat s.Map (wi nn)
  obtain ⟨b2, e2, g2⟩ := ref_rat s.Done (wi nn)
  obtain ⟨b3, e3, g3⟩ := ref_free s.Free (wi nn)
  simp only [ev_ite, ev_ret, ev_opt, c1, c2, e1, e2, e3, bind_some', decide_eq_true_eq]
  by_cases h1 : nn ≤ 16
  · rw [if_pos h1]; exact ⟨false, rfl, fun h => (by cases h), fun h => by omega⟩
  by_cases h2 : 96 < nn
  · rw [if_neg h1, if_pos h2]; exact ⟨false, rfl, fun h => (by cases h), fun h => by omega⟩
  rw [if_neg h1, if_neg h2]
  cases b1 with
  | false => exact ⟨false, rfl, fun h => (by cases h), fun h => (by have := g1.2 h.2.2.1; cases this)⟩
  | true =>
    cases b2 with
    | false => exact ⟨false, rfl, fun h => (by cases h), fun h => (by have := g2.2 h.2.2.2.1; cases this)⟩
    | true =>
      cases b3 with
      | false => exact ⟨false, rfl, fun h => (by cases h), fun h => (by have := g3.2 h.2.2.2.2.1; cases this)⟩
      | true =>
        have hfree := g3.1 rfl
        have hring := ringOk hfree.1
        have key : ∃ o, L_ref28_Right_15 (wi nn, fl, s, s.Done, W.of .u64 0, wi 0, ()) = some o ∧ (((∀ i, i < fl.l.length → stP (fun x => 0 ≤ x.n) s fl.l i) ∧ o = .inr (wi nn, fl, s, (), mAt s fl.l fl.l.length, ())) ∨ ((¬ ∀ i, i < fl.l.length → stP (fun x => 0 ≤ x.n) s fl.l i) ∧ ∃ m, o = .inl (wi nn, fl, s, false, m, ()))) := by
          unfold L_ref28_Right_15
          refine iter_check (fun i z => z = (wi nn, fl, s, mAt s fl.l i, lastR fl.l i, wi i, ())) fl.l.length (stP (fun x => 0 ≤ x.n) s fl.l) (fun o => ∃ m, o = Sum.inl (wi nn, fl, s, false, m, ())) (fun o => o = Sum.inr (wi nn, fl, s, (), mAt s fl.l fl.l.length, ())) ?_ ?_ rfl (by show _ < 1048576; omega)
          · rintro i z hi rfl hP
            simp only [B_ref28_Right_15, ev_ite, ev_opt, ev_ret, lt_len fl hi, Sl.get_wi fl hi, if_true, bind_some', wi_next fl hi, ref_writes, W.ne_eq]
            unfold stP
            cases h1 : W.le (nth fl.l i).Seq (lastR fl.l i) with
            | true => exact .inr ⟨fun h => (by cases h.1), _, rfl, _, rfl⟩
            | false =>
              cases h2 : W.ge (nth fl.l i).Seq s.Seq with
              | true => exact .inr ⟨fun h => (by cases h.2.1), _, rfl, _, rfl⟩
              | false =>
                cases hw : wrB (nth fl.l i).Uop with
                | false =>
                  simp only [Bool.not_false, Bool.false_eq_true, if_false, if_true, W.eq_dec]
                  by_cases h3 : (nth fl.l i).Out = W.of .i64 (-1)
                  · by_cases h4 : (nth fl.l i).Old = W.of .i64 (-1)
                    · simp only [h3, h4, decide_true, Bool.not_true, Bool.false_eq_true, if_false]
                      exact .inl ⟨⟨trivial, trivial, trivial, trivial⟩, _, rfl, by simp only [mAt, lastR, hw, Bool.false_eq_true, if_false]⟩
                    · simp only [h3, h4, decide_true, decide_false, Bool.not_true, Bool.not_false, Bool.false_eq_true, if_false, if_true]
                      exact .inr ⟨fun h => h.2.2.2.elim, _, rfl, _, rfl⟩
                  · simp only [h3, decide_false, Bool.not_false, if_true]
                    exact .inr ⟨fun h => h.2.2.1.elim, _, rfl, _, rfl⟩
                | true =>
                  have hd := of_decide_eq_true hw
                  have hx : idx? 16 (nth fl.l i).Uop.Dst = some (nth fl.l i).Uop.Dst.n.toNat := idx?_some (by omega)
                  simp only [Bool.not_true, Bool.false_eq_true, if_false, if_true, W.eq_dec, hx, bind_some']
                  by_cases h3 : (nth fl.l i).Out.n < 0
                  · rw [if_pos (W.lt_n.2 h3)]
                    exact .inr ⟨fun h => by omega, _, rfl, _, rfl⟩
                  · rw [if_neg (fun h => h3 (W.lt_n.1 h))]
                    by_cases h4 : (nth fl.l i).Old = (mAt s fl.l i).get (nth fl.l i).Uop.Dst.n.toNat
                    · simp only [h4, decide_true, Bool.not_true, Bool.false_eq_true, if_false]
                      exact .inl ⟨⟨trivial, trivial, by omega, trivial⟩, _, rfl, by simp only [mAt, lastR, hw, if_true]⟩
                    · simp only [h4, decide_false, Bool.not_false, Bool.false_eq_true, if_false, if_true]
                      exact .inr ⟨fun h => h.2.2.2.elim, _, rfl, _, rfl⟩
          · rintro z rfl hP
            simp only [B_ref28_Right_15, ev_ite, ev_ret, lt_end fl]
            exact ⟨_, rfl, rfl⟩
        obtain ⟨o, e5, h5⟩ := key
        simp only [Bool.not_true, Bool.false_eq_true, if_false, show L_ref28_Right_15 (wi nn, fl, s, s.Done, W.of .u64 0, W.of .i64 0, ()) = _ from e5, bind_some', ev_sum]
        rcases h5 with ⟨h6, rfl⟩ | ⟨h6, m, rfl⟩
        · obtain ⟨b4, e6, g6⟩ := ref_parted s hring (nn := nn) (by omega) (by omega) fl hfl
          simp only [Sum.elim_inr, ev_ite, ev_opt, e6, bind_some', ev_ret]
          by_cases hm : mAt s fl.l fl.l.length = s.Map
          · rw [if_pos (arr16.2 hm)]
            exact ⟨b4, rfl, fun h => ⟨by omega, by omega, g1.1 rfl, g2.1 rfl, hfree, ⟨h6, hm⟩, g6.1 h⟩, fun h => g6.2 h.2.2.2.2.2.2⟩
          · rw [if_neg (fun h => hm (arr16.1 h))]
            exact ⟨false, rfl, fun h => (by cases h), fun h => (hm h.2.2.2.2.2.1.2).elim⟩
        · exact ⟨false, rfl, fun h => (by cases h), fun h => (h6 h.2.2.2.2.2.1.1).elim⟩
theorem stP_mono {g g' : W .i64 → Prop} {s : TNames} {l : List TRen} {i : Nat} (h : stP g s l i) (hg : wrB (nth l i).Uop = true → g (nth l i).Out → g' (nth l i).Out) : stP g' s l i := by
  unfold stP at h ⊢
  refine ⟨h.1, h.2.1, ?_⟩
  have h3 := h.2.2
  by_cases hw : wrB (nth l i).Uop = true
  · rw [if_pos hw] at h3 ⊢
    exact ⟨hg hw h3.1, h3.2⟩
  · rw [if_neg hw] at h3 ⊢
    exact h3
theorem names_same (s : TNames) {nn : Nat} (l : List TRen) (hl : l.length ≤ 100) : namesP s nn l ↔ namesR s nn l := by
  unfold namesP namesR
  have hlen : freeOk s.Free (wi nn) → (allL s l).length ≤ 1000 := fun h => by
    have := (ringL_len (ringOk h.1)).1
    unfold allL
    rw [List.length_append, List.length_append, show (doneR s).length = 15 by unfold doneR; simp]
    have := outsL_len l; omega
  constructor
  · rintro ⟨h1, h2, h3, h4, h5, ⟨h6, h7⟩, h8, h9⟩
    refine ⟨h1, h2, h3, h4, h5, ⟨fun i hi => stP_mono (h6 i hi) fun hw hne => ?_, h7⟩, h8, (parted_iff (hlen h5) (by omega) (by omega) h8).2 h9⟩
    have hm : (nth l i).Out ∈ allL s l := by
      unfold allL outsL
      refine List.mem_append_right _ (List.mem_map.2 ⟨nth l i, List.mem_filter.2 ⟨nth_mem hi, ?_⟩, rfl⟩)
      rw [W.eq_dec]; simpa using hne
    have := of_decide_eq_true (h9 _ hm)
    show 0 ≤ (nth l i).Out.n
    omega
  · rintro ⟨h1, h2, h3, h4, h5, ⟨h6, h7⟩, h8, h9⟩
    refine ⟨h1, h2, h3, h4, h5, ⟨fun i hi => stP_mono (h6 i hi) fun hw hge he => ?_, h7⟩, h8, (parted_iff (hlen h5) (by omega) (by omega) h8).1 h9⟩
    have : 0 ≤ (nth l i).Out.n := hge
    rw [he] at this
    revert this; decide
end Go.Proofs.Ytdafegdnjedohaa
