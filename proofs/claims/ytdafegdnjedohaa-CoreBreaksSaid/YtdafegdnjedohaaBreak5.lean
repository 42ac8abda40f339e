/- YtdafegdnjedohaaBreak5: maps of registers and rings of free ones, as the program and the document judge them. No statement of the seat is proved here. -/
import Derived.Test.YtdafegdnjedohaaBreak4
set_option maxRecDepth 100000
namespace Go.Proofs.Ytdafegdnjedohaa
open Go Go.A2
theorem sm {n : Nat} (h : n ≤ 1000) : n ≤ room := by unfold room; omega
theorem lt_small {n m : Nat} (h : n ≤ 1000) (h' : m ≤ 1000) : W.lt (wi n) (wi m) = decide (n < m) := wi_lt (sm h) (sm h')
theorem add_small {n : Nat} (h : n < 1000) : W.add (wi n) (W.of .i64 1) = wi (n + 1) := wi_add (by unfold room; omega)
/-- What is asked of a map at a register. -/
def ratP (m : Arr 16 (W .i64)) (n : W .i64) (r : Nat) : Prop := (1 ≤ (m.get r).n ∧ (m.get r).n < n.n) ∧ ∀ q, 1 ≤ q → q < r → m.get q ≠ m.get r
def ratOk (m : Arr 16 (W .i64)) (n : W .i64) : Prop := m.get 0 = W.of .i64 (-1) ∧ ∀ r, 1 ≤ r → r < 16 → ratP m n r
theorem rat_in {m : Arr 16 (W .i64)} {r : Nat} : (List.range (r - 1)).all (fun k => !W.eq (m.get (k + 1)) (m.get r)) = true ↔ ∀ q, 1 ≤ q → q < r → m.get q ≠ m.get r := by
  rw [List.all_eq_true]
  constructor
  · intro h q h1 h2 he
    have := h (q - 1) (List.mem_range.2 (by omega))
    rw [show q - 1 + 1 = q by omega, he, W.eq_self] at this
    cases this
  · intro h k hk
    have hk := List.mem_range.1 hk
    have := h (k + 1) (by omega) (by omega)
    rw [W.eq_dec]; simpa using this
theorem core_rat (m : Arr 16 (W .i64)) (n : W .i64) : ∃ b, F_rat_Right m n = some b ∧ (b = true ↔ ratOk m n) := by
  have key : ∃ o, L_rat_Right_11 (n, m, wi (0 + 1), ()) = some o ∧ (((∀ i, i < 15 → ratP m n (i + 1)) ∧ o = .inr ((), ())) ∨ ((¬ ∀ i, i < 15 → ratP m n (i + 1)) ∧ o = .inl (false, ()))) := by
    unfold L_rat_Right_11
    refine iter_check (fun i s => s = (n, m, wi (i + 1), ())) 15 (fun i => ratP m n (i + 1)) (fun o => o = Sum.inl (false, ())) (fun o => o = Sum.inr ((), ())) ?_ ?_ rfl (by decide)
    · rintro i s hi rfl hP
      have inner : L_rat_Right_20 (n, m, wi (i + 1), wi (0 + 1), ()) = some (if (List.range i).all (fun k => !W.eq (m.get (k + 1)) (m.get (i + 1))) = true then .inr (n, m, (), wi (i + 1), ()) else .inl (n, m, false, wi (i + 1), ())) := by
        unfold L_rat_Right_20
        refine iter_chk (fun k => (n, m, wi (i + 1), wi (k + 1), ())) i _ _ _ (fun k hk _ => ?_) (fun _ => ?_) (by show i < 1048576; omega)
        · simp only [B_rat_Right_20, ev_ite, ev_opt, ev_ret, lt_small (show k + 1 ≤ 1000 by omega) (show i + 1 ≤ 1000 by omega), show k + 1 < i + 1 by omega, decide_true, if_true, wi_idx (sm (show k + 1 ≤ 1000 by omega)), wi_idx (sm (show i + 1 ≤ 1000 by omega)), show k + 1 < 16 by omega, show i + 1 < 16 by omega, bind_some', add_small (show k + 1 < 1000 by omega)]
          cases W.eq (m.get (k + 1)) (m.get (i + 1)) <;> rfl
        · simp only [B_rat_Right_20, ev_ite, ev_ret, lt_small (show i + 1 ≤ 1000 by omega) (show i + 1 ≤ 1000 by omega), Nat.lt_irrefl, decide_false, Bool.false_eq_true, if_false]
      have hin : (List.range i).all (fun k => !W.eq (m.get (k + 1)) (m.get (i + 1))) = true ↔ ∀ q, 1 ≤ q → q < i + 1 → m.get q ≠ m.get (i + 1) := rat_in (r := i + 1)
      have hlt : W.lt (wi (i + 1)) (W.of .i64 16) = true := (lt_small (m := 16) (by omega) (by omega)).trans (by simp; omega)
      simp only [B_rat_Right_11, ev_ite, ev_opt, ev_ret, hlt, if_true, show L_rat_Right_20 (n, m, wi (i + 1), W.of .i64 1, ()) = _ from inner, bind_some', ev_sum]
      unfold ratP
      cases ha : (List.range i).all (fun k => !W.eq (m.get (k + 1)) (m.get (i + 1))) with
      | false => exact .inr ⟨fun h => (by have := hin.2 h.2; rw [ha] at this; cases this), _, rfl, rfl⟩
      | true =>
        simp only [if_true, Sum.elim_inr, ev_ite, ev_opt, ev_ret, wi_idx (sm (show i + 1 ≤ 1000 by omega)), show i + 1 < 16 by omega, bind_some', add_small (show i + 1 < 1000 by omega)]
        cases h1 : W.lt (m.get (i + 1)) (W.of .i64 1) with
        | true =>
          have := W.lt_n.1 h1
          rw [show (W.of .i64 1).n = 1 from rfl] at this
          exact .inr ⟨fun h => by omega, _, rfl, rfl⟩
        | false =>
          have h1' : ¬ (m.get (i + 1)).n < 1 := fun h => by have := W.lt_n (a := m.get (i + 1)) (b := W.of .i64 1).2 h; rw [h1] at this; cases this
          cases h2 : W.ge (m.get (i + 1)) n with
          | true =>
            have := W.ge_n.1 h2
            exact .inr ⟨fun h => by omega, _, rfl, rfl⟩
          | false =>
            have h2' : ¬ (m.get (i + 1)).n ≥ n.n := fun h => by have := W.ge_n.2 h; rw [h2] at this; cases this
            exact .inl ⟨⟨by omega, hin.1 ha⟩, _, rfl, rfl⟩
    · rintro s rfl hP
      exact ⟨_, rfl, rfl⟩
  obtain ⟨o, h1, h2⟩ := key
  have hall : (∀ i, i < 15 → ratP m n (i + 1)) ↔ ∀ r, 1 ≤ r → r < 16 → ratP m n r := ⟨fun h r hr hr' => by have := h (r - 1) (by omega); rwa [show r - 1 + 1 = r by omega] at this, fun h i hi => h (i + 1) (by omega) (by omega)⟩
  unfold F_rat_Right T_rat_Right ratOk
  rw [← hall]
  simp only [ev_ite, ev_ret, ev_opt, show L_rat_Right_11 (n, m, W.of .i64 1, ()) = _ from h1, bind_some', ev_sum, W.ne_eq, W.eq_dec]
  by_cases h0 : m.get 0 = W.of .i64 (-1)
  · simp only [h0, decide_true, Bool.not_true, Bool.false_eq_true, if_false, true_and]
    rcases h2 with ⟨h3, rfl⟩ | ⟨h3, rfl⟩
    · exact ⟨true, rfl, fun _ => h3, fun _ => rfl⟩
    · exact ⟨false, rfl, fun h => (by cases h), fun h => (h3 h).elim⟩
  · simp only [h0, decide_false, Bool.not_false, if_true, false_and, iff_false]
    exact ⟨false, rfl, by simp⟩
theorem ref_rat (m : Arr 16 (W .i64)) (n : W .i64) : ∃ b, F_ref26_Right m n = some b ∧ (b = true ↔ ratOk m n) := by
  have key : ∃ o, L_ref26_Right_11 (n, m, wi (0 + 1), ()) = some o ∧ (((∀ i, i < 15 → ratP m n (i + 1)) ∧ o = .inr ((), ())) ∨ ((¬ ∀ i, i < 15 → ratP m n (i + 1)) ∧ o = .inl (false, ()))) := by
    unfold L_ref26_Right_11
    refine iter_check (fun i s => s = (n, m, wi (i + 1), ())) 15 (fun i => ratP m n (i + 1)) (fun o => o = Sum.inl (false, ())) (fun o => o = Sum.inr ((), ())) ?_ ?_ rfl (by decide)
    · rintro i s hi rfl hP
      have inner : L_ref26_Right_26 (n, m, wi (i + 1), wi (0 + 1), ()) = some (if (List.range i).all (fun k => !W.eq (m.get (k + 1)) (m.get (i + 1))) = true then .inr (n, m, (), wi (i + 1), ()) else .inl (n, m, false, wi (i + 1), ())) := by
        unfold L_ref26_Right_26
        refine iter_chk (fun k => (n, m, wi (i + 1), wi (k + 1), ())) i _ _ _ (fun k hk _ => ?_) (fun _ => ?_) (by show i < 1048576; omega)
        · simp only [B_ref26_Right_26, ev_ite, ev_opt, ev_ret, lt_small (show k + 1 ≤ 1000 by omega) (show i + 1 ≤ 1000 by omega), show k + 1 < i + 1 by omega, decide_true, if_true, wi_idx (sm (show k + 1 ≤ 1000 by omega)), wi_idx (sm (show i + 1 ≤ 1000 by omega)), show k + 1 < 16 by omega, show i + 1 < 16 by omega, bind_some', add_small (show k + 1 < 1000 by omega)]
          cases W.eq (m.get (k + 1)) (m.get (i + 1)) <;> rfl
        · simp only [B_ref26_Right_26, ev_ite, ev_ret, lt_small (show i + 1 ≤ 1000 by omega) (show i + 1 ≤ 1000 by omega), Nat.lt_irrefl, decide_false, Bool.false_eq_true, if_false]
      have hin : (List.range i).all (fun k => !W.eq (m.get (k + 1)) (m.get (i + 1))) = true ↔ ∀ q, 1 ≤ q → q < i + 1 → m.get q ≠ m.get (i + 1) := rat_in (r := i + 1)
      have hlt : W.lt (wi (i + 1)) (W.of .i64 16) = true := (lt_small (m := 16) (by omega) (by omega)).trans (by simp; omega)
      simp only [B_ref26_Right_11, ev_ite, ev_opt, ev_ret, hlt, if_true, wi_idx (sm (show i + 1 ≤ 1000 by omega)), show i + 1 < 16 by omega, show L_ref26_Right_26 (n, m, wi (i + 1), W.of .i64 1, ()) = _ from inner, bind_some', ev_sum]
      unfold ratP
      cases h1 : W.lt (m.get (i + 1)) (W.of .i64 1) with
      | true =>
        have := W.lt_n.1 h1
        rw [show (W.of .i64 1).n = 1 from rfl] at this
        exact .inr ⟨fun h => by omega, _, rfl, rfl⟩
      | false =>
        have h1' : ¬ (m.get (i + 1)).n < 1 := fun h => by have := W.lt_n (a := m.get (i + 1)) (b := W.of .i64 1).2 h; rw [h1] at this; cases this
        cases h2 : W.ge (m.get (i + 1)) n with
        | true =>
          have := W.ge_n.1 h2
          exact .inr ⟨fun h => by omega, _, rfl, rfl⟩
        | false =>
          have h2' : ¬ (m.get (i + 1)).n ≥ n.n := fun h => by have := W.ge_n.2 h; rw [h2] at this; cases this
          cases ha : (List.range i).all (fun k => !W.eq (m.get (k + 1)) (m.get (i + 1))) with
          | false => exact .inr ⟨fun h => (by have := hin.2 h.2; rw [ha] at this; cases this), _, rfl, rfl⟩
          | true =>
            simp only [Bool.false_eq_true, if_false, if_true, Sum.elim_inr, ev_ret, add_small (show i + 1 < 1000 by omega)]
            exact .inl ⟨⟨by omega, hin.1 ha⟩, _, rfl, rfl⟩
    · rintro s rfl hP
      exact ⟨_, rfl, rfl⟩
  obtain ⟨o, h1, h2⟩ := key
  have hall : (∀ i, i < 15 → ratP m n (i + 1)) ↔ ∀ r, 1 ≤ r → r < 16 → ratP m n r := ⟨fun h r hr hr' => by have := h (r - 1) (by omega); rwa [show r - 1 + 1 = r by omega] at this, fun h i hi => h (i + 1) (by omega) (by omega)⟩
  unfold F_ref26_Right T_ref26_Right ratOk
  rw [← hall]
  simp only [ev_ite, ev_ret, ev_opt, show L_ref26_Right_11 (n, m, W.of .i64 1, ()) = _ from h1, bind_some', ev_sum, W.ne_eq, W.eq_dec]
  by_cases h0 : m.get 0 = W.of .i64 (-1)
  · simp only [h0, decide_true, Bool.not_true, Bool.false_eq_true, if_false, true_and]
    rcases h2 with ⟨h3, rfl⟩ | ⟨h3, rfl⟩
    · exact ⟨true, rfl, fun _ => h3, fun _ => rfl⟩
    · exact ⟨false, rfl, fun h => (by cases h), fun h => (h3 h).elim⟩
  · simp only [h0, decide_false, Bool.not_false, if_true, false_and, iff_false]
    exact ⟨false, rfl, by simp⟩
/-- Is it a ring? -/
def ringB (f : TFree) : Bool := decide (f.Ring.l.length ≤ 96 ∧ 0 ≤ f.Head.n ∧ (f.Head.n < f.Ring.l.length ∨ f.Head.n = 0) ∧ 0 ≤ f.N.n ∧ f.N.n ≤ f.Ring.l.length)
theorem len_n' {b : Nat} {α : Type} (s : Sl b α) : (Sl.len s).n = s.l.length := id (Sl.len_n s)
theorem n_0 : (W.of .i64 0).n = 0 := id rfl
theorem n_96 : (W.of .i64 96).n = 96 := id rfl
theorem core_ring (f : TFree) : F_freel_ring_sound f = some (ringB f) := by
  unfold F_freel_ring_sound T_freel_ring_sound ringB
  simp only [ev_ite, ev_ret, W.le_n, W.ge_n, W.lt_n, W.eq_n, len_n', n_0, n_96]
  repeat' split
  all_goals first | (congr 1; apply Eq.symm; rw [decide_eq_false_iff_not]; omega) | (congr 1; refine iff_bool ?_; rw [decide_eq_true_eq, W.le_n, len_n']; omega)
theorem ref_ring (f : TFree) : F_ref25_Is f = some (ringB f) := by
  unfold F_ref25_Is T_ref25_Is ringB
  simp only [ev_ite, ev_ret, W.le_n, W.ge_n, W.lt_n, W.gt_n, W.eq_n, len_n', n_0, n_96]
  repeat' split
  all_goals first | (congr 1; apply Eq.symm; rw [decide_eq_false_iff_not]; omega) | (congr 1; apply Eq.symm; rw [decide_eq_true_eq]; omega) | (congr 1; refine iff_bool ?_; rw [decide_eq_true_eq, W.eq_n, n_0]; omega)
/-- The registers of a ring. -/
def ringL (f : TFree) : List (W .i64) := (List.range f.N.n.toNat).map fun k => nth f.Ring.l ((f.Head.n.toNat + k) % f.Ring.l.length)
theorem ringL_nth {f : TFree} {i : Nat} (h : i < (ringL f).length) : nth (ringL f) i = nth f.Ring.l ((f.Head.n.toNat + i) % f.Ring.l.length) := by
  have hi : i < (List.range f.N.n.toNat).length := by unfold ringL at h; rwa [List.length_map] at h
  have : nth (ringL f) i = nth f.Ring.l ((f.Head.n.toNat + nth (List.range f.N.n.toNat) i) % f.Ring.l.length) := nth_map hi
  rw [this, show nth (List.range f.N.n.toNat) i = i by rw [nth_elem hi, List.getElem_range]]
structure RingOk (f : TFree) : Prop where
  len : f.Ring.l.length ≤ 96
  h0 : 0 ≤ f.Head.n
  h1 : f.Head.n < f.Ring.l.length ∨ f.Head.n = 0
  n0 : 0 ≤ f.N.n
  n1 : f.N.n ≤ f.Ring.l.length
theorem ringOk {f : TFree} (h : ringB f = true) : RingOk f := by
  have := of_decide_eq_true h
  exact ⟨this.1, this.2.1, this.2.2.1, this.2.2.2.1, this.2.2.2.2⟩
theorem ringL_len {f : TFree} (h : RingOk f) : (ringL f).length ≤ 96 ∧ (ringL f).length = f.N.n.toNat := by
  have := h.len; have := h.n1
  unfold ringL; rw [List.length_map, List.length_range]; omega
theorem rem_small {a n : Nat} (hn : 0 < n) (h : a ≤ 1000) (h' : n ≤ 1000) : W.rem? (wi a) (wi n) = some (wi (a % n)) := by
  unfold W.rem?
  rw [if_neg (by rw [wi_n (sm h')]; omega)]
  congr 1
  refine W.ext ?_
  rw [W.rem_n, wi_n (sm h), wi_n (sm h'), wi_n (sm (Nat.le_trans (Nat.mod_le _ _) h)), ← Int.ofNat_tmod, wrap_i64]
  have := Nat.mod_lt a hn
  omega
theorem add_wi {a b : Nat} (h : a ≤ 1000) (h' : b ≤ 1000) : W.add (wi a) (wi b) = wi (a + b) := by
  refine W.ext ?_
  rw [W.add_n, wi_n (sm h), wi_n (sm h'), W.of_n]
  simp
theorem of_small {a : W .i64} (h : 0 ≤ a.n) : a = wi a.n.toNat := by
  refine W.ext ?_
  have := a.r_i64
  rw [W.of_n, wrap_i64]; omega
theorem core_place {f : TFree} (h : RingOk f) {k : Nat} (hk : k < f.N.n.toNat) : F_freel_ring_at f (wi k) = some (wi ((f.Head.n.toNat + k) % f.Ring.l.length)) := by
  obtain ⟨h1, h2, h3, h4, h5⟩ := h
  have hlen : 0 < f.Ring.l.length := by omega
  unfold F_freel_ring_at T_freel_ring_at
  have hm := Nat.mod_lt (f.Head.n.toNat + k) hlen
  rw [ev_opt, of_small h2, Sl.len_wi]
  rw [show (wi f.Head.n.toNat).n.toNat = f.Head.n.toNat by rw [wi_n (sm (by omega))]; rfl]
  rw [add_wi (by omega) (by omega), rem_small hlen (by omega) (by omega), bind_some', ev_opt, add_wi (by omega) (by omega), rem_small hlen (by omega) (by omega), bind_some', ev_ret]
  rw [Nat.add_mod_right, Nat.mod_mod]
theorem lt_wi_of {a : W .i64} {i : Nat} (hi : i ≤ 1000) : W.lt (wi i) a = decide ((i : Int) < a.n) := by unfold W.lt; rw [wi_n (sm hi)]
theorem core_list {f : TFree} (h : RingOk f) : ∃ r, F_freel_List f = some r ∧ r.l = ringL f := by
  obtain ⟨hl1, hl2⟩ := ringL_len h
  have key : ∃ o, L_freel_List_15 (f, ((f, ()), ()), Sl.nil, f.N, wi 0, ()) = some o ∧ o.1.l = ringL f := by
    unfold L_freel_List_15
    refine iter_acc (fun i s => ∃ a : Sl 8 (W .i64), s = (f, ((f, ()), ()), a, f.N, wi i, ()) ∧ a.l = (ringL f).take i) (ringL f).length _ ?_ ?_ ⟨Sl.nil, rfl, rfl⟩ (by show _ < 1048576; omega)
    · rintro i s hi ⟨a, rfl, ha⟩
      have hlen : a.l.length = i := by rw [ha, List.length_take]; omega
      have hm : (f.Head.n.toNat + i) % f.Ring.l.length < f.Ring.l.length := Nat.mod_lt _ (by have := h.n1; omega)
      obtain ⟨r, hr1, hr2⟩ := app_lit (s := a) (x := nth f.Ring.l ((f.Head.n.toNat + i) % f.Ring.l.length)) (hb := rfl) (by unfold room; omega) (by unfold room; omega)
      have hlt : W.lt (wi i) f.N = true := by rw [lt_wi_of (by omega)]; have := h.n0; simp; omega
      simp only [B_freel_List_15, ev_ite, ev_opt, ev_ret, hlt, if_true, core_place h (show i < f.N.n.toNat by omega), bind_some', Sl.get_wi f.Ring hm, hr1, add_small (show i < 1000 by omega)]
      exact ⟨_, rfl, r, rfl, by rw [hr2, ha, take_nth hi, ringL_nth hi]⟩
    · rintro s ⟨a, rfl, ha⟩
      have hlt : W.lt (wi (ringL f).length) f.N = false := by rw [lt_wi_of (by omega)]; have := h.n0; simp; omega
      simp only [B_freel_List_15, ev_ite, ev_ret, hlt]
      exact ⟨_, rfl, by rw [← List.take_length (l := ringL f)]; exact ha⟩
  obtain ⟨o, h1, h2⟩ := key
  unfold F_freel_List T_freel_List
  have hs : ringB f = true := decide_eq_true ⟨h.len, h.h0, h.h1, h.n0, h.n1⟩
  simp only [ev_opt, core_ring, hs, bind_some', ev_ite, Bool.not_true, Bool.false_eq_true, if_false, show L_freel_List_15 (f, ((f, ()), ()), Sl.nil, f.N, W.of .i64 0, ()) = _ from h1, ev_ret]
  exact ⟨_, rfl, h2⟩
theorem ref_list {f : TFree} (h : RingOk f) : ∃ r, F_ref25_List f = some r ∧ r.l = ringL f := by
  obtain ⟨hl1, hl2⟩ := ringL_len h
  have key : ∃ o, L_ref25_List_13 (f, Sl.lit 8 [] rfl, wi 0, ()) = some o ∧ o.1.l = ringL f := by
    unfold L_ref25_List_13
    refine iter_acc (fun i s => ∃ a : Sl 8 (W .i64), s = (f, a, wi i, ()) ∧ a.l = (ringL f).take i) (ringL f).length _ ?_ ?_ ⟨Sl.lit 8 [] rfl, rfl, rfl⟩ (by show _ < 1048576; omega)
    · rintro i s hi ⟨a, rfl, ha⟩
      have hlen : a.l.length = i := by rw [ha, List.length_take]; omega
      have hpos : 0 < f.Ring.l.length := by have := h.n1; omega
      have hm : (f.Head.n.toNat + i) % f.Ring.l.length < f.Ring.l.length := Nat.mod_lt _ hpos
      obtain ⟨r, hr1, hr2⟩ := app_lit (s := a) (x := nth f.Ring.l ((f.Head.n.toNat + i) % f.Ring.l.length)) (hb := rfl) (by unfold room; omega) (by unfold room; omega)
      have hlt : W.lt (wi i) f.N = true := by rw [lt_wi_of (by omega)]; have := h.n0; simp; omega
      have hrem : W.rem? (W.add f.Head (wi i)) (Sl.len f.Ring) = some (wi ((f.Head.n.toNat + i) % f.Ring.l.length)) := by
        have := h.h1; have := h.len
        rw [Sl.len_wi, of_small h.h0, add_wi (by omega) (by omega), rem_small hpos (by omega) (by omega), ← of_small h.h0]
      simp only [B_ref25_List_13, ev_ite, ev_opt, ev_ret, hlt, if_true, hrem, bind_some', Sl.get_wi f.Ring hm, hr1, add_small (show i < 1000 by omega)]
      exact ⟨_, rfl, r, rfl, by rw [hr2, ha, take_nth hi, ringL_nth hi]⟩
    · rintro s ⟨a, rfl, ha⟩
      have hlt : W.lt (wi (ringL f).length) f.N = false := by rw [lt_wi_of (by omega)]; have := h.n0; simp; omega
      simp only [B_ref25_List_13, ev_ite, ev_ret, hlt]
      exact ⟨_, rfl, by rw [← List.take_length (l := ringL f)]; exact ha⟩
  obtain ⟨o, h1, h2⟩ := key
  unfold F_ref25_List T_ref25_List
  have hs : ringB f = true := decide_eq_true ⟨h.len, h.h0, h.h1, h.n0, h.n1⟩
  simp only [ev_opt, ref_ring, hs, bind_some', ev_ite, Bool.not_true, Bool.false_eq_true, if_false, show L_ref25_List_13 (f, Sl.lit 8 [] rfl, W.of .i64 0, ()) = _ from h1, ev_ret]
  exact ⟨_, rfl, h2⟩
/-- What is asked of a free register. -/
def freeP (l : List (W .i64)) (n : W .i64) (i : Nat) : Prop := (0 ≤ (nth l i).n ∧ (nth l i).n < n.n) ∧ ∀ k, k < i → nth l k ≠ nth l i
def freeOk (f : TFree) (n : W .i64) : Prop := ringB f = true ∧ Sl.len f.Ring = n ∧ ∀ i, i < (ringL f).length → freeP (ringL f) n i
theorem core_free (f : TFree) (n : W .i64) : ∃ b, F_freel_Right f n = some b ∧ (b = true ↔ freeOk f n) := by
  unfold F_freel_Right T_freel_Right freeOk
  simp only [ev_opt, core_ring, bind_some', ev_ite, ev_ret]
  cases hr : ringB f with
  | false => exact ⟨false, rfl, by simp⟩
  | true =>
    have hR := ringOk hr
    obtain ⟨r, e1, e2⟩ := core_list hR
    obtain ⟨hl1, hl2⟩ := ringL_len hR
    have hr1 := congrArg List.length e2
    simp only [Bool.not_true, Bool.false_eq_true, if_false, W.ne_eq, W.eq_dec, true_and]
    by_cases hn : Sl.len f.Ring = n
    · have hn96 : n.n ≤ 96 := by rw [← hn, Sl.len_n]; have := hR.len; omega
      simp only [hn, decide_true, Bool.not_true, Bool.false_eq_true, if_false, ev_opt, e1, bind_some', true_and]
      have key : ∃ o, L_freel_Right_13 (n, Arr.rep 96 false, r, Sl.len r, wi 0, ()) = some o ∧ (((∀ i, i < r.l.length → freeP r.l n i) ∧ o = .inr ((), ())) ∨ ((¬ ∀ i, i < r.l.length → freeP r.l n i) ∧ o = .inl (false, ()))) := by
        unfold L_freel_Right_13
        refine iter_check (fun i s => ∃ seen : Arr 96 Bool, s = (n, seen, r, Sl.len r, wi i, ()) ∧ ∀ p, p < 96 → (seen.get p = true ↔ ∃ k, k < i ∧ nth r.l k = wi p)) r.l.length (freeP r.l n) (fun o => o = Sum.inl (false, ())) (fun o => o = Sum.inr ((), ())) ?_ ?_ ⟨_, rfl, fun p hp => by rw [Arr.get_rep hp]; exact ⟨fun h => (by cases h), fun ⟨k, hk, _⟩ => by omega⟩⟩ (by show _ < 1048576; omega)
        · rintro i s hi ⟨seen, rfl, hs⟩ hP
          simp only [B_freel_Right_13, ev_ite, ev_opt, ev_ret, lt_len r hi, Sl.get_wi r hi, if_true, bind_some', wi_next r hi]
          unfold freeP
          cases h1 : W.lt (nth r.l i) (W.of .i64 0) with
          | true =>
            have := W.lt_n.1 h1
            rw [show (W.of .i64 0).n = 0 from rfl] at this
            exact .inr ⟨fun h => by omega, _, rfl, rfl⟩
          | false =>
            have h1' : ¬ (nth r.l i).n < 0 := fun h => by have := W.lt_n (a := nth r.l i) (b := W.of .i64 0).2 h; rw [h1] at this; cases this
            cases h2 : W.ge (nth r.l i) n with
            | true =>
              have := W.ge_n.1 h2
              exact .inr ⟨fun h => by omega, _, rfl, rfl⟩
            | false =>
              have h2' : ¬ (nth r.l i).n ≥ n.n := fun h => by have := W.ge_n.2 h; rw [h2] at this; cases this
              have hx : idx? 96 (nth r.l i) = some (nth r.l i).n.toNat := idx?_some (by omega)
              have hw : nth r.l i = wi (nth r.l i).n.toNat := of_small (by omega)
              have hlt : (nth r.l i).n.toNat < 96 := by omega
              have hs' := hs _ hlt
              rw [← hw] at hs'
              simp only [Bool.false_eq_true, if_false, hx, bind_some']
              cases h3 : seen.get (nth r.l i).n.toNat with
              | true =>
                obtain ⟨k, hk, he⟩ := hs'.1 h3
                exact .inr ⟨fun h => h.2 k hk he, _, rfl, rfl⟩
              | false =>
                refine .inl ⟨⟨by omega, fun k hk he => ?_⟩, _, rfl, _, rfl, fun p hp => ?_⟩
                · have := hs'.2 ⟨k, hk, he⟩
                  rw [h3] at this; cases this
                · rw [Arr.get_set hlt]
                  by_cases hpe : (nth r.l i).n.toNat = p
                  · rw [if_pos hpe]
                    exact ⟨fun _ => ⟨i, by omega, by rw [← hpe]; exact hw⟩, fun _ => rfl⟩
                  · rw [if_neg hpe, hs p hp]
                    constructor
                    · rintro ⟨k, hk, he⟩; exact ⟨k, by omega, he⟩
                    · rintro ⟨k, hk, he⟩
                      refine ⟨k, ?_, he⟩
                      by_cases hki : k = i
                      · subst hki
                        rw [he, wi_n (sm (by omega))] at hpe
                        exact absurd rfl hpe
                      · omega
        · rintro s ⟨seen, rfl, hs⟩ hP
          simp only [B_freel_Right_13, ev_ite, ev_ret, lt_end r]
          exact ⟨_, rfl, rfl⟩
      obtain ⟨o, h1, h2⟩ := key
      rw [e2] at h2
      simp only [show L_freel_Right_13 (n, Arr.rep 96 false, r, Sl.len r, W.of .i64 0, ()) = _ from h1, bind_some', ev_sum]
      rcases h2 with ⟨h3, rfl⟩ | ⟨h3, rfl⟩
      · exact ⟨true, rfl, fun _ => h3, fun _ => rfl⟩
      · exact ⟨false, rfl, fun h => (by cases h), fun h => (h3 h).elim⟩
    · simp only [hn, decide_false, Bool.not_false, if_true, false_and, iff_false]
      exact ⟨false, rfl, by simp⟩
theorem ref_free (f : TFree) (n : W .i64) : ∃ b, F_ref25_Right f n = some b ∧ (b = true ↔ freeOk f n) := by
  unfold F_ref25_Right T_ref25_Right freeOk
  simp only [ev_opt, ref_ring, bind_some', ev_ite, ev_ret]
  cases hr : ringB f with
  | false => exact ⟨false, rfl, by simp⟩
  | true =>
    have hR := ringOk hr
    obtain ⟨r, e1, e2⟩ := ref_list hR
    obtain ⟨hl1, hl2⟩ := ringL_len hR
    have hr1 := congrArg List.length e2
    simp only [Bool.not_true, Bool.false_eq_true, if_false, W.ne_eq, W.eq_dec, true_and]
    by_cases hn : Sl.len f.Ring = n
    · simp only [hn, decide_true, Bool.not_true, Bool.false_eq_true, if_false, ev_opt, e1, bind_some', true_and]
      have key : ∃ o, L_ref25_Right_13 (n, r, wi 0, ()) = some o ∧ (((∀ i, i < r.l.length → freeP r.l n i) ∧ o = .inr ((), ())) ∨ ((¬ ∀ i, i < r.l.length → freeP r.l n i) ∧ o = .inl (false, ()))) := by
        unfold L_ref25_Right_13
        refine iter_check (fun i s => s = (n, r, wi i, ())) r.l.length (freeP r.l n) (fun o => o = Sum.inl (false, ())) (fun o => o = Sum.inr ((), ())) ?_ ?_ rfl (by show _ < 1048576; omega)
        · rintro i s hi rfl hP
          have inner : L_ref25_Right_28 (n, r, wi i, wi 0, ()) = some (if (List.range i).all (fun k => !W.eq (nth r.l k) (nth r.l i)) = true then .inr (n, (), r, wi i, ()) else .inl (n, false, r, wi i, ())) := by
            unfold L_ref25_Right_28
            refine iter_chk (fun k => (n, r, wi i, wi k, ())) i _ _ _ (fun k hk _ => ?_) (fun _ => ?_) (by show i < 1048576; omega)
            · simp only [B_ref25_Right_28, ev_ite, ev_opt, ev_ret, lt_small (show k ≤ 1000 by omega) (show i ≤ 1000 by omega), hk, decide_true, if_true, wi_idx (sm (show k ≤ 1000 by omega)), wi_idx (sm (show i ≤ 1000 by omega)), show k < r.l.length by omega, hi, bind_some', add_small (show k < 1000 by omega), getD_nth (show k < r.l.length by omega), getD_nth hi]
              cases W.eq (nth r.l k) (nth r.l i) <;> rfl
            · simp only [B_ref25_Right_28, ev_ite, ev_ret, lt_small (show i ≤ 1000 by omega) (show i ≤ 1000 by omega), Nat.lt_irrefl, decide_false, Bool.false_eq_true, if_false]
          have hin : (List.range i).all (fun k => !W.eq (nth r.l k) (nth r.l i)) = true ↔ ∀ k, k < i → nth r.l k ≠ nth r.l i := by
            rw [List.all_eq_true]
            constructor
            · intro h k hk he
              have := h k (List.mem_range.2 hk)
              rw [he, W.eq_self] at this; cases this
            · intro h k hk
              have := h k (List.mem_range.1 hk)
              rw [W.eq_dec]; simpa using this
          simp only [B_ref25_Right_13, ev_ite, ev_opt, ev_ret, lt_len r hi, if_true, wi_idx (sm (show i ≤ 1000 by omega)), hi, bind_some', getD_nth hi, show L_ref25_Right_28 (n, r, wi i, W.of .i64 0, ()) = _ from inner, ev_sum]
          unfold freeP
          cases h1 : W.lt (nth r.l i) (W.of .i64 0) with
          | true =>
            have := W.lt_n.1 h1
            rw [show (W.of .i64 0).n = 0 from rfl] at this
            exact .inr ⟨fun h => by omega, _, rfl, rfl⟩
          | false =>
            have h1' : ¬ (nth r.l i).n < 0 := fun h => by have := W.lt_n (a := nth r.l i) (b := W.of .i64 0).2 h; rw [h1] at this; cases this
            cases h2 : W.ge (nth r.l i) n with
            | true =>
              have := W.ge_n.1 h2
              exact .inr ⟨fun h => by omega, _, rfl, rfl⟩
            | false =>
              have h2' : ¬ (nth r.l i).n ≥ n.n := fun h => by have := W.ge_n.2 h; rw [h2] at this; cases this
              cases ha : (List.range i).all (fun k => !W.eq (nth r.l k) (nth r.l i)) with
              | false => exact .inr ⟨fun h => (by have := hin.2 h.2; rw [ha] at this; cases this), _, rfl, rfl⟩
              | true =>
                simp only [Bool.false_eq_true, if_false, if_true, Sum.elim_inr, ev_ret, add_small (show i < 1000 by omega)]
                exact .inl ⟨⟨by omega, hin.1 ha⟩, _, rfl, rfl⟩
        · rintro s rfl hP
          simp only [B_ref25_Right_13, ev_ite, ev_ret, lt_end r]
          exact ⟨_, rfl, rfl⟩
      obtain ⟨o, h1, h2⟩ := key
      rw [e2] at h2
      simp only [show L_ref25_Right_13 (n, r, W.of .i64 0, ()) = _ from h1, bind_some', ev_sum]
      rcases h2 with ⟨h3, rfl⟩ | ⟨h3, rfl⟩
      · exact ⟨true, rfl, fun _ => h3, fun _ => rfl⟩
      · exact ⟨false, rfl, fun h => (by cases h), fun h => (h3 h).elim⟩
    · simp only [hn, decide_false, Bool.not_false, if_true, false_and, iff_false]
      exact ⟨false, rfl, by simp⟩
end Go.Proofs.Ytdafegdnjedohaa
