/- YtdafegdnjedohaaConf: validity of configurations. No statement of the seat is proved here. -/
import Derived.Test.YtdafegdnjedohaaTrees
import Derived.Test.YtdafegdnjedohaaA2F
set_option maxRecDepth 100000
namespace Go.Proofs.Ytdafegdnjedohaa
open Go Go.A2
def badB (b : TBound) : Bool := W.lt b.n_ b.least || W.gt b.n_ b.most
theorem conf1 (b : TBound) : F_core_Conf_1 b = some (badB b) := by
  unfold F_core_Conf_1 T_core_Conf_1 badB
  rw [ev_ite]
  cases W.lt b.n_ b.least <;> simp [ev_ret]
theorem containsBound (s : Sl 24 TBound) (hs : s.l.length < fuel) : F_slices_ContainsFunc_bound_of_core_Conf_1 s = some (s.l.any badB) := by
  have key : ∃ r, L_slices_IndexFunc_bound_of_core_Conf_1_5 ((s, ((), ()), Sl.len s, W.of .i64 0, ())) = some r ∧ ((s.l.any badB = true ∧ ∃ k, r = .inl (wi k, ()) ∧ 0 ≤ k ∧ k < 0 + s.l.length) ∨ (s.l.any badB = false ∧ r = .inr ((), ()))) := by
    unfold L_slices_IndexFunc_bound_of_core_Conf_1_5
    have hroom := s.h.2
    have := iter_list (f := fun a : Sl 24 (TBound) × ((Unit) × (Unit)) × W .i64 × W .i64 × Unit => (B_slices_IndexFunc_bound_of_core_Conf_1_5 a.1 a.2.2.1 a.2.2.2.1).eval) (l := s.l) (n := 0) (N := fuel) (s := ()) (fun n (_ : Unit) => (s, ((), ()), Sl.len s, wi n, ()))
      (fun n x (_ : Unit) => some (if badB x then .inr (.inl (wi n, ())) else .inl ())) (fun _ => some (.inr ((), ()))) (fun i x _ hi => ?_) (fun _ => ?_) hs
    · obtain ⟨r, h1, h2⟩ := runL_any badB (fun n => Sum.inl (wi n, ())) (Sum.inr ((), ()) : (W .i64 × Unit) ⊕ (Unit × Unit)) s.l 0
      exact ⟨r, this.trans h1, h2⟩
    · have hil := (List.getElem?_eq_some_iff.1 hi).1
      simp only [Nat.zero_add]
      simp only [B_slices_IndexFunc_bound_of_core_Conf_1_5, ev_ite, ev_opt, ev_ret, Sl.len_wi]
      rw [wi_lt (by omega) hroom, if_pos (by simpa using hil), wi_get s (by omega), hi]
      simp only [bind_some', conf1, wi_add (show i < room by omega)]
      cases badB x <;> rfl
    · simp only [Nat.zero_add]
      simp only [B_slices_IndexFunc_bound_of_core_Conf_1_5, ev_ite, ev_ret, Sl.len_wi]
      rw [wi_lt hroom hroom, if_neg (by simp)]
      rfl
  obtain ⟨r, h1, h2⟩ := key
  have hroom := s.h.2
  unfold F_slices_ContainsFunc_bound_of_core_Conf_1 T_slices_ContainsFunc_bound_of_core_Conf_1 F_slices_IndexFunc_bound_of_core_Conf_1 T_slices_IndexFunc_bound_of_core_Conf_1
  simp only [ev_opt, h1, bind_some', ev_sum, ev_ret]
  rcases h2 with ⟨h3, k, rfl, _, hk⟩ | ⟨h3, rfl⟩
  · simp only [Sum.elim_inl, bind_some', h3]
    congr 1
    rw [W.ge_n, wi_n (by omega)]
    show (0 : Int) ≤ k
    omega
  · simp only [Sum.elim_inr, bind_some', h3]
    rfl
def inB (n a b : W .i64) : Bool := W.ge n a && W.le n b
theorem in_eq (n a b : W .i64) : F_ref42_in n a b = some (inB n a b) := by
  unfold F_ref42_in T_ref42_in inB
  rw [ev_ite]
  cases W.ge n a <;> simp [ev_ret]
theorem bad_in (n a b : W .i64) : badB ⟨n, a, b⟩ = !inB n a b := by
  unfold badB inB W.lt W.gt W.ge W.le
  by_cases h : n.n < a.n <;> by_cases h' : n.n > b.n
  all_goals simp [h, h']
  all_goals omega
theorem c11 (t : Bool) : L_ref42_Conf_11 (t, ()) = some (if t then .inl (W.of .i64 0, ()) else .inr ((), ())) := by cases t <;> rfl
theorem c15 : L_ref42_Conf_15 () = some (W.of .i64 3, ()) := rfl
theorem c9 (w r g t : Bool) : L_ref42_Conf_9 (w, r, g, t, ()) = some (if w && r && g && t then W.of .i64 0 else W.of .i64 3, ()) := by
  unfold L_ref42_Conf_9 B_ref42_Conf_9
  simp only [ev_opt, ev_ite, ev_ret, c11, c15, bind_some', ev_sum]
  cases w <;> cases r <;> cases g <;> cases t <;> rfl
theorem c7 (c : TConf) (w r g : Bool) : L_ref42_Conf_7 (c, w, r, g, ()) = some (if w && r && g && (inB c.MulLat (W.of .i64 1) (W.of .i64 32) && inB c.DivLat (W.of .i64 1) (W.of .i64 32) && inB c.MemLat (W.of .i64 1) (W.of .i64 32) && inB c.Sets (W.of .i64 1) (W.of .i64 8) && inB c.Ways (W.of .i64 1) (W.of .i64 4)) then W.of .i64 0 else W.of .i64 3, ()) := by
  unfold L_ref42_Conf_7 B_ref42_Conf_7
  simp only [ev_opt, ev_ite, ev_ret, in_eq, bind_some', c9]
  generalize inB c.MulLat (W.of .i64 1) (W.of .i64 32) = a1
  generalize inB c.DivLat (W.of .i64 1) (W.of .i64 32) = a2
  generalize inB c.MemLat (W.of .i64 1) (W.of .i64 32) = a3
  generalize inB c.Sets (W.of .i64 1) (W.of .i64 8) = a4
  cases a1 <;> cases a2 <;> cases a3 <;> cases a4 <;> simp
theorem c5 (c : TConf) (w r : Bool) : L_ref42_Conf_5 (c, w, r, ()) = some (if w && r && (inB c.Hist (W.of .i64 0) (W.of .i64 8) && inB c.Btb (W.of .i64 0) (W.of .i64 16) && inB c.Ras (W.of .i64 0) (W.of .i64 16) && inB c.Dep (W.of .i64 0) (W.of .i64 16) && inB c.Tlb (W.of .i64 0) (W.of .i64 8)) && (inB c.MulLat (W.of .i64 1) (W.of .i64 32) && inB c.DivLat (W.of .i64 1) (W.of .i64 32) && inB c.MemLat (W.of .i64 1) (W.of .i64 32) && inB c.Sets (W.of .i64 1) (W.of .i64 8) && inB c.Ways (W.of .i64 1) (W.of .i64 4)) then W.of .i64 0 else W.of .i64 3, ()) := by
  unfold L_ref42_Conf_5 B_ref42_Conf_5
  simp only [ev_opt, ev_ite, ev_ret, in_eq, bind_some', c7]
  generalize inB c.Hist (W.of .i64 0) (W.of .i64 8) = a1
  generalize inB c.Btb (W.of .i64 0) (W.of .i64 16) = a2
  generalize inB c.Ras (W.of .i64 0) (W.of .i64 16) = a3
  generalize inB c.Dep (W.of .i64 0) (W.of .i64 16) = a4
  cases a1 <;> cases a2 <;> cases a3 <;> cases a4 <;> simp
/-- The rooms of a configuration. -/
def roomsB (c : TConf) : Bool := inB c.Queue (W.of .i64 1) (W.of .i64 16) && inB c.Rob (W.of .i64 2) (W.of .i64 64) && inB c.Iq (W.of .i64 2) (W.of .i64 32) && inB c.Lq (W.of .i64 1) (W.of .i64 16) && inB c.Sq (W.of .i64 1) (W.of .i64 16) && inB c.Sb (W.of .i64 1) (W.of .i64 8) && inB c.Phys (W.of .i64 18) (W.of .i64 96)
def guessB (c : TConf) : Bool := inB c.Hist (W.of .i64 0) (W.of .i64 8) && inB c.Btb (W.of .i64 0) (W.of .i64 16) && inB c.Ras (W.of .i64 0) (W.of .i64 16) && inB c.Dep (W.of .i64 0) (W.of .i64 16) && inB c.Tlb (W.of .i64 0) (W.of .i64 8)
def timesB (c : TConf) : Bool := inB c.MulLat (W.of .i64 1) (W.of .i64 32) && inB c.DivLat (W.of .i64 1) (W.of .i64 32) && inB c.MemLat (W.of .i64 1) (W.of .i64 32) && inB c.Sets (W.of .i64 1) (W.of .i64 8) && inB c.Ways (W.of .i64 1) (W.of .i64 4)
def wideB (c : TConf) : Bool := inB c.Fetch (W.of .i64 1) (W.of .i64 4) && inB c.Wide (W.of .i64 1) (W.of .i64 4) && inB c.Issue (W.of .i64 1) (W.of .i64 4) && inB c.Retire (W.of .i64 1) (W.of .i64 4)
def okConf (c : TConf) : Bool := wideB c && roomsB c && guessB c && timesB c
theorem c3 (c : TConf) (w : Bool) : L_ref42_Conf_3 (c, w, ()) = some (if w && roomsB c && guessB c && timesB c then W.of .i64 0 else W.of .i64 3, ()) := by
  unfold L_ref42_Conf_3 B_ref42_Conf_3
  simp only [ev_opt, ev_ite, ev_ret, in_eq, bind_some', c5]
  unfold roomsB guessB timesB
  generalize inB c.Queue (W.of .i64 1) (W.of .i64 16) = a1
  generalize inB c.Rob (W.of .i64 2) (W.of .i64 64) = a2
  generalize inB c.Iq (W.of .i64 2) (W.of .i64 32) = a3
  generalize inB c.Lq (W.of .i64 1) (W.of .i64 16) = a4
  generalize inB c.Sq (W.of .i64 1) (W.of .i64 16) = a5
  generalize inB c.Sb (W.of .i64 1) (W.of .i64 8) = a6
  cases a1 <;> cases a2 <;> cases a3 <;> cases a4 <;> cases a5 <;> cases a6 <;> simp
theorem ref_conf (c : TConf) : F_ref42_Conf c = some (if okConf c then W.of .i64 0 else W.of .i64 3) := by
  unfold F_ref42_Conf T_ref42_Conf
  simp only [ev_opt, ev_ite, ev_ret, in_eq, bind_some', c3]
  unfold okConf wideB
  generalize inB c.Fetch (W.of .i64 1) (W.of .i64 4) = a1
  generalize inB c.Wide (W.of .i64 1) (W.of .i64 4) = a2
  generalize inB c.Issue (W.of .i64 1) (W.of .i64 4) = a3
  cases a1 <;> cases a2 <;> cases a3 <;> simp
theorem core_conf (c : TConf) : F_core_Conf c = some (if okConf c then W.of .i64 0 else W.of .i64 3) := by
  unfold F_core_Conf T_core_Conf F_core_bounds T_core_bounds
  simp only [ev_opt, ev_ite, ev_ret, bind_some']
  rw [containsBound _ (by show 21 < fuel; decide)]
  simp only [bind_some', Sl.lit, List.any_cons, List.any_nil, bad_in, Bool.or_false]
  have : okConf c = !(!inB c.Fetch (W.of .i64 1) (W.of .i64 4) || (!inB c.Wide (W.of .i64 1) (W.of .i64 4) || (!inB c.Issue (W.of .i64 1) (W.of .i64 4) || (!inB c.Retire (W.of .i64 1) (W.of .i64 4) || (!inB c.Queue (W.of .i64 1) (W.of .i64 16) || (!inB c.Rob (W.of .i64 2) (W.of .i64 64) ||
      (!inB c.Iq (W.of .i64 2) (W.of .i64 32) || (!inB c.Lq (W.of .i64 1) (W.of .i64 16) || (!inB c.Sq (W.of .i64 1) (W.of .i64 16) || (!inB c.Sb (W.of .i64 1) (W.of .i64 8) || (!inB c.Phys (W.of .i64 18) (W.of .i64 96) || (!inB c.Hist (W.of .i64 0) (W.of .i64 8) ||
      (!inB c.Btb (W.of .i64 0) (W.of .i64 16) || (!inB c.Ras (W.of .i64 0) (W.of .i64 16) || (!inB c.Dep (W.of .i64 0) (W.of .i64 16) || (!inB c.Tlb (W.of .i64 0) (W.of .i64 8) || (!inB c.MulLat (W.of .i64 1) (W.of .i64 32) || (!inB c.DivLat (W.of .i64 1) (W.of .i64 32) ||
      (!inB c.MemLat (W.of .i64 1) (W.of .i64 32) || (!inB c.Sets (W.of .i64 1) (W.of .i64 8) || !inB c.Ways (W.of .i64 1) (W.of .i64 4))))))))))))))))))))) := by
    unfold okConf wideB roomsB guessB timesB
    simp only [Bool.not_or, Bool.not_not, Bool.and_assoc]
  rw [this]
  generalize (!inB c.Fetch (W.of .i64 1) (W.of .i64 4) || _) = z
  cases z <;> rfl
end Go.Proofs.Ytdafegdnjedohaa
