/- YtdafegdnjedohaaFresh: what a new core is. No statement of the seat is proved here. -/
import Derived.Test.YtdafegdnjedohaaConf
import Derived.Test.YtdafegdnjedohaaRight
set_option maxRecDepth 100000
namespace Go.Proofs.Ytdafegdnjedohaa
open Go Go.A2
theorem inB_wi {n : W .i64} {lo hi : Nat} (h : inB n (wi lo) (wi hi) = true) (h1 : lo ≤ 1000 := by omega) (h2 : hi ≤ 1000 := by omega) : ∃ k, n = wi k ∧ lo ≤ k ∧ k ≤ hi := by
  unfold inB at h
  rw [Bool.and_eq_true, W.ge_n, W.le_n, wi_n (by unfold room; omega), wi_n (by unfold room; omega)] at h
  exact wi_of h.1 h.2
def lenIs {b : Nat} {α : Type} (x : Option (Sl b α)) (n : Nat) : Bool :=
  match x with
  | some a => Nat.beq a.l.length n
  | none => false
theorem lenIs_some {b : Nat} {α : Type} {x : Option (Sl b α)} {n : Nat} (h : lenIs x n = true) : ∃ a, x = some a ∧ a.l.length = n := by
  cases x with
  | none => cases h
  | some a => exact ⟨a, rfl, Nat.eq_of_beq_eq_true h⟩
noncomputable def eHist (k : Nat) : Bool := lenIs (F_pht_New (wi k)) (2 ^ k)
theorem eHist_all : (List.range 9).all eHist = true := by kernel_rfl
noncomputable def eBtb (k : Nat) : Bool := lenIs (F_btb_New (wi k)) k
theorem eBtb_all : (List.range 17).all eBtb = true := by kernel_rfl
noncomputable def eRas (k : Nat) : Bool := lenIs (F_ras_New (wi k)) k
theorem eRas_all : (List.range 17).all eRas = true := by kernel_rfl
noncomputable def eDep (k : Nat) : Bool := lenIs (F_dep_New (wi k)) k
theorem eDep_all : (List.range 17).all eDep = true := by kernel_rfl
noncomputable def eTlb (k : Nat) : Bool := lenIs (F_tlb_New (wi k)) k
theorem eTlb_all : (List.range 9).all eTlb = true := by kernel_rfl
def doneL : List (W .i64) := [W.of .i64 (-1), wi 1, wi 2, wi 3, wi 4, wi 5, wi 6, wi 7, wi 8, wi 9, wi 10, wi 11, wi 12, wi 13, wi 14, wi 15]
noncomputable def eNames (k : Nat) : Bool := Nat.ble k 17 || Nat.ble 97 k || match F_rename_New (wi k) with
  | some a => decide (a.Done.l = doneL) && (Nat.beq a.Free.Ring.l.length k && match F_rename_Right a (wi k) Sl.nil with | some b => b | none => false)
  | none => false
noncomputable def eNamesC (c : Nat) : Bool := (List.range 8).all fun i => eNames (8 * c + i)
theorem eNames_2 : eNamesC 2 = true := by kernel_rfl
theorem eNames_3 : eNamesC 3 = true := by kernel_rfl
theorem eNames_4 : eNamesC 4 = true := by kernel_rfl
theorem eNames_5 : eNamesC 5 = true := by kernel_rfl
theorem eNames_6 : eNamesC 6 = true := by kernel_rfl
theorem eNames_7 : eNamesC 7 = true := by kernel_rfl
theorem eNames_8 : eNamesC 8 = true := by kernel_rfl
theorem eNames_9 : eNamesC 9 = true := by kernel_rfl
theorem eNames_10 : eNamesC 10 = true := by kernel_rfl
theorem eNames_11 : eNamesC 11 = true := by kernel_rfl
theorem eNames_12 : eNamesC 12 = true := by kernel_rfl
theorem eNames_all {k : Nat} (h : 18 ≤ k) (h' : k < 97) : eNames k = true := by
  have key : ∀ c, eNamesC c = true → k / 8 = c → eNames k = true := fun c hc hk => by
    have := all_lt (p := fun i => eNames (8 * c + i)) hc (Nat.mod_lt k (by omega : 0 < 8))
    have hk' : 8 * c + k % 8 = k := by subst hk; exact Nat.div_add_mod k 8
    rwa [hk'] at this
  have hr : k / 8 = 2 ∨ k / 8 = 3 ∨ k / 8 = 4 ∨ k / 8 = 5 ∨ k / 8 = 6 ∨ k / 8 = 7 ∨ k / 8 = 8 ∨ k / 8 = 9 ∨ k / 8 = 10 ∨ k / 8 = 11 ∨ k / 8 = 12 := by omega
  rcases hr with h | h | h | h | h | h | h | h | h | h | h
  · exact key 2 eNames_2 h
  · exact key 3 eNames_3 h
  · exact key 4 eNames_4 h
  · exact key 5 eNames_5 h
  · exact key 6 eNames_6 h
  · exact key 7 eNames_7 h
  · exact key 8 eNames_8 h
  · exact key 9 eNames_9 h
  · exact key 10 eNames_10 h
  · exact key 11 eNames_11 h
  · exact key 12 eNames_12 h
noncomputable def ePhys (k : Nat) : Bool := match F_prf_New (wi k) with
  | some a => decide (a.Ready.l = List.replicate k true) && Nat.beq a.Val.l.length k
  | none => false
theorem ePhys_all : (List.range 97).all ePhys = true := by kernel_rfl
theorem names_ok {k : Nat} (h : 18 ≤ k) (h' : k < 97) : ∃ a, F_rename_New (wi k) = some a ∧ a.Done.l = doneL ∧ a.Free.Ring.l.length = k ∧ F_rename_Right a (wi k) Sl.nil = some true := by
  have := eNames_all h h'
  unfold eNames at this
  rw [Bool.or_eq_true, Bool.or_eq_true] at this
  rcases this with (h17 | h97) | this
  · have := Nat.le_of_ble_eq_true h17; omega
  · have := Nat.le_of_ble_eq_true h97; omega
  · split at this
    · rename_i a h1
      simp only [Bool.and_eq_true, decide_eq_true_eq] at this
      obtain ⟨q1, q2, q3⟩ := this
      split at q3
      · rename_i b hb
        exact ⟨a, h1, q1, Nat.eq_of_beq_eq_true q2, by rw [hb, q3]⟩
      · cases q3
    · cases this
theorem phys_ok {k : Nat} (h : k < 97) : ∃ a, F_prf_New (wi k) = some a ∧ a.Ready.l = List.replicate k true ∧ a.Val.l.length = k := by
  have := all_lt ePhys_all h
  unfold ePhys at this
  split at this
  · rename_i a h1
    simp only [Bool.and_eq_true, decide_eq_true_eq] at this
    exact ⟨a, h1, this.1, Nat.eq_of_beq_eq_true this.2⟩
  · cases this
/-- A register is put. -/
theorem put_at {f : TPhys} {p : Nat} {v : W .u32} (h1 : p < f.Val.l.length) (h2 : p < f.Ready.l.length) : ∃ g, F_prf_Put f (wi p) v = some g ∧ g.Val.l = f.Val.l.set p v ∧ g.Ready.l = f.Ready.l.set p true := by
  have hr1 := f.Val.h.2
  have hr2 := f.Ready.h.2
  have hp : p ≤ room := by omega
  unfold F_prf_Put T_prf_Put F_prf_has T_prf_has F_slices_Clone_uint32 F_slices_Clone_bool
  simp only [ev_opt, ev_ite, ev_ret, bind_some']
  have g0 : W.ge (wi p) (W.of .i64 0) = true := by rw [W.ge_n, wi_n hp]; show (0 : Int) ≤ p; omega
  have g1 : W.lt (wi p) (Sl.len f.Val) = true := by rw [Sl.len_wi, wi_lt hp hr1]; simpa using h1
  have g2 : W.lt (wi p) (Sl.len f.Ready) = true := by rw [Sl.len_wi, wi_lt hp hr2]; simpa using h2
  rw [if_pos g0, if_pos g1, g2]
  simp only [bind_some', if_true]
  rw [wi_idx hp, if_pos h1, wi_idx hp, if_pos h2]
  exact ⟨_, rfl, rfl, rfl⟩
/-- The registers of a new core. -/
theorem puts_ok (m : TMach) (z k : TCore) (hv : 18 ≤ k.Phys.Val.l.length) (hr : k.Phys.Ready.l.length = k.Phys.Val.l.length) (hrt : ∀ (i : Nat) b, k.Phys.Ready.l[i]? = some b → b = true) :
    ∃ z' p, L_core_New_27 (m, z, k, W.of .i64 1, ()) = some (z', { k with Phys := p }, ()) ∧ p.Val.l.length = k.Phys.Val.l.length ∧ p.Ready.l.length = k.Phys.Val.l.length ∧ (∀ (i : Nat) b, p.Ready.l[i]? = some b → b = true) ∧ ∀ r, 1 ≤ r → r < 16 → p.Val.l[r]? = some (m.A.R.get r) := by
  unfold L_core_New_27
  have := iter_inv (f := fun a : TMach × TCore × TCore × W .i64 × Unit => (B_core_New_27 a.1 a.2.1 a.2.2.1 a.2.2.2.1).eval)
    (fun a => a.1 = m ∧ ∃ n p, a.2.2.1 = { k with Phys := p } ∧ p.Val.l.length = k.Phys.Val.l.length ∧ p.Ready.l.length = k.Phys.Val.l.length ∧ (∀ (i : Nat) b, p.Ready.l[i]? = some b → b = true) ∧ (∀ r, 1 ≤ r → r < n → p.Val.l[r]? = some (m.A.R.get r)) ∧ a.2.2.2.1 = wi n ∧ n ≤ 16) (fun a => 16 - a.2.2.2.1.n.toNat)
    (fun b => ∃ p, b.2.1 = { k with Phys := p } ∧ p.Val.l.length = k.Phys.Val.l.length ∧ p.Ready.l.length = k.Phys.Val.l.length ∧ (∀ (i : Nat) b, p.Ready.l[i]? = some b → b = true) ∧ ∀ r, 1 ≤ r → r < 16 → p.Val.l[r]? = some (m.A.R.get r)) ?_ (n := fuel) (a := (m, z, k, W.of .i64 1, ())) ⟨rfl, 1, k.Phys, rfl, rfl, hr, hrt, fun r h1 h2 => by omega, rfl, by omega⟩ (by show 16 - _ < 1048576; omega)
  · obtain ⟨⟨z', k', u⟩, h1, p, h2, h3⟩ := this
    simp only at h2
    subst h2
    exact ⟨z', p, h1, h3⟩
  · rintro ⟨m', z', k', r, u⟩ ⟨rfl, n, p, hk, hv', hr', ht, hR, hn, hle⟩
    simp only at hk hn
    subst hk hn
    have hnr := le_room hle
    simp only [B_core_New_27, ev_ite, ev_opt, ev_ret]
    by_cases h16 : n < 16
    · left
      rw [show W.lt (wi n) (W.of .i64 16) = true from (wi_lt hnr (le_room (Nat.le_refl 16))).trans (by simpa using h16), if_pos rfl, wi_idx hnr, if_pos h16]
      simp only [bind_some', wi_add (show n < room by unfold room; omega)]
      obtain ⟨g, h1, h2, h3⟩ := put_at (f := p) (p := n) (v := m'.A.R.get n) (by omega) (by omega)
      rw [h1]
      refine ⟨_, rfl, ⟨rfl, n + 1, g, rfl, by rw [h2, List.length_set]; exact hv', by rw [h3, List.length_set]; exact hr', fun i b hb => ?_, fun r q1 q2 => ?_, rfl, by omega⟩, ?_⟩
      · rw [h3, List.getElem?_set] at hb
        split at hb
        · split at hb
          · cases hb; rfl
          · cases hb
        · exact ht i b hb
      · rw [h2, List.getElem?_set]
        split
        · rename_i hnq; subst hnq; rw [if_pos (by omega)]
        · rename_i hnq; exact hR r q1 (by omega)
      · simp only
        rw [wi_n (le_room (show n + 1 ≤ 16 by omega)), wi_n hnr]
        omega
    · right
      rw [show W.lt (wi n) (W.of .i64 16) = false from (wi_lt hnr (le_room (Nat.le_refl 16))).trans (by simpa using h16)]
      exact ⟨_, rfl, p, rfl, hv', hr', ht, fun r q1 q2 => hR r q1 (by omega)⟩
theorem Arr_ext {α : Type} [Inhabited α] {n : Nat} {a b : Arr n α} (h : ∀ i, i < n → a.get i = b.get i) : a = b := by
  obtain ⟨a, ha⟩ := a
  obtain ⟨b, hb⟩ := b
  have : a = b := by
    apply List.ext_getElem (by rw [ha, hb])
    intro i h1 h2
    have := h i (by omega)
    simpa [Arr.get, List.getD_eq_getElem?_getD, h1, h2] using this
  subst this; rfl
/-- The registers are seen. -/
theorem view_ok {f : TPhys} {d : Arr 16 (W .i64)} {R : Arr 16 (W .u32)} (hd : d.l = doneL) (hv : ∀ r, 1 ≤ r → r < 16 → f.Val.l[r]? = some (R.get r)) (hr : f.Ready.l.length = f.Val.l.length) (ht : ∀ (i : Nat) b, f.Ready.l[i]? = some b → b = true) (h0 : R.get 0 = W.of .u32 0) : F_prf_View f d = some R := by
  have hdone : ∀ r, 1 ≤ r → r < 16 → d.get r = wi r := fun r h1 h2 => by
    have : d.l[r]? = some (wi r) := by
      rw [hd]
      match r, h1, h2 with
      | 1, _, _ => rfl
      | 2, _, _ => rfl
      | 3, _, _ => rfl
      | 4, _, _ => rfl
      | 5, _, _ => rfl
      | 6, _, _ => rfl
      | 7, _, _ => rfl
      | 8, _, _ => rfl
      | 9, _, _ => rfl
      | 10, _, _ => rfl
      | 11, _, _ => rfl
      | 12, _, _ => rfl
      | 13, _, _ => rfl
      | 14, _, _ => rfl
      | 15, _, _ => rfl
      | r + 16, _, h => omega
    simp [Arr.get, List.getD_eq_getElem?_getD, this]
  have hget : ∀ r, 1 ≤ r → r < 16 → F_prf_Get f (wi r) = some (R.get r, true) := fun r h1 h2 => by
    have hx := hv r h1 h2
    have hlen := (List.getElem?_eq_some_iff.1 hx).1
    have hroom := f.Val.h.2
    have hp : r ≤ room := le_room (Nat.le_of_lt h2)
    unfold F_prf_Get T_prf_Get F_prf_has T_prf_has
    simp only [ev_opt, ev_ite, ev_ret]
    have g0 : W.ge (wi r) (W.of .i64 0) = true := by rw [W.ge_n, wi_n hp]; show (0 : Int) ≤ r; omega
    have g1 : W.lt (wi r) (Sl.len f.Val) = true := by rw [Sl.len_wi, wi_lt hp hroom]; simpa using hlen
    have g2 : W.lt (wi r) (Sl.len f.Ready) = true := by rw [Sl.len_wi, wi_lt hp (hr ▸ hroom), hr]; simpa using hlen
    rw [if_pos g0, if_pos g1, g2]
    obtain ⟨b, hb⟩ : ∃ b, f.Ready.l[r]? = some b := ⟨_, List.getElem?_eq_getElem (by omega)⟩
    have := ht r b hb
    subst this
    simp only [bind_some', Bool.not_true, Bool.false_eq_true, if_false, wi_get _ hp, hb, hx]
  have key : ∃ t, L_prf_View_7 (f, d, (Arr.rep 16 (W.of .u32 0) : Arr 16 (W .u32)), (Arr.rep 16 (W.of .u32 0) : Arr 16 (W .u32)), W.of .i64 1, ()) = some (t, R, ()) := by
    unfold L_prf_View_7
    have := iter_inv (f := fun a : TPhys × Arr 16 (W .i64) × Arr 16 (W .u32) × Arr 16 (W .u32) × W .i64 × Unit => (B_prf_View_7 a.1 a.2.1 a.2.2.1 a.2.2.2.1 a.2.2.2.2.1).eval)
      (fun a => a.1 = f ∧ a.2.1 = d ∧ ∃ n, (∀ i, i < 16 → a.2.2.2.1.get i = if i < n then R.get i else W.of .u32 0) ∧ a.2.2.2.2.1 = wi n ∧ 1 ≤ n ∧ n ≤ 16) (fun a => 16 - a.2.2.2.2.1.n.toNat)
      (fun b => b.2.1 = R) ?_ (n := fuel) (a := (f, d, (Arr.rep 16 (W.of .u32 0) : Arr 16 (W .u32)), (Arr.rep 16 (W.of .u32 0) : Arr 16 (W .u32)), W.of .i64 1, ())) ⟨rfl, rfl, 1, fun i hi => ?_, rfl, by omega, by omega⟩ (by show 16 - _ < 1048576; omega)
    · obtain ⟨⟨t, o, u⟩, h1, h2⟩ := this
      simp only at h2
      subst h2
      exact ⟨t, h1⟩
    · rintro ⟨f', d', t, o, r, u⟩ ⟨rfl, rfl, n, ho, hn, hl, hle⟩
      simp only at ho hn
      subst hn
      have hnr := le_room hle
      simp only [B_prf_View_7, ev_ite, ev_opt, ev_ret]
      by_cases h16 : n < 16
      · left
        rw [show W.lt (wi n) (W.of .i64 16) = true from (wi_lt hnr (le_room (Nat.le_refl 16))).trans (by simpa using h16), if_pos rfl, wi_idx hnr, if_pos h16]
        simp only [bind_some', hdone n hl h16, hget n hl h16, wi_add (show n < room by unfold room; omega)]
        refine ⟨_, rfl, ⟨rfl, rfl, n + 1, fun i hi => ?_, rfl, by omega, by omega⟩, ?_⟩
        · rw [Arr.get_set h16]
          by_cases hin : n = i
          · subst hin; rw [if_pos rfl, if_pos (by omega)]
          · rw [if_neg hin, ho i hi]
            by_cases hlt : i < n
            · rw [if_pos hlt, if_pos (by omega)]
            · rw [if_neg hlt, if_neg (by omega)]
        · simp only
          rw [wi_n (le_room (show n + 1 ≤ 16 by omega)), wi_n hnr]
          omega
      · right
        rw [show W.lt (wi n) (W.of .i64 16) = false from (wi_lt hnr (le_room (Nat.le_refl 16))).trans (by simpa using h16)]
        refine ⟨_, rfl, Arr_ext fun i hi => ?_⟩
        rw [ho i hi, if_pos (by omega)]
    · rw [Arr.get_rep hi]
      by_cases h : i < 1
      · rw [if_pos h, show i = 0 by omega, h0]
      · rw [if_neg h]
  obtain ⟨t, ht⟩ := key
  unfold F_prf_View T_prf_View
  simp only [ev_opt, ev_ret, ht, bind_some']
end Go.Proofs.Ytdafegdnjedohaa
