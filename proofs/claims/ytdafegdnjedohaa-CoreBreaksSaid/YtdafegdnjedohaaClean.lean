/- YtdafegdnjedohaaClean: control registers with no bits but theirs. No statement of the seat is proved here. -/
import Derived.Test.YtdafegdnjedohaaTrees
import Derived.Test.YtdafegdnjedohaaA2F
set_option maxRecDepth 100000
namespace Go.Proofs.Ytdafegdnjedohaa
open Go Go.A2
/-- A control register's bits. -/
noncomputable def maskOf (n : Nat) : W .u32 := (F_csr_Masked (wi n)).getD (W.of .u32 0)
theorem masks_same {n : Nat} (h : n < 12) : F_csr_Masked (wi n) = some (maskOf n) ∧ F_ref11_Masked (wi n) = some (maskOf n) := by
  have := all_lt (p := fun n => decide (F_csr_Masked (wi n) = some (maskOf n)) && decide (F_ref11_Masked (wi n) = some (maskOf n))) (n := 12) (by kernel_rfl) h
  simpa using this
noncomputable def badC (n : Nat) (x : W .u32) : Bool := W.ne (W.andNot x (maskOf n)) (W.of .u32 0)
/-- Has it no control register but its bits? -/
def cleanC (a : TArch) : Prop := ∀ (i : Nat) (x : W .u32), a.C.l[i]? = some x → badC i x = false
theorem le_room {n m : Nat} (h : n ≤ m) (hm : m ≤ 1000 := by omega) : n ≤ room := by unfold room; omega
theorem clean_core (a : TArch) : (L_core_clean_5 (a, a.C, W.of .i64 0, ()) = some (.inl (a, false, ())) ∧ ¬ cleanC a) ∨ (L_core_clean_5 (a, a.C, W.of .i64 0, ()) = some (.inr (a, (), ())) ∧ cleanC a) := by
  have hlen := a.C.h
  have key : L_core_clean_5 (a, a.C, W.of .i64 0, ()) = runL (fun n x (_ : Unit) => some (if badC n x then .inr (.inl (a, false, ())) else .inl ())) (fun _ => some (.inr (a, (), ()))) 0 a.C.l () := by
    unfold L_core_clean_5
    refine iter_list (n := 0) (fun n (_ : Unit) => (a, a.C, wi n, ())) _ _ (fun i x _ hi => ?_) (fun _ => ?_) (by rw [hlen]; decide)
    · have hil := (List.getElem?_eq_some_iff.1 hi).1
      have h12 : i < 12 := by rw [hlen] at hil; exact hil
      simp only [Nat.zero_add]
      simp only [B_core_clean_5, ev_ite, ev_opt, ev_ret]
      rw [show W.lt (wi i) (W.of .i64 12) = true from (wi_lt (le_room (Nat.le_of_lt h12)) (le_room (Nat.le_refl 12))).trans (by simpa using h12), if_pos rfl, wi_idx (le_room (Nat.le_of_lt h12)), if_pos h12]
      simp only [bind_some', (masks_same h12).1, wi_add (show i < room by unfold room; omega)]
      have hx : a.C.get i = x := by simp [Arr.get, List.getD_eq_getElem?_getD, hi]
      rw [hx]
      show (if badC i x = true then _ else _) = _
      cases badC i x <;> rfl
    · simp only [Nat.zero_add, hlen]
      simp only [B_core_clean_5, ev_ite, ev_ret]
      rw [show W.lt (wi 12) (W.of .i64 12) = false from rfl]
      rfl
  obtain ⟨r, h1, h2⟩ := runL_find badC (fun _ => Sum.inl (a, false, ())) (Sum.inr (a, (), ()) : (TArch × Bool × Unit) ⊕ (TArch × Unit × Unit)) a.C.l 0
  rw [key]
  rcases h2 with ⟨i, x, h3, h4, rfl⟩ | ⟨h3, rfl⟩
  · refine .inl ⟨h1, fun hc => ?_⟩
    rw [Nat.zero_add] at h4
    rw [hc i x h3] at h4; cases h4
  · exact .inr ⟨h1, fun i x hi => by have := h3 i x hi; rwa [Nat.zero_add] at this⟩
theorem core_clean (a : TArch) : ∃ b, F_core_clean a = some b ∧ (b = true ↔ cleanC a ∧ W.eq (a.R.get 0) (W.of .u32 0) = true) := by
  unfold F_core_clean T_core_clean
  simp only [ev_opt, ev_sum, ev_ret]
  rcases clean_core a with ⟨h1, h2⟩ | ⟨h1, h2⟩
  · rw [h1]; exact ⟨false, rfl, by simp [h2]⟩
  · rw [h1]; exact ⟨_, rfl, by simp [h2]⟩
end Go.Proofs.Ytdafegdnjedohaa
