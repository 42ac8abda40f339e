/- YtcinobbeapgklaaPure2: addresses, data and loaded values: the program's are the document's. No statement of the seat is proved here. -/
import Derived.Test.YtcinobbeapgklaaPure1
namespace Go.Proofs.Ytcinobbeapgklaa
open Go Go.A2
theorem awake_true : F_law32_awake = some true := by kernel_rfl
theorem size_eq (op : W .i64) : F_ref24_Size op = F_crack_Size op := by kernel_rfl
theorem size_some (op : W .i64) : ∃ s, F_crack_Size op = some s ∧ 0 ≤ s.n ∧ s.n ≤ 4 := by
  simp only [F_crack_Size, T_crack_Size, ev_ite, ev_ret]
  have ite : ∀ {c : Prop} [Decidable c] {a b : Option (W .i64)}, (∃ s, a = some s ∧ 0 ≤ s.n ∧ s.n ≤ 4) → (∃ s, b = some s ∧ 0 ≤ s.n ∧ s.n ≤ 4) → ∃ s, (if c then a else b) = some s ∧ 0 ≤ s.n ∧ s.n ≤ 4 := fun {c} _ {a b} ha hb => by
    split
    · exact ha
    · exact hb
  repeat' apply ite
  all_goals (refine ⟨_, rfl, ?_⟩; decide)
theorem between_eq (op a b : W .i64) : F_exec_between op a b = some (decide (a.n ≤ op.n ∧ op.n ≤ b.n)) := by
  simp only [F_exec_between, T_exec_between, ev_ite, ev_ret, W.ge_n]
  by_cases h : a.n ≤ op.n
  · rw [if_pos h]
    congr 1
    by_cases h2 : op.n ≤ b.n
    · rw [W.le_n.2 h2, decide_eq_true ⟨h, h2⟩]
    · rw [Bool.eq_false_iff.2 fun h' => h2 (W.le_n.1 h'), decide_eq_false fun h' => h2 h'.2]
  · rw [if_neg h, decide_eq_false fun h' => h h'.1]
theorem addr_eq (u : TUop) (i : Arr 3 (W .u32)) : F_ref32_Addr u i = F_exec_Addr u i := by
  obtain ⟨s, hs, _⟩ := size_some u.Inst.Op
  simp only [F_ref32_Addr, T_ref32_Addr, F_exec_Addr, T_exec_Addr, ev_ite, ev_ret, ev_opt, between_eq, size_eq, hs, Option.bind_some, W.ge_n, W.le_n, W.eq_n, decide_eq_true_eq,
    lit64 34 (by omega), lit64 38 (by omega), lit64 40 (by omega), lit64 42 (by omega), lit64 39 (by omega), lit64 51 (by omega), lit64 53 (by omega)]
  generalize u.Inst.Op.n = o
  repeat' split
  all_goals first | rfl | omega
theorem addr_some (u : TUop) (i : Arr 3 (W .u32)) : ∃ r, F_exec_Addr u i = some r := by
  obtain ⟨s, hs, _⟩ := size_some u.Inst.Op
  simp only [F_exec_Addr, T_exec_Addr, ev_ite, ev_ret, ev_opt, between_eq, hs, Option.bind_some]
  have ite : ∀ {c : Prop} [Decidable c] {a b : Option (W .u32 × W .i64)}, (∃ s, a = some s) → (∃ s, b = some s) → ∃ s, (if c then a else b) = some s := fun {c} _ {a b} ha hb => by
    split
    · exact ha
    · exact hb
  repeat' apply ite
  all_goals exact ⟨_, rfl⟩
theorem data_eq (u : TUop) (i : Arr 3 (W .u32)) : ∃ r, F_exec_Data u i = some r ∧ F_ref32_Data u i = some r := by
  obtain ⟨s, hs, h1, h2⟩ := size_some u.Inst.Op
  have h8 : (W.of .i64 8).n = 8 := lit64 8 (by omega)
  have hm : (W.mul (W.of .i64 8) s).n = 8 * s.n := by rw [W.mul_n, h8, wrap_i64]; omega
  simp only [F_ref32_Data, T_ref32_Data, F_exec_Data, T_exec_Data, ev_ite, ev_ret, ev_opt, between_eq, size_eq, hs, Option.bind_some, Zext_eq (n := W.mul (W.of .i64 8) s) (by omega), Zext01_eq (n := W.mul (W.of .i64 8) s) (by omega),
    W.lt_n, W.gt_n, lit64 40 (by omega), lit64 42 (by omega), Bool.not_eq_true', decide_eq_false_iff_not]
  generalize u.Inst.Op.n = o
  by_cases h : 40 ≤ o ∧ o ≤ 42
  · rw [if_neg (by omega), if_neg (by omega), if_neg (by omega)]
    exact ⟨_, rfl, rfl⟩
  · rw [if_pos h]
    by_cases h3 : o < 40
    · rw [if_pos h3]; exact ⟨_, rfl, rfl⟩
    · rw [if_neg h3, if_pos (by omega)]; exact ⟨_, rfl, rfl⟩
theorem ext_eq (op : W .i64) (raw : W .u32) : ∃ r, F_exec_Ext op raw = some r ∧ F_ref32_Ext op raw = some r := by
  have h8 : (W.of .i64 8).n = 8 := lit64 8 (by omega)
  have h16 : (W.of .i64 16).n = 16 := lit64 16 (by omega)
  simp only [F_ref32_Ext, T_ref32_Ext, F_exec_Ext, T_exec_Ext, ev_ite, ev_ret, ev_opt, Option.bind_some, Zext_eq (n := W.of .i64 8) (by omega), Zext01_eq (n := W.of .i64 8) (by omega), Zext_eq (n := W.of .i64 16) (by omega), Zext01_eq (n := W.of .i64 16) (by omega),
    Sext_eq (n := W.of .i64 8) (by omega), Sext01_eq (n := W.of .i64 8) (by omega), Sext_eq (n := W.of .i64 16) (by omega), Sext01_eq (n := W.of .i64 16) (by omega), W.eq_n, lit64 34 (by omega), lit64 36 (by omega), lit64 35 (by omega), lit64 37 (by omega)]
  generalize op.n = o
  by_cases h1 : o = 34
  · subst h1; exact ⟨_, rfl, rfl⟩
  by_cases h2 : o = 36
  · subst h2; exact ⟨_, rfl, rfl⟩
  by_cases h3 : o = 35
  · subst h3; exact ⟨_, rfl, rfl⟩
  by_cases h4 : o = 37
  · subst h4; exact ⟨_, rfl, rfl⟩
  simp only [h1, h2, h3, h4, if_false]
  exact ⟨_, rfl, rfl⟩
theorem moves_true (u : TUop) (i : Arr 3 (W .u32)) (raw : W .u32) : F_law32_ExecMoves u i raw = some true := by
  obtain ⟨r1, h1⟩ := addr_some u i
  obtain ⟨r2, h2, h3⟩ := data_eq u i
  obtain ⟨r3, h4, h5⟩ := ext_eq u.Inst.Op raw
  simp only [F_law32_ExecMoves, T_law32_ExecMoves, ev_ite, ev_ret, ev_opt, addr_eq, h1, h2, h3, h4, h5, Option.bind_some, W.eq_self, if_true, awake_true]
end Go.Proofs.Ytcinobbeapgklaa
