/- YtdafegdnjedohaaPureBreaks: the law CoreBreaks in plain terms. No statement of the seat is proved here. -/
import Derived.Test.YtdafegdnjedohaaBreak7
import Derived.Test.YtdafegdnjedohaaAwake
import Derived.Test.YtdafegdnjedohaaSame
set_option maxRecDepth 100000
namespace Go.Proofs.Ytdafegdnjedohaa
open Go Go.A2
structure LightC (c : TCore) : Prop where
  Queue : c.Queue.l.length ≤ 20
  Rob : c.Rob.l.length ≤ 70
  Iq : c.Iq.l.length ≤ 40
  Lq : c.Lq.l.length ≤ 20
  Sq : c.Sq.l.length ≤ 20
  Sb : c.Sb.l.length ≤ 10
  Units : c.Units.l.length ≤ 80
theorem le_len {b : Nat} {α : Type} {s : Sl b α} {n : Nat} (hn : n ≤ 1000) : W.le (Sl.len s) (wi n) = decide (s.l.length ≤ n) := by
  refine iff_bool ?_
  rw [W.le_n, len_n', wi_n (sm hn), decide_eq_true_eq]; omega
theorem ite_ex {c : Prop} [Decidable c] {x y : Option Bool} {P : Prop} (h1 : c → ∃ b, x = some b ∧ (b = true → P)) (h2 : ¬ c → ∃ b, y = some b ∧ (b = true → P)) : ∃ b, (if c then x else y) = some b ∧ (b = true → P) := by
  by_cases h : c
  · rw [if_pos h]; exact h1 h
  · rw [if_neg h]; exact h2 h
theorem no {c P : Prop} : c → ∃ b, (some false : Option Bool) = some b ∧ (b = true → P) := fun _ => ⟨false, rfl, fun h => by cases h⟩
theorem light_of (c : TCore) : ∃ b, F_law42_Light c = some b ∧ (b = true → LightC c) := by
  unfold F_law42_Light T_law42_Light
  simp only [ev_ite, ev_ret]
  have e1 : W.le (Sl.len c.Queue) (W.of .i64 20) = decide (c.Queue.l.length ≤ 20) := le_len (n := 20) (by omega)
  have e2 : W.le (Sl.len c.Rob) (W.of .i64 70) = decide (c.Rob.l.length ≤ 70) := le_len (n := 70) (by omega)
  have e3 : W.le (Sl.len c.Iq) (W.of .i64 40) = decide (c.Iq.l.length ≤ 40) := le_len (n := 40) (by omega)
  have e4 : W.le (Sl.len c.Lq) (W.of .i64 20) = decide (c.Lq.l.length ≤ 20) := le_len (n := 20) (by omega)
  have e5 : W.le (Sl.len c.Sq) (W.of .i64 20) = decide (c.Sq.l.length ≤ 20) := le_len (n := 20) (by omega)
  have e6 : W.le (Sl.len c.Sb) (W.of .i64 10) = decide (c.Sb.l.length ≤ 10) := le_len (n := 10) (by omega)
  have e7 : W.le (Sl.len c.Units) (W.of .i64 80) = decide (c.Units.l.length ≤ 80) := le_len (n := 80) (by omega)
  simp only [e1, e2, e3, e4, e5, e6, e7, decide_eq_true_eq]
  refine ite_ex (fun q1 => ite_ex (fun q2 => ite_ex (fun q3 => ite_ex (fun q4 => ite_ex (fun q5 => ite_ex (fun q6 => ite_ex (fun q7 => ?_) no) no) no) no) no) no) no
  repeat refine ite_ex (fun _ => ?_) no
  exact ⟨_, rfl, fun _ => ⟨q1, q2, q3, q4, q5, q6, q7⟩⟩
/-- The rules that don't hold. -/
def brkL (b2 b3 b4 b5 b6 b7 b8 b9 : Bool) : List (W .i64) := (if b2 = true then [] else [W.of .i64 2]) ++ (if b3 = true then [] else [W.of .i64 3]) ++ (if b4 = true then [] else [W.of .i64 4]) ++ (if b5 = true then [] else [W.of .i64 5]) ++ (if b6 = true then [] else [W.of .i64 6]) ++ (if b7 = true then [] else [W.of .i64 7]) ++ (if b8 = true then [] else [W.of .i64 8]) ++ (if b9 = true then [] else [W.of .i64 9])
theorem core_loop (b2 b3 b4 b5 b6 b7 b8 b9 : Bool) : ∃ r, L_core_Broken_15 (Sl.nil, Sl.lit 1 [b2, b3, b4, b5, b6, b7, b8, b9] rfl, W.of .i64 8, W.of .i64 0, ()) = some r ∧ r.1.l = brkL b2 b3 b4 b5 b6 b7 b8 b9 := by
  have h : (L_core_Broken_15 (Sl.nil, Sl.lit 1 [b2, b3, b4, b5, b6, b7, b8, b9] rfl, W.of .i64 8, W.of .i64 0, ())).map (fun r => r.1.l) = some (brkL b2 b3 b4 b5 b6 b7 b8 b9) := by
    cases b2 <;> cases b3 <;> cases b4 <;> cases b5 <;> cases b6 <;> cases b7 <;> cases b8 <;> cases b9 <;> kernel_rfl
  cases hL : L_core_Broken_15 (Sl.nil, Sl.lit 1 [b2, b3, b4, b5, b6, b7, b8, b9] rfl, W.of .i64 8, W.of .i64 0, ()) with
  | none => rw [hL] at h; cases h
  | some r => rw [hL] at h; exact ⟨r, rfl, Option.some.inj h⟩
theorem core_rens (c : TCore) (h : c.Rob.l.length < 1000) : ∃ a, F_core_rens c = some a ∧ a.l = c.Rob.l.map TRob.Ren := by
  have key : ∃ o, L_core_rens_7 (Sl.nil, c.Rob, Sl.len c.Rob, wi 0, ()) = some o ∧ o.1.l = c.Rob.l.map TRob.Ren := by
    unfold L_core_rens_7
    refine iter_acc (fun i s => ∃ a : Sl 216 TRen, s = (a, c.Rob, Sl.len c.Rob, wi i, ()) ∧ a.l = (c.Rob.l.take i).map TRob.Ren) c.Rob.l.length _ ?_ ?_ ⟨Sl.nil, rfl, rfl⟩ (by show _ < 1048576; omega)
    · rintro i s hi ⟨a, rfl, ha⟩
      have hlen : a.l.length = i := by rw [ha, List.length_map, List.length_take]; omega
      obtain ⟨r, hr1, hr2⟩ := app_lit (s := a) (x := (nth c.Rob.l i).Ren) (hb := rfl) (by unfold room; omega) (by unfold room; omega)
      simp only [B_core_rens_7, ev_ite, ev_opt, ev_ret, lt_len c.Rob hi, Sl.get_wi c.Rob hi, if_true, bind_some', hr1, wi_next c.Rob hi]
      exact ⟨_, rfl, r, rfl, by rw [hr2, ha, take_nth hi, List.map_append]; rfl⟩
    · rintro s ⟨a, rfl, ha⟩
      simp only [B_core_rens_7, ev_ite, ev_ret, lt_end c.Rob]
      exact ⟨_, rfl, by rw [← List.take_length (l := c.Rob.l)]; exact ha⟩
  obtain ⟨o, h1, h2⟩ := key
  refine ⟨o.1, ?_, h2⟩
  unfold F_core_rens T_core_rens
  simp only [ev_opt, wi_zero, h1, bind_some', ev_ret]
theorem ref_rens (c : TCore) (h : c.Rob.l.length < 1000) (out : Sl 8 (W .i64)) : ∃ a : Sl 216 TRen, L_ref42_Broken_15 (c, out, Sl.lit 216 [] rfl, wi 0, ()) = some (c, out, a, ()) ∧ a.l = c.Rob.l.map TRob.Ren := by
  have key : ∃ o, L_ref42_Broken_15 (c, out, Sl.lit 216 [] rfl, wi 0, ()) = some o ∧ ∃ a : Sl 216 TRen, o = (c, out, a, ()) ∧ a.l = c.Rob.l.map TRob.Ren := by
    unfold L_ref42_Broken_15
    refine iter_acc (fun i s => ∃ a : Sl 216 TRen, s = (c, out, a, wi i, ()) ∧ a.l = (c.Rob.l.take i).map TRob.Ren) c.Rob.l.length _ ?_ ?_ ⟨_, rfl, rfl⟩ (by show _ < 1048576; omega)
    · rintro i s hi ⟨a, rfl, ha⟩
      have hlen : a.l.length = i := by rw [ha, List.length_map, List.length_take]; omega
      obtain ⟨r, hr1, hr2⟩ := app_lit (s := a) (x := (nth c.Rob.l i).Ren) (hb := rfl) (by unfold room; omega) (by unfold room; omega)
      simp only [B_ref42_Broken_15, L_ref42_Broken_20, B_ref42_Broken_20, ev_ite, ev_opt, ev_ret, lt_len c.Rob hi, Sl.get_wi c.Rob hi, if_true, bind_some', hr1, wi_next c.Rob hi]
      exact ⟨_, rfl, r, rfl, by rw [hr2, ha, take_nth hi, List.map_append]; rfl⟩
    · rintro s ⟨a, rfl, ha⟩
      simp only [B_ref42_Broken_15, ev_ite, ev_ret, lt_end c.Rob]
      exact ⟨_, rfl, a, rfl, by rw [ha, List.take_length]⟩
  obtain ⟨o, h1, a, rfl, ha⟩ := key
  exact ⟨a, h1, ha⟩
theorem chain_end (out : Sl 8 (W .i64)) : L_ref42_Broken_56 (out, ()) = some ((), out, ()) := rfl
theorem chain_9 (c : TCore) (out : Sl 8 (W .i64)) {b9 : Bool} (h9 : F_ref42_there c = some b9) (hl : out.l.length ≤ 7) : ∃ z : Sl 8 (W .i64), L_ref42_Broken_52 (c, out, ()) = some ((), z, ()) ∧ z.l = out.l ++ ((if b9 = true then [] else [W.of .i64 9])) := by
  unfold L_ref42_Broken_52 B_ref42_Broken_52
  simp only [ev_opt, ev_ite, ev_ret, h9, bind_some']
  cases b9 with
  | true =>
    simp only [Bool.not_true, Bool.false_eq_true, if_false, if_true, chain_end, bind_some']
    exact ⟨out, rfl, by simp⟩
  | false =>
    obtain ⟨r, hr1, hr2⟩ := app_lit (s := out) (x := W.of .i64 9) (hb := rfl) (by unfold room; omega) (by unfold room; omega)
    simp only [Bool.not_false, Bool.false_eq_true, if_false, if_true, hr1, chain_end, bind_some']
    exact ⟨r, rfl, by rw [hr2]⟩
theorem chain_8 (c : TCore) (out : Sl 8 (W .i64)) {b8 b9 : Bool} (h8 : F_ref42_control c.A = some b8) (h9 : F_ref42_there c = some b9) (hl : out.l.length ≤ 6) : ∃ z : Sl 8 (W .i64), L_ref42_Broken_48 (c, out, ()) = some ((), z, ()) ∧ z.l = out.l ++ ((if b8 = true then [] else [W.of .i64 8]) ++ (if b9 = true then [] else [W.of .i64 9])) := by
  unfold L_ref42_Broken_48 B_ref42_Broken_48
  simp only [ev_opt, ev_ite, ev_ret, h8, bind_some']
  cases b8 with
  | true =>
    obtain ⟨z, hz1, hz2⟩ := chain_9 c out h9 (by omega)
    simp only [Bool.not_true, Bool.false_eq_true, if_false, if_true, hz1, bind_some']
    exact ⟨z, rfl, by rw [hz2]; simp⟩
  | false =>
    obtain ⟨r, hr1, hr2⟩ := app_lit (s := out) (x := W.of .i64 8) (hb := rfl) (by unfold room; omega) (by unfold room; omega)
    obtain ⟨z, hz1, hz2⟩ := chain_9 c r h9 (by rw [hr2, List.length_append]; simp; omega)
    simp only [Bool.not_false, Bool.false_eq_true, if_false, if_true, hr1, hz1, bind_some']
    exact ⟨z, rfl, by rw [hz2, hr2]; simp⟩
theorem chain_7 (c : TCore) (out : Sl 8 (W .i64)) {b7 b8 b9 : Bool} (h7 : (F_ref27_View c.Phys c.Names.Done).map (fun r => Tab.eq tab (.arr 16 (.int .u32)) r c.A.R) = some b7) (h8 : F_ref42_control c.A = some b8) (h9 : F_ref42_there c = some b9) (hl : out.l.length ≤ 5) : ∃ z : Sl 8 (W .i64), L_ref42_Broken_44 (c, out, ()) = some ((), z, ()) ∧ z.l = out.l ++ ((if b7 = true then [] else [W.of .i64 7]) ++ (if b8 = true then [] else [W.of .i64 8]) ++ (if b9 = true then [] else [W.of .i64 9])) := by
  unfold L_ref42_Broken_44 B_ref42_Broken_44
  cases hv : F_ref27_View c.Phys c.Names.Done with
  | none => rw [hv] at h7; cases h7
  | some r =>
  rw [hv] at h7
  have h7 : Tab.eq tab (.arr 16 (.int .u32)) r c.A.R = b7 := Option.some.inj h7
  simp only [ev_opt, ev_ite, ev_ret, bind_some']
  rw [h7]
  cases b7 with
  | true =>
    obtain ⟨z, hz1, hz2⟩ := chain_8 c out h8 h9 (by omega)
    simp only [Bool.not_true, Bool.false_eq_true, if_false, if_true, hz1, bind_some']
    exact ⟨z, rfl, by rw [hz2]; simp⟩
  | false =>
    obtain ⟨r, hr1, hr2⟩ := app_lit (s := out) (x := W.of .i64 7) (hb := rfl) (by unfold room; omega) (by unfold room; omega)
    obtain ⟨z, hz1, hz2⟩ := chain_8 c r h8 h9 (by rw [hr2, List.length_append]; simp; omega)
    simp only [Bool.not_false, Bool.false_eq_true, if_false, if_true, hr1, hz1, bind_some']
    exact ⟨z, rfl, by rw [hz2, hr2]; simp⟩
theorem chain_6 (c : TCore) (out : Sl 8 (W .i64)) {b6 b7 b8 b9 : Bool} (h6 : F_ref42_memory c = some b6) (h7 : (F_ref27_View c.Phys c.Names.Done).map (fun r => Tab.eq tab (.arr 16 (.int .u32)) r c.A.R) = some b7) (h8 : F_ref42_control c.A = some b8) (h9 : F_ref42_there c = some b9) (hl : out.l.length ≤ 4) : ∃ z : Sl 8 (W .i64), L_ref42_Broken_40 (c, out, ()) = some ((), z, ()) ∧ z.l = out.l ++ ((if b6 = true then [] else [W.of .i64 6]) ++ (if b7 = true then [] else [W.of .i64 7]) ++ (if b8 = true then [] else [W.of .i64 8]) ++ (if b9 = true then [] else [W.of .i64 9])) := by
  unfold L_ref42_Broken_40 B_ref42_Broken_40
  simp only [ev_opt, ev_ite, ev_ret, h6, bind_some']
  cases b6 with
  | true =>
    obtain ⟨z, hz1, hz2⟩ := chain_7 c out h7 h8 h9 (by omega)
    simp only [Bool.not_true, Bool.false_eq_true, if_false, if_true, hz1, bind_some']
    exact ⟨z, rfl, by rw [hz2]; simp⟩
  | false =>
    obtain ⟨r, hr1, hr2⟩ := app_lit (s := out) (x := W.of .i64 6) (hb := rfl) (by unfold room; omega) (by unfold room; omega)
    obtain ⟨z, hz1, hz2⟩ := chain_7 c r h7 h8 h9 (by rw [hr2, List.length_append]; simp; omega)
    simp only [Bool.not_false, Bool.false_eq_true, if_false, if_true, hr1, hz1, bind_some']
    exact ⟨z, rfl, by rw [hz2, hr2]; simp⟩
theorem chain_5 (c : TCore) (out : Sl 8 (W .i64)) {b5 b6 b7 b8 b9 : Bool} (h5 : F_ref42_flying c = some b5) (h6 : F_ref42_memory c = some b6) (h7 : (F_ref27_View c.Phys c.Names.Done).map (fun r => Tab.eq tab (.arr 16 (.int .u32)) r c.A.R) = some b7) (h8 : F_ref42_control c.A = some b8) (h9 : F_ref42_there c = some b9) (hl : out.l.length ≤ 3) : ∃ z : Sl 8 (W .i64), L_ref42_Broken_36 (c, out, ()) = some ((), z, ()) ∧ z.l = out.l ++ ((if b5 = true then [] else [W.of .i64 5]) ++ (if b6 = true then [] else [W.of .i64 6]) ++ (if b7 = true then [] else [W.of .i64 7]) ++ (if b8 = true then [] else [W.of .i64 8]) ++ (if b9 = true then [] else [W.of .i64 9])) := by
  unfold L_ref42_Broken_36 B_ref42_Broken_36
  simp only [ev_opt, ev_ite, ev_ret, h5, bind_some']
  cases b5 with
  | true =>
    obtain ⟨z, hz1, hz2⟩ := chain_6 c out h6 h7 h8 h9 (by omega)
    simp only [Bool.not_true, Bool.false_eq_true, if_false, if_true, hz1, bind_some']
    exact ⟨z, rfl, by rw [hz2]; simp⟩
  | false =>
    obtain ⟨r, hr1, hr2⟩ := app_lit (s := out) (x := W.of .i64 5) (hb := rfl) (by unfold room; omega) (by unfold room; omega)
    obtain ⟨z, hz1, hz2⟩ := chain_6 c r h6 h7 h8 h9 (by rw [hr2, List.length_append]; simp; omega)
    simp only [Bool.not_false, Bool.false_eq_true, if_false, if_true, hr1, hz1, bind_some']
    exact ⟨z, rfl, by rw [hz2, hr2]; simp⟩
theorem chain_4 (c : TCore) (out : Sl 8 (W .i64)) {b4 b5 b6 b7 b8 b9 : Bool} (h4 : F_ref42_queued c = some b4) (h5 : F_ref42_flying c = some b5) (h6 : F_ref42_memory c = some b6) (h7 : (F_ref27_View c.Phys c.Names.Done).map (fun r => Tab.eq tab (.arr 16 (.int .u32)) r c.A.R) = some b7) (h8 : F_ref42_control c.A = some b8) (h9 : F_ref42_there c = some b9) (hl : out.l.length ≤ 2) : ∃ z : Sl 8 (W .i64), L_ref42_Broken_32 (c, out, ()) = some ((), z, ()) ∧ z.l = out.l ++ ((if b4 = true then [] else [W.of .i64 4]) ++ (if b5 = true then [] else [W.of .i64 5]) ++ (if b6 = true then [] else [W.of .i64 6]) ++ (if b7 = true then [] else [W.of .i64 7]) ++ (if b8 = true then [] else [W.of .i64 8]) ++ (if b9 = true then [] else [W.of .i64 9])) := by
  unfold L_ref42_Broken_32 B_ref42_Broken_32
  simp only [ev_opt, ev_ite, ev_ret, h4, bind_some']
  cases b4 with
  | true =>
    obtain ⟨z, hz1, hz2⟩ := chain_5 c out h5 h6 h7 h8 h9 (by omega)
    simp only [Bool.not_true, Bool.false_eq_true, if_false, if_true, hz1, bind_some']
    exact ⟨z, rfl, by rw [hz2]; simp⟩
  | false =>
    obtain ⟨r, hr1, hr2⟩ := app_lit (s := out) (x := W.of .i64 4) (hb := rfl) (by unfold room; omega) (by unfold room; omega)
    obtain ⟨z, hz1, hz2⟩ := chain_5 c r h5 h6 h7 h8 h9 (by rw [hr2, List.length_append]; simp; omega)
    simp only [Bool.not_false, Bool.false_eq_true, if_false, if_true, hr1, hz1, bind_some']
    exact ⟨z, rfl, by rw [hz2, hr2]; simp⟩
theorem chain_3 (c : TCore) (out : Sl 8 (W .i64)) (rens : Sl 216 TRen) {b3 b4 b5 b6 b7 b8 b9 : Bool} (h3 : F_ref28_Right c.Names c.Conf.Phys rens = some b3) (h4 : F_ref42_queued c = some b4) (h5 : F_ref42_flying c = some b5) (h6 : F_ref42_memory c = some b6) (h7 : (F_ref27_View c.Phys c.Names.Done).map (fun r => Tab.eq tab (.arr 16 (.int .u32)) r c.A.R) = some b7) (h8 : F_ref42_control c.A = some b8) (h9 : F_ref42_there c = some b9) (hl : out.l.length ≤ 1) : ∃ z : Sl 8 (W .i64), L_ref42_Broken_28 (c, out, rens, ()) = some ((), z, ()) ∧ z.l = out.l ++ ((if b3 = true then [] else [W.of .i64 3]) ++ (if b4 = true then [] else [W.of .i64 4]) ++ (if b5 = true then [] else [W.of .i64 5]) ++ (if b6 = true then [] else [W.of .i64 6]) ++ (if b7 = true then [] else [W.of .i64 7]) ++ (if b8 = true then [] else [W.of .i64 8]) ++ (if b9 = true then [] else [W.of .i64 9])) := by
  unfold L_ref42_Broken_28 B_ref42_Broken_28
  simp only [ev_opt, ev_ite, ev_ret, h3, bind_some']
  cases b3 with
  | true =>
    obtain ⟨z, hz1, hz2⟩ := chain_4 c out h4 h5 h6 h7 h8 h9 (by omega)
    simp only [Bool.not_true, Bool.false_eq_true, if_false, if_true, hz1, bind_some']
    exact ⟨z, rfl, by rw [hz2]; simp⟩
  | false =>
    obtain ⟨r, hr1, hr2⟩ := app_lit (s := out) (x := W.of .i64 3) (hb := rfl) (by unfold room; omega) (by unfold room; omega)
    obtain ⟨z, hz1, hz2⟩ := chain_4 c r h4 h5 h6 h7 h8 h9 (by rw [hr2, List.length_append]; simp; omega)
    simp only [Bool.not_false, Bool.false_eq_true, if_false, if_true, hr1, hz1, bind_some']
    exact ⟨z, rfl, by rw [hz2, hr2]; simp⟩
/-- Rule 2 whole. -/
def ord2 (c : TCore) : Prop := robOk c.Rob.l ∧ (match c.Rob.l.length with | 0 => True | i + 1 => W.lt (nth c.Rob.l i).Ren.Seq c.Names.Seq = true)
theorem core_ord (c : TCore) (h : c.Rob.l.length < 1000) : ∃ b, F_core_ordered c = some b ∧ (b = true ↔ ord2 c) := by
  obtain ⟨b, e, g⟩ := core_rob c.Rob h
  have hroom := c.Rob.h.2
  unfold F_core_ordered T_core_ordered ord2
  simp only [ev_opt, ev_ite, ev_ret, e, bind_some', wi_zero]
  rw [← g]
  cases b with
  | false => exact ⟨false, rfl, by simp⟩
  | true =>
    simp only [if_true, true_and]
    cases hn : c.Rob.l.length with
    | zero =>
      rw [show W.eq (Sl.len c.Rob) (wi 0) = true by rw [Sl.len_wi, hn]; exact W.eq_self _]
      exact ⟨true, rfl, by simp⟩
    | succ i =>
      rw [show W.eq (Sl.len c.Rob) (wi 0) = false by rw [Sl.len_wi, wi_eq hroom (by omega), hn]; simp, Sl.len_wi, hn, wi_sub (by omega), Sl.get_wi c.Rob (show i < c.Rob.l.length by omega)]
      exact ⟨_, rfl, Iff.rfl⟩
theorem ref_ord (c : TCore) (h : c.Rob.l.length < 1000) (out : Sl 8 (W .i64)) (hl : out.l = []) (rens : Sl 216 TRen) {b3 b4 b5 b6 b7 b8 b9 : Bool} (h3 : F_ref28_Right c.Names c.Conf.Phys rens = some b3) (h4 : F_ref42_queued c = some b4) (h5 : F_ref42_flying c = some b5) (h6 : F_ref42_memory c = some b6) (h7 : (F_ref27_View c.Phys c.Names.Done).map (fun r => Tab.eq tab (.arr 16 (.int .u32)) r c.A.R) = some b7) (h8 : F_ref42_control c.A = some b8) (h9 : F_ref42_there c = some b9) : ∃ b2, (b2 = true ↔ ord2 c) ∧ ∃ z : Sl 8 (W .i64), L_ref42_Broken_24 (c, out, rens, ()) = some ((), z, ()) ∧ z.l = brkL b2 b3 b4 b5 b6 b7 b8 b9 := by
  obtain ⟨b, e, g⟩ := ref_rob c.Rob h
  have hroom := c.Rob.h.2
  obtain ⟨r, hr1, hr2⟩ := app_lit (s := out) (x := W.of .i64 2) (hb := rfl) (by rw [hl]; unfold room; simp) (by rw [hl]; unfold room; simp)
  obtain ⟨z1, y1, y2⟩ := chain_3 c r rens h3 h4 h5 h6 h7 h8 h9 (by rw [hr2, hl]; simp)
  obtain ⟨z2, y3, y4⟩ := chain_3 c out rens h3 h4 h5 h6 h7 h8 h9 (by rw [hl]; simp)
  have t1 : L_ref42_Broken_26 (c, out, rens, true, ()) = some (c, r, rens, ()) := by
    unfold L_ref42_Broken_26 B_ref42_Broken_26
    simp only [ev_opt, ev_ite, ev_ret, if_true, hr1, bind_some']
  have t2 : L_ref42_Broken_26 (c, out, rens, false, ()) = some (c, out, rens, ()) := rfl
  have w1 : z1.l = brkL false b3 b4 b5 b6 b7 b8 b9 := by rw [y2, hr2, hl]; simp [brkL]
  have w2 : z2.l = brkL true b3 b4 b5 b6 b7 b8 b9 := by rw [y4, hl]; simp [brkL]
  unfold L_ref42_Broken_24 B_ref42_Broken_24 ord2
  simp only [ev_opt, ev_ite, ev_ret, e, bind_some', wi_zero]
  rw [← g]
  cases b with
  | false =>
    simp only [Bool.not_false, if_true, t1, y1, bind_some']
    exact ⟨false, by simp, z1, rfl, w1⟩
  | true =>
    simp only [Bool.not_true, Bool.false_eq_true, if_false, true_and]
    cases hn : c.Rob.l.length with
    | zero =>
      rw [show W.gt (Sl.len c.Rob) (wi 0) = false by rw [Sl.len_wi, hn]; rfl]
      simp only [Bool.false_eq_true, if_false, t2, y3, bind_some']
      exact ⟨true, by simp, z2, rfl, w2⟩
    | succ i =>
      rw [show W.gt (Sl.len c.Rob) (wi 0) = true by rw [Sl.len_wi, W.gt_lt, wi_lt (by omega) hroom, hn]; simp, Sl.len_wi, hn, wi_sub (by omega), Sl.get_wi c.Rob (show i < c.Rob.l.length by omega)]
      simp only [if_true, bind_some', W.ge_lt]
      cases W.lt (nth c.Rob.l i).Ren.Seq c.Names.Seq with
      | true =>
        simp only [Bool.not_true, t2, y3, bind_some']
        exact ⟨true, by simp, z2, rfl, w2⟩
      | false =>
        simp only [Bool.not_false, t1, y1, bind_some']
        exact ⟨false, by simp, z1, rfl, w1⟩
theorem phys_wi {c : TConf} (h : okConf c = true) : ∃ nn, c.Phys = wi nn ∧ nn ≤ 1000 := by
  unfold okConf roomsB at h
  simp only [Bool.and_eq_true] at h
  have h1 := h.1.1.2.2
  unfold inB at h1
  rw [Bool.and_eq_true, W.ge_n, W.le_n, show (W.of .i64 18).n = 18 from rfl, show (W.of .i64 96).n = 96 from rfl] at h1
  exact ⟨c.Phys.n.toNat, of_small (by omega), by omega⟩
theorem broken_same (c : TCore) (hc : LightC c) : ∃ r, F_core_Broken c = some r ∧ F_ref42_Broken c = some r ∧ r.l.length ≤ 8 := by
  obtain ⟨l1, l2, l3, l4, l5, l6, l7⟩ := hc
  have f2 : c.Rob.l.length < fuel := by show _ < 1048576; omega
  have f3 : c.Iq.l.length < fuel := by show _ < 1048576; omega
  have f4 : c.Lq.l.length < fuel := by show _ < 1048576; omega
  have f5 : c.Sq.l.length < fuel := by show _ < 1048576; omega
  have f7 : c.Units.l.length < fuel := by show _ < 1048576; omega
  obtain ⟨b1, e1, e1', g1⟩ := rooms_same c
  unfold F_core_Broken T_core_Broken F_ref42_Broken T_ref42_Broken
  simp only [ev_opt, ev_ite, ev_ret, e1, e1', bind_some']
  cases b1 with
  | false => exact ⟨_, rfl, rfl, by simp [Sl.lit]⟩
  | true =>
    obtain ⟨nn, hP, hnn⟩ := phys_wi (g1 rfl)
    obtain ⟨iq, un, eq, hiq, hun⟩ := core_que c (by omega) (by omega)
    obtain ⟨b2, e2, g2⟩ := core_ord c (by omega)
    obtain ⟨fl, er, hfl⟩ := core_rens c (by omega)
    obtain ⟨b3, e3, g3⟩ := core_names c.Names hnn fl (by rw [hfl, List.length_map]; omega)
    obtain ⟨b4, e4, g4⟩ := core_fly c iq f2 (by rw [hiq, List.length_map]; exact f3)
    obtain ⟨b5, e5, g5⟩ := core_fly c un f2 (by rw [hun, List.length_map]; exact f7)
    have e5a := core_apart iq un (by rw [hiq, List.length_map]; exact f3) (by rw [hun, List.length_map]; exact f7)
    obtain ⟨b6, e6, g6⟩ := core_mem c (by omega) f4 f5
    obtain ⟨r7, e7⟩ := view_some c.Phys c.Names.Done
    obtain ⟨b8, e8, g8⟩ := core_clean c.A
    have e9 := core_val c f2
    obtain ⟨fl', er', hfl'⟩ := ref_rens c (by omega) (Sl.lit 8 [] rfl)
    have hff : fl' = fl := Sl.ext (by rw [hfl, hfl'])
    subst hff
    obtain ⟨b3', e3', g3'⟩ := ref_names c.Names hnn fl' (by rw [hfl, List.length_map]; omega)
    obtain ⟨b4', e4', g4'⟩ := ref_que c f2 f3
    obtain ⟨b5', e5', g5'⟩ := ref_fly c f2 f3 f7
    obtain ⟨b6', e6', g6'⟩ := ref_mem c (by omega) f4 f5
    obtain ⟨b8', e8', g8'⟩ := ref_control c.A
    have e9' := ref_val c f2
    have hb3 : b3' = b3 := iff_bool (g3'.trans ((names_same c.Names fl'.l (by rw [hfl, List.length_map]; omega)).symm.trans g3.symm))
    have hb4 : b4' = b4 := iff_bool (g4'.trans (by rw [g4, hiq]))
    have hb5 : b5' = (b5 && !bothB iq.l un.l) := iff_bool (g5'.trans (by rw [Bool.and_eq_true, g5, hun, hiq, Bool.not_eq_true']))
    have hb6 : b6' = b6 := iff_bool (g6'.trans g6.symm)
    have hb8 : b8' = b8 := iff_bool (g8'.trans g8.symm)
    obtain ⟨b2', g2', z, ez, hz⟩ := ref_ord c (by omega) (Sl.lit 8 [] rfl) rfl fl' (by rw [hP]; exact e3') e4' e5' e6' (b7 := Tab.eq tab (.arr 16 (.int .u32)) r7 c.A.R) (by rw [view_same, e7]; rfl) e8' e9'
    have hb2 : b2' = b2 := iff_bool (g2'.trans g2.symm)
    subst hb2 hb3 hb4 hb6 hb8
    have hL : L_ref42_Broken_7 (c, ()) = some ((), z, ()) := by
      unfold L_ref42_Broken_7 B_ref42_Broken_7
      simp only [ev_opt, ev_ret, wi_zero, er', bind_some', ez]
    rw [hP]
    simp only [Bool.not_true, Bool.false_eq_true, if_false, eq, e2, er, e3, e4, e5, bind_some', hL]
    rw [hb5] at hz
    have hlen : ∀ b2 b3 b4 b5 b6 b7 b8 b9 : Bool, (brkL b2 b3 b4 b5 b6 b7 b8 b9).length ≤ 8 := by decide
    cases b5 with
    | true =>
      simp only [if_true, e5a, e6, e7, e8, e9, bind_some']
      obtain ⟨r, hr1, hr2⟩ := core_loop b2' b3' b4' (!bothB iq.l un.l) b6' (Tab.eq tab (.arr 16 (.int .u32)) r7 c.A.R) b8' (!(c.Rob.l.any (badV c)))
      rw [hr1, bind_some']
      have : r.1 = z := Sl.ext (by rw [hr2, hz]; rfl)
      exact ⟨z, by rw [this], rfl, by rw [hz]; exact hlen ..⟩
    | false =>
      simp only [Bool.false_eq_true, if_false, e6, e7, e8, e9, bind_some']
      obtain ⟨r, hr1, hr2⟩ := core_loop b2' b3' b4' false b6' (Tab.eq tab (.arr 16 (.int .u32)) r7 c.A.R) b8' (!(c.Rob.l.any (badV c)))
      rw [hr1, bind_some']
      have : r.1 = z := Sl.ext (by rw [hr2, hz]; rfl)
      exact ⟨z, by rw [this], rfl, by rw [hz]; exact hlen ..⟩
theorem empties (c : TCore) (hc : LightC c) : ∃ b, F_core_Empty c = some b ∧ F_ref42_Empty c = some b := by
  obtain ⟨l1, l2, l3, l4, l5, l6, l7⟩ := hc
  have hz : ∀ {b : Nat} {α : Type} (s : Sl b α), s.l.length ≤ 1000 → W.eq (Sl.len s) (W.of .i64 0) = decide (s.l.length = 0) := fun s hs => by
    rw [Sl.len_wi, wi_zero, wi_eq (sm hs) (by omega)]
  unfold F_core_Empty T_core_Empty F_ref42_Empty T_ref42_Empty
  simp only [ev_ite, ev_ret, hz c.Queue (by omega), hz c.Rob (by omega), hz c.Iq (by omega), hz c.Lq (by omega), hz c.Sq (by omega), hz c.Sb (by omega), hz c.Units (by omega)]
  simp only [Sl.len_wi]
  rw [add_wi (by omega) (by omega), add_wi (by omega) (by omega), add_wi (by omega) (by omega), add_wi (by omega) (by omega), add_wi (by omega) (by omega), add_wi (by omega) (by omega), wi_zero, wi_eq (sm (by omega)) (sm (by omega))]
  refine ⟨_, rfl, ?_⟩
  by_cases h1 : c.Queue.l.length = 0
  · by_cases h2 : c.Rob.l.length = 0
    · by_cases h3 : c.Iq.l.length = 0
      · by_cases h4 : c.Lq.l.length = 0
        · by_cases h5 : c.Sq.l.length = 0
          · by_cases h6 : c.Sb.l.length = 0
            · simp [h1, h2, h3, h4, h5, h6]
            · simp [h1, h2, h3, h4, h5, h6]
          · simp [h1, h2, h3, h4, h5]
        · simp [h1, h2, h3, h4]
      · simp [h1, h2, h3]
    · simp [h1, h2]
  · simp [h1]
theorem coreBreaks (c : TCore) : F_law42_CoreBreaks c = some true := by
  unfold F_law42_CoreBreaks T_law42_CoreBreaks
  obtain ⟨b, h1, h2⟩ := light_of c
  simp only [ev_opt, ev_ite, ev_ret, h1, bind_some', awake42]
  cases b with
  | false => rfl
  | true =>
    obtain ⟨r, e1, e2, e3⟩ := broken_same c (h2 rfl)
    obtain ⟨b, e4, e5⟩ := empties c (h2 rfl)
    have e6 : Tab.eq tab (.named .TArch) c.A c.A = true := (eq_iff (X := tab) tabOk (by rfl)).2 rfl
    simp only [Bool.not_true, Bool.false_eq_true, if_false, e1, e2, bind_some', self_same_Ints r (show r.l.length < 1048576 by omega), if_true, e4, e5, beqB_self, show F_core_Arch c = some c.A from rfl, e6]
end Go.Proofs.Ytdafegdnjedohaa
