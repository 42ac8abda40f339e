/- YtdafegdnjedohaaBreak1: rules 1, 4 and 5 of a core. No statement of the seat is proved here. -/
import Derived.Test.YtdafegdnjedohaaConf
import Derived.Test.YtdafegdnjedohaaHas
import Derived.Test.YtdafegdnjedohaaA2F
set_option maxRecDepth 100000
namespace Go.Proofs.Ytdafegdnjedohaa
open Go Go.A2
theorem rooms_same (c : TCore) : ∃ b, F_core_rooms c = some b ∧ F_ref42_rooms c = some b ∧ (b = true → okConf c.Conf = true) := by
  have hd3 : W.ne (W.of .i64 3) (W.of .i64 0) = true := rfl
  have hd0 : W.ne (W.of .i64 0) (W.of .i64 0) = false := rfl
  have he3 : W.eq (W.of .i64 3) (W.of .i64 0) = false := rfl
  have he0 : W.eq (W.of .i64 0) (W.of .i64 0) = true := rfl
  unfold F_core_rooms T_core_rooms F_ref42_rooms T_ref42_rooms
  simp only [ev_opt, ev_ite, ev_ret, core_conf, ref_conf, bind_some', W.le_gt]
  cases okConf c.Conf with
  | false => exact ⟨false, by simp only [Bool.false_eq_true, if_false, hd3, if_true], by simp only [Bool.false_eq_true, if_false, he3], fun h => by cases h⟩
  | true =>
    simp only [if_true, hd0, he0, Bool.false_eq_true, if_false]
    generalize W.gt (Sl.len c.Queue) c.Conf.Queue = g1
    generalize W.gt (Sl.len c.Rob) c.Conf.Rob = g2
    generalize W.gt (Sl.len c.Iq) c.Conf.Iq = g3
    generalize W.gt (Sl.len c.Lq) c.Conf.Lq = g4
    generalize W.gt (Sl.len c.Sq) c.Conf.Sq = g5
    generalize W.gt (Sl.len c.Sb) c.Conf.Sb = g6
    cases g1 <;> first | exact ⟨_, rfl, rfl, fun _ => by trivial⟩ | skip
    cases g2 <;> first | exact ⟨_, rfl, rfl, fun _ => by trivial⟩ | skip
    cases g3 <;> first | exact ⟨_, rfl, rfl, fun _ => by trivial⟩ | skip
    cases g4 <;> first | exact ⟨_, rfl, rfl, fun _ => by trivial⟩ | skip
    cases g5 <;> first | exact ⟨_, rfl, rfl, fun _ => by trivial⟩ | skip
    cases g6 <;> first | exact ⟨_, rfl, rfl, fun _ => by trivial⟩ | skip
    cases W.eq (Sl.len c.Phys.Val) c.Conf.Phys <;> first | exact ⟨_, rfl, rfl, fun _ => by trivial⟩ | skip
    cases W.eq (Sl.len c.Phys.Ready) c.Conf.Phys <;> first | exact ⟨_, rfl, rfl, fun _ => by trivial⟩ | skip
    cases W.eq (Sl.len c.Tlb) c.Conf.Tlb <;> exact ⟨_, rfl, rfl, fun _ => by trivial⟩
/-- Does a part wait in the buffer? -/
noncomputable def waitsB (c : TCore) (r : TRen) : Bool := c.Rob.l.any fun e => Tab.eq tab (.named .TRen) e.Ren r && !e.Done
theorem core_waits (c : TCore) (r : TRen) (h : c.Rob.l.length < fuel) : F_core_waits c r = some (waitsB c r) := by
  have hp : ∀ e ∈ c.Rob.l, F_core_waits_1 e r = some (Tab.eq tab (.named .TRen) e.Ren r && !e.Done) := fun e _ => by
    unfold F_core_waits_1 T_core_waits_1
    rw [ev_ite]
    cases Tab.eq tab (.named .TRen) e.Ren r <;> rfl
  unfold F_core_waits T_core_waits
  simp only [ev_opt, ev_ret, has_Rob_of_core_waits_1 c.Rob r _ hp h, bind_some']
  rfl
theorem ref_waits (c : TCore) (r : TRen) (h : c.Rob.l.length < fuel) : F_ref42_waits c r = some (waitsB c r) := by
  have key : L_ref42_waits_5 (c, r, wi 0, ()) = some (if (List.range c.Rob.l.length).all (fun i => !(Tab.eq tab (.named .TRen) (nth c.Rob.l i).Ren r && !(nth c.Rob.l i).Done)) = true then .inr ((), ()) else .inl (true, ())) := by
    unfold L_ref42_waits_5
    refine iter_chk (fun i => (c, r, wi i, ())) c.Rob.l.length _ _ _ (fun i hi _ => ?_) (fun _ => ?_) h
    · simp only [B_ref42_waits_5, ev_ite, ev_opt, ev_ret, lt_len c.Rob hi, if_true, Sl.get_wi c.Rob hi, bind_some', wi_next c.Rob hi]
      cases Tab.eq tab (.named .TRen) (nth c.Rob.l i).Ren r <;> cases (nth c.Rob.l i).Done <;> rfl
    · simp only [B_ref42_waits_5, ev_ite, ev_ret, lt_end c.Rob]
      rfl
  have hw : waitsB c r = !((List.range c.Rob.l.length).all (fun i => !(Tab.eq tab (.named .TRen) (nth c.Rob.l i).Ren r && !(nth c.Rob.l i).Done))) := by
    unfold waitsB
    refine iff_bool ?_
    rw [List.any_eq_true, Bool.not_eq_true', List.all_eq_false]
    constructor
    · rintro ⟨x, hx, h⟩
      obtain ⟨i, hi, rfl⟩ := mem_nth hx
      exact ⟨i, List.mem_range.2 hi, by simp [h]⟩
    · rintro ⟨i, hi, h⟩
      exact ⟨_, nth_mem (List.mem_range.1 hi), by simpa using h⟩
  unfold F_ref42_waits T_ref42_waits
  rw [hw]
  simp only [ev_opt, wi_zero, key, bind_some', ev_sum]
  cases (List.range c.Rob.l.length).all (fun i => !(Tab.eq tab (.named .TRen) (nth c.Rob.l i).Ren r && !(nth c.Rob.l i).Done)) <;> rfl
end Go.Proofs.Ytdafegdnjedohaa
