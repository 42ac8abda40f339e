/- YtdafegdnjedohaaGreatPureMakes: the law CoreMakes in plain terms. No statement of the seat is proved here. -/
import Derived.Test.YtdafegdnjedohaaGreatNews
import Derived.Test.YtdafegdnjedohaaGreatSame
import Derived.Test.YtdafegdnjedohaaGreatAwake
set_option maxRecDepth 100000
namespace Go.Proofs.YtdafegdnjedohaaGreat
open Go Go.A2
/-- A core that is small is the same as itself. -/
theorem same_core (a : TCore) (h1 : a.Shadow.l.length < fuel) (h2 : a.Out.l.length < fuel) (h3 : a.Pred.Table.l.length < fuel) (h4 : a.Pred.Btb.l.length < fuel) (h5 : a.Pred.Ras.l.length < fuel) (h6 : a.Tlb.l.length < fuel) (h7 : a.Queue.l.length < fuel)
    (h8 : a.Names.Free.Ring.l.length < fuel) (h9 : a.Phys.Val.l.length < fuel) (h10 : a.Phys.Ready.l.length < fuel) (h11 : a.Rob.l.length < fuel) (h12 : a.Iq.l.length < fuel) (h13 : a.Lq.l.length < fuel) (h14 : a.Sq.l.length < fuel) (h15 : a.Sb.l.length < fuel) (h16 : a.Units.l.length < fuel) (h17 : a.Dep.l.length < fuel) :
    F_same_Core a a = some true := by
  have e1 : Tab.eq tab (.named .TConf) a.Conf a.Conf = true := (eq_iff (X := tab) tabOk (by rfl)).2 rfl
  have e2 : Tab.eq tab (.named .TArch) a.A a.A = true := (eq_iff (X := tab) tabOk (by rfl)).2 rfl
  have e3 : Tab.eq tab (.arr 16 (.int .i64)) a.Names.Map a.Names.Map = true := (eq_iff (X := tab) tabOk (by rfl)).2 rfl
  have e4 : Tab.eq tab (.arr 16 (.int .i64)) a.Names.Done a.Names.Done = true := (eq_iff (X := tab) tabOk (by rfl)).2 rfl
  unfold F_same_Core T_same_Core F_same_Pred T_same_Pred F_same_Rename T_same_Rename F_same_Free T_same_Free F_same_Phys T_same_Phys
  simp only [ev_opt, ev_ite, ev_ret, e1, e2, e3, e4, W.ne_self, W.eq_self, beqB_self, Bool.not_true, Bool.false_eq_true, if_false, if_true, bind_some', self_same_Bytes _ h1, self_same_Words _ h2, self_same_Bytes _ h3, self_same_Btbs _ h4, self_same_Words _ h5, self_same_Tlbs _ h6, self_same_Slots _ h7, self_same_Ints _ h8, self_same_Words _ h9, self_same_Bools _ h10,
    self_same_Robs _ h11, self_same_Iqs _ h12, self_same_Lqs _ h13, self_same_Sqs _ h14, self_same_Sbs _ h15, self_same_Flights _ h16, self_same_Bytes _ h17]
theorem empty_same (a : TCore) (h7 : a.Queue.l = []) (h11 : a.Rob.l = []) (h12 : a.Iq.l = []) (h13 : a.Lq.l = []) (h14 : a.Sq.l = []) (h15 : a.Sb.l = []) (h16 : a.Units.l = []) : F_core_Empty a = some true ∧ F_ref42_Empty a = some true := by
  have z : ∀ {b : Nat} {α : Type} (s : Sl b α), s.l = [] → Sl.len s = W.of .i64 0 := fun s hs => W.ext (by rw [Sl.len_n, hs]; rfl)
  constructor
  · unfold F_core_Empty T_core_Empty
    rw [ev_ret, z _ h7, z _ h11, z _ h12, z _ h13, z _ h14, z _ h15, z _ h16]
    rfl
  · unfold F_ref42_Empty T_ref42_Empty
    rw [z _ h7, z _ h11, z _ h12, z _ h13, z _ h14, z _ h15, z _ h16]
    rfl
theorem small_len {b : Nat} {α : Type} {s : Sl b α} {n : Nat} (h : W.gt (Sl.len s) (wi n) = false) (hn : n ≤ 100000) : s.l.length < fuel := by
  have : ¬ (Sl.len s).n > (wi n).n := fun hh => by rw [← W.gt_n] at hh; rw [h] at hh; cases hh
  rw [Sl.len_n, wi_n (by unfold room; omega)] at this
  show s.l.length < 1048576
  omega
theorem coreMakes (c : TConf) (m : TMach) : F_law42_CoreMakes c m = some true := by
  unfold F_law42_CoreMakes T_law42_CoreMakes
  simp only [ev_opt, ev_ite, ev_ret, awake42, bind_some']
  cases g1 : W.gt (Sl.len m.Mem) (W.of .i64 2048) with
  | true => rfl
  | false =>
    cases g2 : W.gt (Sl.len m.Shadow) (W.of .i64 2048) with
    | true => rfl
    | false =>
      cases g3 : W.gt (Sl.len m.Out) (W.of .i64 60) with
      | true => rfl
      | false =>
        simp only [Bool.false_eq_true, if_false]
        have hsh := small_len (n := 2048) g2 (by omega)
        have hou := small_len (n := 60) g3 (by omega)
        have key : ∃ x e, F_core_New c m = some (x, e) ∧ F_ref42_New c m = some (x, e) ∧ F_same_Core x x = some true ∧ F_core_Empty x = some true ∧ F_ref42_Empty x = some true := by
          have z0 : (0 : Nat) < fuel := by decide
          rcases new_same c m with ⟨h1, h2, _⟩ | ⟨h1, h2, _⟩ | ⟨pr, tl, nm, ph, dp, kp, kh, kb, kr, kt, kd, h1, h2, _, _, _, _, lp, _, n3, v1, v2, lh, t1, lb, t2, lr, t3, _, lt, t4, _, ld, t5, _⟩
          · exact ⟨_, _, h1, h2, same_core _ z0 z0 z0 z0 z0 z0 z0 z0 z0 z0 z0 z0 z0 z0 z0 z0 z0, empty_same _ rfl rfl rfl rfl rfl rfl rfl⟩
          · exact ⟨_, _, h1, h2, same_core _ z0 z0 z0 z0 z0 z0 z0 z0 z0 z0 z0 z0 z0 z0 z0 z0 z0, empty_same _ rfl rfl rfl rfl rfl rfl rfl⟩
          · have hf : fuel = 1048576 := rfl
            have h2k : 2 ^ kh ≤ 2 ^ 8 := Nat.pow_le_pow_right (by omega) lh
            refine ⟨_, _, h1, h2, same_core _ hsh hou ?_ ?_ ?_ ?_ z0 ?_ ?_ ?_ z0 z0 z0 z0 z0 z0 ?_, empty_same _ rfl rfl rfl rfl rfl rfl rfl⟩
            · show pr.Table.l.length < fuel; rw [t1]; omega
            · show pr.Btb.l.length < fuel; omega
            · show pr.Ras.l.length < fuel; omega
            · show tl.l.length < fuel; omega
            · show nm.Free.Ring.l.length < fuel; omega
            · show ph.Val.l.length < fuel; omega
            · show ph.Ready.l.length < fuel; omega
            · show dp.l.length < fuel; omega
        obtain ⟨x, e, h1, h2, h3, h4, h5⟩ := key
        have ha : F_core_Arch x = some x.A := rfl
        have hx : Tab.eq tab (.named .TArch) x.A x.A = true := (eq_iff (X := tab) tabOk (by rfl)).2 rfl
        simp only [h1, h2, bind_some', h3, if_true, W.eq_self, ha, hx, h4, h5, beqB_self]
end Go.Proofs.YtdafegdnjedohaaGreat
