/- YtdafegdnjedohaaPureNew: the law CoreNew in plain terms. No statement of the seat is proved here. -/
import Derived.Test.YtdafegdnjedohaaFresh
import Derived.Test.YtdafegdnjedohaaSame
import Derived.Test.YtdafegdnjedohaaAwake
set_option maxRecDepth 100000
namespace Go.Proofs.Ytdafegdnjedohaa
open Go Go.A2
/-- A core that is not made. -/
noncomputable def zeroCore : TCore := (TCore.mk (TConf.mk (W.of .i64 0) (W.of .i64 0) (W.of .i64 0) (W.of .i64 0) (W.of .i64 0) (W.of .i64 0) (W.of .i64 0) (W.of .i64 0) (W.of .i64 0) (W.of .i64 0) (W.of .i64 0) (W.of .i64 0) (W.of .i64 0) (W.of .i64 0) (W.of .i64 0) (W.of .i64 0) (W.of .i64 0) (W.of .i64 0) (W.of .i64 0) (W.of .i64 0) (W.of .i64 0) false) (TArch.mk (W.of .u32 0) (Arr.rep 16 (W.of .u32 0) : Arr 16 (W .u32)) (Arr.rep 12 (W.of .u32 0) : Arr 12 (W .u32)) false) (Sl.nil : Sl 1 (W .u8)) (Sl.nil : Sl 4 (W .u32)) (W.of .u32 0) false (TPred.mk (W.of .u32 0) (Sl.nil : Sl 1 (W .u8)) (Sl.nil : Sl 16 (TBtb)) (W.of .i64 0) (Sl.nil : Sl 4 (W .u32)) (W.of .i64 0)) (Sl.nil : Sl 24 (TTlb)) (W.of .i64 0) (Sl.nil : Sl 56 (TSlot)) (TNames.mk (Arr.rep 16 (W.of .i64 0) : Arr 16 (W .i64)) (Arr.rep 16 (W.of .i64 0) : Arr 16 (W .i64)) (TFree.mk (Sl.nil : Sl 8 (W .i64)) (W.of .i64 0) (W.of .i64 0)) (W.of .u64 0)) (TPhys.mk (Sl.nil : Sl 4 (W .u32)) (Sl.nil : Sl 1 (Bool))) (Sl.nil : Sl 248 (TRob)) (Sl.nil : Sl 224 (TIq)) (Sl.nil : Sl 48 (TLq)) (Sl.nil : Sl 32 (TSq)) (Sl.nil : Sl 16 (TSb)) (Sl.nil : Sl 256 (TFlight)) (Sl.nil : Sl 1 (W .u8)) (W.of .i64 0) (W.of .i64 0))
noncomputable def freshCore (c : TConf) (m : TMach) (pr : TPred) (tl : Sl 24 TTlb) (nm : TNames) (ph : TPhys) (dp : Sl 1 (W .u8)) : TCore :=
  TCore.mk c m.A m.Shadow m.Out m.A.PC false pr tl (W.of .i64 0) (Sl.nil : Sl 56 (TSlot)) nm ph (Sl.nil : Sl 248 (TRob)) (Sl.nil : Sl 224 (TIq)) (Sl.nil : Sl 48 (TLq)) (Sl.nil : Sl 32 (TSq)) (Sl.nil : Sl 16 (TSb)) (Sl.nil : Sl 256 (TFlight)) dp (W.of .i64 0) (W.of .i64 0)
theorem pred_ok {c : TConf} {kh kb kr : Nat} (h1 : c.Hist = wi kh) (h1' : kh < 9) (h2 : c.Btb = wi kb) (h2' : kb < 17) (h3 : c.Ras = wi kr) (h3' : kr < 17) : ∃ p, F_pred_New c = some p := by
  obtain ⟨a1, p1, l1⟩ := lenIs_some (all_lt eHist_all h1')
  obtain ⟨a2, p2, l2⟩ := lenIs_some (all_lt eBtb_all h2')
  obtain ⟨a3, p3, l3⟩ := lenIs_some (all_lt eRas_all h3')
  refine ⟨TPred.mk (W.of .u32 0) a1 a2 (W.of .i64 0) a3 (W.of .i64 0), ?_⟩
  unfold F_pred_New T_pred_New
  simp only [ev_opt, ev_ret, h1, h2, h3, p1, p2, p3, bind_some']
theorem gt_nil {b : Nat} {α : Type} {n : W .i64} {lo hi : Nat} (h : inB n (wi lo) (wi hi) = true) (h1 : lo ≤ 1000 := by omega) (h2 : hi ≤ 1000 := by omega) : W.gt (Sl.len (Sl.nil : Sl b α)) n = false := by
  obtain ⟨k, rfl, _, hk⟩ := inB_wi h h1 h2
  have : ¬ W.gt (Sl.len (Sl.nil : Sl b α)) (wi k) = true := by
    rw [W.gt_n, wi_n (le_room (show k ≤ 1000 by omega)), Sl.len_n]
    show ¬ ((0 : Nat) : Int) > k
    omega
  simpa using this
theorem len_eq {b : Nat} {α : Type} {s : Sl b α} {k : Nat} (h : s.l.length = k) : W.eq (Sl.len s) (wi k) = true := by rw [Sl.len_wi, h]; exact W.eq_self _
section
variable (c : TConf) (m : TMach) (pr : TPred) (tl : Sl 24 TTlb) (nm : TNames) (ph : TPhys) (dp : Sl 1 (W .u8))
theorem fresh_queued : F_core_queued (freshCore c m pr tl nm ph dp) = some (Sl.nil, Sl.nil) := by kernel_rfl
theorem fresh_ordered : F_core_ordered (freshCore c m pr tl nm ph dp) = some true := by kernel_rfl
theorem fresh_rens : F_core_rens (freshCore c m pr tl nm ph dp) = some Sl.nil := by kernel_rfl
theorem fresh_flying : F_core_flying (freshCore c m pr tl nm ph dp) Sl.nil = some true := by kernel_rfl
theorem fresh_apart : F_core_apart Sl.nil Sl.nil = some true := by kernel_rfl
theorem fresh_memory : F_core_memory (freshCore c m pr tl nm ph dp) = some true := by kernel_rfl
theorem fresh_valued : F_core_valued (freshCore c m pr tl nm ph dp) = some true := by kernel_rfl
theorem fresh_empty : F_core_Empty (freshCore c m pr tl nm ph dp) = some true := by kernel_rfl
end
theorem all_true : L_core_Broken_15 ((Sl.nil : Sl 8 (W .i64)), (Sl.lit 1 [true, true, true, true, true, true, true, true] rfl : Sl 1 (Bool)), (W.of .i64 8), (W.of .i64 0), ()) = some (Sl.nil, ()) := by kernel_rfl
/-- A new core breaks no rule. -/
theorem new_ok (c : TConf) (m : TMach) (hok : okConf c = true) (hri : F_core_right m = some true) (hcl : F_core_clean m.A = some true) (h0 : m.A.R.get 0 = W.of .u32 0) :
    ∃ pr tl nm ph dp, F_core_New c m = some (freshCore c m pr tl nm ph dp, W.of .i64 0) ∧ F_core_Broken (freshCore c m pr tl nm ph dp) = some Sl.nil := by
  have hd0 : W.ne (W.of .i64 0) (W.of .i64 0) = false := rfl
  have hk := hok
  unfold okConf roomsB guessB at hk
  simp only [Bool.and_eq_true] at hk
  obtain ⟨⟨⟨_, ⟨⟨⟨⟨⟨⟨hq, hro⟩, hiq⟩, hlq⟩, hsq⟩, hsb⟩, hp⟩⟩, ⟨⟨⟨⟨hh, hbt⟩, hra⟩, hde⟩, htl⟩⟩, _⟩ := hk
  obtain ⟨kp, ep, lp, lp'⟩ := inB_wi (lo := 18) (hi := 96) hp
  obtain ⟨kh, eh, _, lh⟩ := inB_wi (lo := 0) (hi := 8) hh
  obtain ⟨kb, eb, _, lb⟩ := inB_wi (lo := 0) (hi := 16) hbt
  obtain ⟨kr, er, _, lr⟩ := inB_wi (lo := 0) (hi := 16) hra
  obtain ⟨kd, ed, _, ld⟩ := inB_wi (lo := 0) (hi := 16) hde
  obtain ⟨kt, et, _, lt⟩ := inB_wi (lo := 0) (hi := 8) htl
  obtain ⟨pr, p1⟩ := pred_ok eh (by omega) eb (by omega) er (by omega)
  obtain ⟨tl, t1, t2⟩ := lenIs_some (all_lt eTlb_all (show kt < 9 by omega))
  obtain ⟨dp, d1, d2⟩ := lenIs_some (all_lt eDep_all (show kd < 17 by omega))
  obtain ⟨nm, n1, n2, n3, n4⟩ := names_ok lp (show kp < 97 by omega)
  obtain ⟨ph0, f1, f2, f3⟩ := phys_ok (show kp < 97 by omega)
  have hrdy : ph0.Ready.l.length = ph0.Val.l.length := by rw [f2, f3, List.length_replicate]
  obtain ⟨z', ph, g1, g2, g3, g4, g5⟩ := puts_ok m zeroCore (freshCore c m pr tl nm ph0 dp) (by show 18 ≤ ph0.Val.l.length; omega) hrdy (fun i b hb => by
    have hb : ph0.Ready.l[i]? = some b := hb
    rw [f2, List.getElem?_replicate] at hb
    split at hb
    · cases hb; rfl
    · cases hb)
  have g2 : ph.Val.l.length = kp := g2.trans f3
  have g3 : ph.Ready.l.length = kp := g3.trans f3
  refine ⟨pr, tl, nm, ph, dp, ?_, ?_⟩
  · unfold F_core_New T_core_New
    simp only [ev_opt, ev_ite, ev_ret, core_conf, hok, bind_some', if_true, hd0, Bool.false_eq_true, if_false, hri, Bool.not_true, p1, et, t1, ed, d1, ep, n1, f1]
    unfold F_step_Copy T_step_Copy
    rw [ev_ret, bind_some']
    exact (congrArg (fun o => Option.bind o fun o11 : TCore × TCore × Unit => some (o11.2.1, W.of .i64 0)) g1)
  · have hrooms : F_core_rooms (freshCore c m pr tl nm ph dp) = some true := by
      unfold F_core_rooms T_core_rooms freshCore
      simp only [ev_opt, ev_ite, ev_ret, core_conf, hok, bind_some', if_true, hd0, Bool.false_eq_true, if_false, gt_nil (lo := 1) (hi := 16) hq, gt_nil (lo := 2) (hi := 64) hro, gt_nil (lo := 2) (hi := 32) hiq, gt_nil (lo := 1) (hi := 16) hlq, gt_nil (lo := 1) (hi := 16) hsq, gt_nil (lo := 1) (hi := 8) hsb, ep, et, ed, len_eq g2, len_eq g3, len_eq t2, len_eq d2]
    have hview : F_prf_View ph nm.Done = some m.A.R := view_ok n2 g5 (g3.trans g2.symm) g4 h0
    have hname : F_rename_Right nm c.Phys Sl.nil = some true := by rw [ep]; exact n4
    have heq : Tab.eq tab (.arr 16 (.int .u32)) m.A.R m.A.R = true := (eq_iff (X := tab) tabOk (by rfl)).2 rfl
    unfold F_core_Broken T_core_Broken
    simp only [ev_opt, ev_ite, ev_ret, hrooms, bind_some', Bool.not_true, Bool.false_eq_true, if_false, if_true, fresh_queued, fresh_ordered, fresh_rens, fresh_flying, fresh_apart, fresh_memory, fresh_valued]
    have e1 : F_rename_Right (freshCore c m pr tl nm ph dp).Names (freshCore c m pr tl nm ph dp).Conf.Phys Sl.nil = some true := hname
    have e2 : F_prf_View (freshCore c m pr tl nm ph dp).Phys (freshCore c m pr tl nm ph dp).Names.Done = some m.A.R := hview
    have e3 : F_core_clean (freshCore c m pr tl nm ph dp).A = some true := hcl
    have e4 : Tab.eq tab (.arr 16 (.int .u32)) m.A.R (freshCore c m pr tl nm ph dp).A.R = true := heq
    simp only [e1, e2, e3, bind_some', e4, all_true]
theorem le_small {b : Nat} {α : Type} {s : Sl b α} {n : Nat} (h : W.le (Sl.len s) (wi n) = true) (hn : n ≤ 100000) : s.l.length ≤ n := by
  rw [W.le_n, Sl.len_n, wi_n (by unfold room; omega)] at h
  omega
theorem coreNew (c : TConf) (m : TMach) : F_law42_CoreNew c m = some true := by
  unfold F_law42_CoreNew T_law42_CoreNew F_law15_Light T_law15_Light
  simp only [ev_opt, ev_ite, ev_ret, awake42, bind_some', ref_conf]
  obtain ⟨b, hb1, hb2⟩ := right_same m
  obtain ⟨cl, hc1, hc2⟩ := core_clean m.A
  cases g1 : W.le (Sl.len m.Mem) (W.of .i64 2048) with
  | false => rfl
  | true =>
    cases g2 : W.le (Sl.len m.Out) (W.of .i64 60) with
    | false => rfl
    | true =>
      simp only [if_true, hb2, bind_some']
      cases b with
      | false => rfl
      | true =>
        cases hok : okConf c with
        | false => rfl
        | true =>
          have hd0 : W.ne (W.of .i64 0) (W.of .i64 0) = false := rfl
          -- what is right is clean, and its shadow is as long as its memory
          have hr := hb1
          unfold F_core_right T_core_right at hr
          simp only [ev_opt, ev_ite, ev_ret, hc1, bind_some'] at hr
          split at hr
          · cases hr
          · split at hr
            · cases hr
            · split at hr
              · cases hr
              · split at hr
                · cases hr
                · rename_i hsh
                  simp only [Option.some.injEq] at hr
                  subst hr
                  obtain ⟨_, h0⟩ := hc2.1 rfl
                  obtain ⟨pr, tl, nm, ph, dp, k1, k2⟩ := new_ok c m hok hb1 hc1 (W.eq_iff.1 h0)
                  have hml := le_small (n := 2048) g1 (by omega)
                  have hol := le_small (n := 60) g2 (by omega)
                  have hsl : m.Shadow.l.length = m.Mem.l.length := by
                    have : ¬ (Sl.len m.Shadow).n ≠ (Sl.len m.Mem).n := fun hh => hsh (W.ne_n.2 hh)
                    rw [Sl.len_n, Sl.len_n] at this
                    omega
                  have e1 : F_same_Bytes m.Shadow m.Shadow = some true := self_same_Bytes _ (by show _ < 1048576; omega)
                  have e2 : F_same_Words m.Out m.Out = some true := self_same_Words _ (by show _ < 1048576; omega)
                  have e3 : Tab.eq tab (.named .TArch) m.A m.A = true := (eq_iff (X := tab) tabOk (by rfl)).2 rfl
                  have e4 : F_core_Arch (freshCore c m pr tl nm ph dp) = some m.A := rfl
                  have e5 : W.eq (Sl.len (Sl.nil : Sl 8 (W .i64))) (W.of .i64 0) = true := rfl
                  have e6 : F_same_Bytes (freshCore c m pr tl nm ph dp).Shadow m.Shadow = some true := e1
                  have e7 : F_same_Words (freshCore c m pr tl nm ph dp).Out m.Out = some true := e2
                  have e8 : W.eq (freshCore c m pr tl nm ph dp).PC m.A.PC = true := W.eq_self _
                  have e9 : (freshCore c m pr tl nm ph dp).Hold = false := rfl
                  simp only [Bool.not_true, Bool.false_eq_true, if_false, if_true, hd0, k1, bind_some', W.eq_self, k2, e5, fresh_empty, e4, e3, e6, e7, e8, e9, Bool.not_false]
end Go.Proofs.Ytdafegdnjedohaa
