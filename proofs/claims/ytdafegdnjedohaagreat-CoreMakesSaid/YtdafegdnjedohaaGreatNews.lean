/- YtdafegdnjedohaaGreatNews: new cores, by the program and by the document. No statement of the seat is proved here. -/
import Derived.Test.YtdafegdnjedohaaGreatConf
import Derived.Test.YtdafegdnjedohaaGreatRight
set_option maxRecDepth 100000
namespace Go.Proofs.YtdafegdnjedohaaGreat
open Go Go.A2
theorem inB_wi {n : W .i64} {lo hi : Nat} (h : inB n (wi lo) (wi hi) = true) (h1 : lo ≤ 1000 := by omega) (h2 : hi ≤ 1000 := by omega) : ∃ k, n = wi k ∧ lo ≤ k ∧ k ≤ hi := by
  unfold inB at h
  rw [Bool.and_eq_true, W.ge_n, W.le_n, wi_n (by unfold room; omega), wi_n (by unfold room; omega)] at h
  exact wi_of h.1 h.2
noncomputable def eHist (k : Nat) : Bool := sameSl (F_pht_New (wi k)) (F_ref18_New (W.min (W.max (wi k) (W.of .i64 0)) (W.of .i64 8))) (2 ^ k)
theorem eHist_all : (List.range 9).all eHist = true := by kernel_rfl
noncomputable def eBtb (k : Nat) : Bool := sameSl (F_btb_New (wi k)) (F_ref19_New (wi k)) k
theorem eBtb_all : (List.range 17).all eBtb = true := by kernel_rfl
noncomputable def eRas (k : Nat) : Bool := sameSl (F_ras_New (wi k)) (F_ref20_New (wi k)) k
theorem eRas_all : (List.range 17).all eRas = true := by kernel_rfl
noncomputable def eDep (k : Nat) : Bool := sameSl (F_dep_New (wi k)) (F_ref36_New (wi k)) k
theorem eDep_all : (List.range 17).all eDep = true := by kernel_rfl
noncomputable def eTlb (k : Nat) : Bool := sameSl (F_tlb_New (wi k)) (F_ref22_New (wi k)) k
theorem eTlb_all : (List.range 9).all eTlb = true := by kernel_rfl
noncomputable def eNames (k : Nat) : Bool := match F_rename_New (wi k), F_ref28_New (wi k) with
  | some a, some b => decide (a.Map = b.Map) && (decide (a.Done = b.Done) && (decide (a.Free.Ring.l = b.Free.Ring.l) && (decide (a.Free.Head = b.Free.Head) && (decide (a.Free.N = b.Free.N) && (decide (a.Seq = b.Seq) && Nat.beq a.Free.Ring.l.length k)))))
  | _, _ => false
theorem eNames_all : (List.range 97).all eNames = true := by kernel_rfl
noncomputable def ePhys (k : Nat) : Bool := match F_prf_New (wi k), F_ref27_New (wi k) with
  | some a, some b => decide (a.Val.l = b.Val.l) && (decide (a.Ready.l = b.Ready.l) && (Nat.beq a.Val.l.length k && Nat.beq a.Ready.l.length k))
  | _, _ => false
theorem ePhys_all : (List.range 97).all ePhys = true := by kernel_rfl
theorem names_same {k : Nat} (h : k < 97) : ∃ a, F_rename_New (wi k) = some a ∧ F_ref28_New (wi k) = some a ∧ a.Free.Ring.l.length = k := by
  have := all_lt eNames_all h
  unfold eNames at this
  split at this
  · rename_i a b h1 h2
    simp only [Bool.and_eq_true, decide_eq_true_eq] at this
    obtain ⟨q1, q2, q3, q4, q5, q6, q7⟩ := this
    refine ⟨a, h1, ?_, Nat.eq_of_beq_eq_true q7⟩
    rw [h2]
    clear h1 h2
    obtain ⟨am, ad, ⟨ar, ah, an⟩, asq⟩ := a
    obtain ⟨bm, bd, ⟨br, bh, bn⟩, bsq⟩ := b
    simp only at q1 q2 q3 q4 q5 q6
    subst q1 q2 q4 q5 q6
    rw [Sl.ext q3]
  · cases this
theorem phys_same {k : Nat} (h : k < 97) : ∃ a, F_prf_New (wi k) = some a ∧ F_ref27_New (wi k) = some a ∧ a.Val.l.length = k ∧ a.Ready.l.length = k := by
  have := all_lt ePhys_all h
  unfold ePhys at this
  split at this
  · rename_i a b h1 h2
    simp only [Bool.and_eq_true, decide_eq_true_eq] at this
    obtain ⟨q1, q2, q3, q4⟩ := this
    refine ⟨a, h1, ?_, Nat.eq_of_beq_eq_true q3, Nat.eq_of_beq_eq_true q4⟩
    rw [h2]
    clear h1 h2
    obtain ⟨av, ar⟩ := a
    obtain ⟨bv, br⟩ := b
    simp only at q1 q2
    rw [Sl.ext q1, Sl.ext q2]
  · cases this
theorem put_same (f : TPhys) (p : W .i64) (v : W .u32) : F_prf_Put f p v = F_ref27_Put f p v := rfl
theorem put_ok (f : TPhys) (p : W .i64) (v : W .u32) : ∃ g, F_prf_Put f p v = some g ∧ g.Val.l.length = f.Val.l.length ∧ g.Ready.l.length = f.Ready.l.length := by
  unfold F_prf_Put T_prf_Put F_prf_has T_prf_has F_slices_Clone_uint32 F_slices_Clone_bool
  simp only [ev_opt, ev_ite, ev_ret, bind_some']
  by_cases h1 : W.ge p (W.of .i64 0) = true
  · by_cases h2 : W.lt p (Sl.len f.Val) = true
    · rw [if_pos h1, if_pos h2]
      by_cases h3 : W.lt p (Sl.len f.Ready) = true
      · simp only [bind_some', h3, if_true]
        rw [W.ge_n] at h1
        rw [W.lt_n, Sl.len_n] at h2 h3
        have h0 : (W.of .i64 0).n = 0 := rfl
        rw [h0] at h1
        rw [idx?_some ⟨h1, h2⟩, idx?_some ⟨h1, h3⟩]
        exact ⟨_, rfl, by simp [Sl.set], by simp [Sl.set]⟩
      · rw [Bool.not_eq_true] at h3
        simp only [bind_some', h3, Bool.false_eq_true, if_false]
        exact ⟨_, rfl, rfl, rfl⟩
    · rw [if_pos h1, if_neg h2]
      exact ⟨_, rfl, rfl, rfl⟩
  · rw [if_neg h1]
    exact ⟨_, rfl, rfl, rfl⟩
theorem puts_same (a : TMach × TCore × TCore × W .i64 × Unit) : L_core_New_27 a = L_ref42_New_29 a := by
  unfold L_core_New_27 L_ref42_New_29
  exact iter_congr (fun a => rfl) _ _
/-- The registers of a new core. -/
theorem puts_ok (m : TMach) (z k : TCore) : ∃ z' p, L_core_New_27 (m, z, k, W.of .i64 1, ()) = some (z', { k with Phys := p }, ()) ∧ p.Val.l.length = k.Phys.Val.l.length ∧ p.Ready.l.length = k.Phys.Ready.l.length := by
  unfold L_core_New_27
  have := iter_inv (f := fun a : TMach × TCore × TCore × W .i64 × Unit => (B_core_New_27 a.1 a.2.1 a.2.2.1 a.2.2.2.1).eval)
    (fun a => a.1 = m ∧ (∃ p, a.2.2.1 = { k with Phys := p } ∧ p.Val.l.length = k.Phys.Val.l.length ∧ p.Ready.l.length = k.Phys.Ready.l.length) ∧ ∃ n, a.2.2.2.1 = wi n ∧ n ≤ 16) (fun a => 16 - a.2.2.2.1.n.toNat)
    (fun b => ∃ p, b.2.1 = { k with Phys := p } ∧ p.Val.l.length = k.Phys.Val.l.length ∧ p.Ready.l.length = k.Phys.Ready.l.length) ?_ (n := fuel) (a := (m, z, k, W.of .i64 1, ())) ⟨rfl, ⟨k.Phys, rfl, rfl, rfl⟩, 1, rfl, by omega⟩ (by show 16 - _ < 1048576; omega)
  · obtain ⟨⟨z', k', u⟩, h1, p, h2, h3, h4⟩ := this
    simp only at h2
    subst h2
    exact ⟨z', p, h1, h3, h4⟩
  · rintro ⟨m', z', k', r, u⟩ ⟨rfl, ⟨p, hk, hv, hr⟩, n, hn, hle⟩
    simp only at hk hn hle
    subst hk hn
    have hnr := le_room hle
    simp only [B_core_New_27, ev_ite, ev_opt, ev_ret]
    by_cases h16 : n < 16
    · left
      rw [show W.lt (wi n) (W.of .i64 16) = true from (wi_lt hnr (le_room (Nat.le_refl 16))).trans (by simpa using h16), if_pos rfl, wi_idx hnr, if_pos h16]
      simp only [bind_some', wi_add (show n < room by unfold room; omega)]
      obtain ⟨g, h1, h2, h3⟩ := put_ok p (wi n) (m'.A.R.get n)
      rw [h1]
      refine ⟨_, rfl, ⟨rfl, ⟨g, rfl, h2.trans hv, h3.trans hr⟩, n + 1, rfl, by omega⟩, ?_⟩
      simp only
      rw [wi_n (le_room (show n + 1 ≤ 16 by omega)), wi_n hnr]
      omega
    · right
      rw [show W.lt (wi n) (W.of .i64 16) = false from (wi_lt hnr (le_room (Nat.le_refl 16))).trans (by simpa using h16)]
      exact ⟨_, rfl, p, rfl, hv, hr⟩
/-- A core that is not made. -/
noncomputable def zeroCore : TCore := (TCore.mk (TConf.mk (W.of .i64 0) (W.of .i64 0) (W.of .i64 0) (W.of .i64 0) (W.of .i64 0) (W.of .i64 0) (W.of .i64 0) (W.of .i64 0) (W.of .i64 0) (W.of .i64 0) (W.of .i64 0) (W.of .i64 0) (W.of .i64 0) (W.of .i64 0) (W.of .i64 0) (W.of .i64 0) (W.of .i64 0) (W.of .i64 0) (W.of .i64 0) (W.of .i64 0) (W.of .i64 0) false) (TArch.mk (W.of .u32 0) (Arr.rep 16 (W.of .u32 0) : Arr 16 (W .u32)) (Arr.rep 12 (W.of .u32 0) : Arr 12 (W .u32)) false) (Sl.nil : Sl 1 (W .u8)) (Sl.nil : Sl 4 (W .u32)) (W.of .u32 0) false (TPred.mk (W.of .u32 0) (Sl.nil : Sl 1 (W .u8)) (Sl.nil : Sl 16 (TBtb)) (W.of .i64 0) (Sl.nil : Sl 4 (W .u32)) (W.of .i64 0)) (Sl.nil : Sl 24 (TTlb)) (W.of .i64 0) (Sl.nil : Sl 56 (TSlot)) (TNames.mk (Arr.rep 16 (W.of .i64 0) : Arr 16 (W .i64)) (Arr.rep 16 (W.of .i64 0) : Arr 16 (W .i64)) (TFree.mk (Sl.nil : Sl 8 (W .i64)) (W.of .i64 0) (W.of .i64 0)) (W.of .u64 0)) (TPhys.mk (Sl.nil : Sl 4 (W .u32)) (Sl.nil : Sl 1 (Bool))) (Sl.nil : Sl 248 (TRob)) (Sl.nil : Sl 224 (TIq)) (Sl.nil : Sl 48 (TLq)) (Sl.nil : Sl 32 (TSq)) (Sl.nil : Sl 16 (TSb)) (Sl.nil : Sl 256 (TFlight)) (Sl.nil : Sl 1 (W .u8)) (W.of .i64 0) (W.of .i64 0))
noncomputable def freshCore (c : TConf) (m : TMach) (pr : TPred) (tl : Sl 24 TTlb) (nm : TNames) (ph : TPhys) (dp : Sl 1 (W .u8)) : TCore :=
  TCore.mk c m.A m.Shadow m.Out m.A.PC false pr tl (W.of .i64 0) (Sl.nil : Sl 56 (TSlot)) nm ph (Sl.nil : Sl 248 (TRob)) (Sl.nil : Sl 224 (TIq)) (Sl.nil : Sl 48 (TLq)) (Sl.nil : Sl 32 (TSq)) (Sl.nil : Sl 16 (TSb)) (Sl.nil : Sl 256 (TFlight)) dp (W.of .i64 0) (W.of .i64 0)
theorem pred_same {c : TConf} {kh kb kr : Nat} (h1 : c.Hist = wi kh) (h1' : kh < 9) (h2 : c.Btb = wi kb) (h2' : kb < 17) (h3 : c.Ras = wi kr) (h3' : kr < 17) : ∃ p, F_pred_New c = some p ∧ F_ref21_New c = some p ∧ p.Table.l.length = 2 ^ kh ∧ p.Btb.l.length = kb ∧ p.Ras.l.length = kr := by
  obtain ⟨a1, p1, q1, l1⟩ := sameSl_some (all_lt eHist_all h1')
  obtain ⟨a2, p2, q2, l2⟩ := sameSl_some (all_lt eBtb_all h2')
  obtain ⟨a3, p3, q3, l3⟩ := sameSl_some (all_lt eRas_all h3')
  refine ⟨TPred.mk (W.of .u32 0) a1 a2 (W.of .i64 0) a3 (W.of .i64 0), ?_, ?_, l1, l2, l3⟩
  · unfold F_pred_New T_pred_New
    simp only [ev_opt, ev_ret, h1, h2, h3, p1, p2, p3, bind_some']
  · unfold F_ref21_New T_ref21_New F_ref21_Bits T_ref21_Bits
    simp only [ev_opt, ev_ret, h1, h2, h3, bind_some', q1, q2, q3]
/-- What a new core is. -/
theorem new_same (c : TConf) (m : TMach) :
    (F_core_New c m = some (zeroCore, W.of .i64 3) ∧ F_ref42_New c m = some (zeroCore, W.of .i64 3) ∧ okConf c = false) ∨
    (F_core_New c m = some (zeroCore, W.of .i64 1) ∧ F_ref42_New c m = some (zeroCore, W.of .i64 1) ∧ F_core_right m = some false) ∨
    ∃ pr tl nm ph dp kp kh kb kr kt kd, F_core_New c m = some (freshCore c m pr tl nm ph dp, W.of .i64 0) ∧ F_ref42_New c m = some (freshCore c m pr tl nm ph dp, W.of .i64 0) ∧ okConf c = true ∧ F_core_right m = some true ∧
      c.Phys = wi kp ∧ 18 ≤ kp ∧ kp ≤ 96 ∧ F_rename_New (wi kp) = some nm ∧ nm.Free.Ring.l.length = kp ∧ ph.Val.l.length = kp ∧ ph.Ready.l.length = kp ∧ kh ≤ 8 ∧ pr.Table.l.length = 2 ^ kh ∧ kb ≤ 16 ∧ pr.Btb.l.length = kb ∧ kr ≤ 16 ∧ pr.Ras.l.length = kr ∧
      c.Tlb = wi kt ∧ kt ≤ 8 ∧ tl.l.length = kt ∧ c.Dep = wi kd ∧ kd ≤ 16 ∧ dp.l.length = kd ∧ F_tlb_New c.Tlb = some tl ∧ F_pred_New c = some pr ∧ F_dep_New c.Dep = some dp ∧
      ∃ ph0 z', F_prf_New (wi kp) = some ph0 ∧ L_core_New_27 (m, zeroCore, freshCore c m pr tl nm ph0 dp, W.of .i64 1, ()) = some (z', freshCore c m pr tl nm ph dp, ()) := by
  obtain ⟨b, hb1, hb2⟩ := right_same m
  have hd3 : W.ne (W.of .i64 3) (W.of .i64 0) = true := rfl
  have hd0 : W.ne (W.of .i64 0) (W.of .i64 0) = false := rfl
  cases hok : okConf c with
  | false =>
    left
    refine ⟨?_, ?_, rfl⟩
    · unfold F_core_New T_core_New
      simp only [ev_opt, ev_ite, ev_ret, core_conf, hok, bind_some', Bool.false_eq_true, if_false, hd3, if_true]
      rfl
    · unfold F_ref42_New T_ref42_New
      simp only [ev_opt, ev_ite, ev_ret, ref_conf, hok, bind_some', Bool.false_eq_true, if_false, hd3, if_true]
      rfl
  | true =>
    right
    cases b with
    | false =>
      left
      refine ⟨?_, ?_, hb1⟩
      · unfold F_core_New T_core_New
        simp only [ev_opt, ev_ite, ev_ret, core_conf, hok, bind_some', if_true, hd0, Bool.false_eq_true, if_false, hb1, Bool.not_false]
        rfl
      · unfold F_ref42_New T_ref42_New
        simp only [ev_opt, ev_ite, ev_ret, ref_conf, hok, bind_some', if_true, hd0, Bool.false_eq_true, if_false, hb2, Bool.not_false]
        rfl
    | true =>
      right
      have hk := hok
      unfold okConf roomsB guessB at hk
      simp only [Bool.and_eq_true] at hk
      obtain ⟨⟨⟨_, ⟨⟨⟨⟨⟨⟨_, _⟩, _⟩, _⟩, _⟩, _⟩, hp⟩⟩, ⟨⟨⟨⟨hh, hbt⟩, hra⟩, hde⟩, htl⟩⟩, _⟩ := hk
      obtain ⟨kp, ep, lp, lp'⟩ := inB_wi (lo := 18) (hi := 96) hp
      obtain ⟨kh, eh, _, lh⟩ := inB_wi (lo := 0) (hi := 8) hh
      obtain ⟨kb, eb, _, lb⟩ := inB_wi (lo := 0) (hi := 16) hbt
      obtain ⟨kr, er, _, lr⟩ := inB_wi (lo := 0) (hi := 16) hra
      obtain ⟨kd, ed, _, ld⟩ := inB_wi (lo := 0) (hi := 16) hde
      obtain ⟨kt, et, _, lt⟩ := inB_wi (lo := 0) (hi := 8) htl
      obtain ⟨pr, p1, p2, p3, p4, p5⟩ := pred_same eh (by omega) eb (by omega) er (by omega)
      obtain ⟨tl, t1, t2, t3⟩ := sameSl_some (all_lt eTlb_all (show kt < 9 by omega))
      obtain ⟨dp, d1, d2, d3⟩ := sameSl_some (all_lt eDep_all (show kd < 17 by omega))
      obtain ⟨nm, n1, n2, n3⟩ := names_same (show kp < 97 by omega)
      obtain ⟨ph0, f1, f2, f3, f4⟩ := phys_same (show kp < 97 by omega)
      obtain ⟨z', ph, g1, g2, g3⟩ := puts_ok m zeroCore (freshCore c m pr tl nm ph0 dp)
      have g1' : L_ref42_New_29 (m, zeroCore, freshCore c m pr tl nm ph0 dp, W.of .i64 1, ()) = some (z', { freshCore c m pr tl nm ph0 dp with Phys := ph }, ()) := by rw [← puts_same]; exact g1
      refine ⟨pr, tl, nm, ph, dp, kp, kh, kb, kr, kt, kd, ?_, ?_, rfl, hb1, ep, lp, lp', n1, n3, g2.trans f3, g3.trans f4, lh, p3, lb, p4, lr, p5, et, lt, t3, ed, ld, d3, et ▸ t1, p1, ed ▸ d1, ph0, z', f1, g1⟩
      · unfold F_core_New T_core_New
        simp only [ev_opt, ev_ite, ev_ret, core_conf, hok, bind_some', if_true, hd0, Bool.false_eq_true, if_false, hb1, Bool.not_true, p1, et, t1, ed, d1, ep, n1, f1]
        unfold F_step_Copy T_step_Copy
        rw [ev_ret, bind_some']
        exact (congrArg (fun o => Option.bind o fun o11 : TCore × TCore × Unit => some (o11.2.1, W.of .i64 0)) g1)
      · unfold F_ref42_New T_ref42_New
        simp only [ev_opt, ev_ite, ev_ret, ref_conf, hok, bind_some', if_true, hd0, Bool.false_eq_true, if_false, hb2, Bool.not_true, p2, et, t2, ed, d2, ep, n2, f2]
        exact (congrArg (fun o => Option.bind o fun o11 : TCore × TCore × Unit => some (o11.2.1, W.of .i64 0)) g1')
end Go.Proofs.YtdafegdnjedohaaGreat
