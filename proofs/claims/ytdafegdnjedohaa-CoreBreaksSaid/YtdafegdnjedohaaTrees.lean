/- YtdafegdnjedohaaTrees: the functions as decision trees. No statement of the seat is proved here. -/
import Derived.Test.YtdafegdnjedohaaTypes
import Derived.Test.YtdafegdnjedohaaA2D
set_option maxRecDepth 100000
namespace Go.Proofs.Ytdafegdnjedohaa
open Go Go.A2
/- cotterel/cotterellaw42.Light -/
noncomputable def T_law42_Light (c : TCore) : Tree (Bool) :=
 .ite (W.le (Sl.len c.Queue) (W.of .i64 20)) (.ite (W.le (Sl.len c.Rob) (W.of .i64 70)) (.ite (W.le (Sl.len c.Iq) (W.of .i64 40)) (.ite (W.le (Sl.len c.Lq) (W.of .i64 20)) (.ite (W.le (Sl.len c.Sq) (W.of .i64 20)) (.ite (W.le (Sl.len c.Sb) (W.of .i64 10)) (.ite (W.le (Sl.len c.Units) (W.of .i64 80)) (.ite (W.le (Sl.len c.Phys.Val) (W.of .i64 100)) (.ite (W.le (Sl.len c.Phys.Ready) (W.of .i64 100)) (.ite (W.le (Sl.len c.Names.Free.Ring) (W.of .i64 100)) (.ite (W.le (Sl.len c.Shadow) (W.of .i64 2048)) (.ite (W.le (Sl.len c.Out) (W.of .i64 100)) (.ite (W.le (Sl.len c.Tlb) (W.of .i64 10)) (.ite (W.le (Sl.len c.Dep) (W.of .i64 20)) (.ite (W.le (Sl.len c.Pred.Table) (W.of .i64 300)) (.ite (W.le (Sl.len c.Pred.Btb) (W.of .i64 20)) (.ret (W.le (Sl.len c.Pred.Ras) (W.of .i64 20)))
 (.ret false))
 (.ret false))
 (.ret false))
 (.ret false))
 (.ret false))
 (.ret false))
 (.ret false))
 (.ret false))
 (.ret false))
 (.ret false))
 (.ret false))
 (.ret false))
 (.ret false))
 (.ret false))
 (.ret false))
 (.ret false)
noncomputable def F_law42_Light (c : TCore) : Option (Bool) := (T_law42_Light c).eval
/- cotterel/core.Plain -/
noncomputable def T_core_Plain  : Tree (TConf) :=
 .ret (TConf.mk (W.of .i64 2) (W.of .i64 2) (W.of .i64 2) (W.of .i64 2) (W.of .i64 8) (W.of .i64 16) (W.of .i64 8) (W.of .i64 4) (W.of .i64 4) (W.of .i64 4) (W.of .i64 32) (W.of .i64 4) (W.of .i64 4) (W.of .i64 4) (W.of .i64 4) (W.of .i64 4) (W.of .i64 3) (W.of .i64 8) (W.of .i64 4) (W.of .i64 4) (W.of .i64 2) true)
noncomputable def F_core_Plain  : Option (TConf) := (T_core_Plain).eval
/- cotterel/core.bounds -/
noncomputable def T_core_bounds (c : TConf) : Tree (Sl 24 (TBound)) :=
 .ret (Sl.lit 24 [(TBound.mk c.Fetch (W.of .i64 1) (W.of .i64 4)), (TBound.mk c.Wide (W.of .i64 1) (W.of .i64 4)), (TBound.mk c.Issue (W.of .i64 1) (W.of .i64 4)), (TBound.mk c.Retire (W.of .i64 1) (W.of .i64 4)), (TBound.mk c.Queue (W.of .i64 1) (W.of .i64 16)), (TBound.mk c.Rob (W.of .i64 2) (W.of .i64 64)), (TBound.mk c.Iq (W.of .i64 2) (W.of .i64 32)), (TBound.mk c.Lq (W.of .i64 1) (W.of .i64 16)), (TBound.mk c.Sq (W.of .i64 1) (W.of .i64 16)), (TBound.mk c.Sb (W.of .i64 1) (W.of .i64 8)), (TBound.mk c.Phys (W.of .i64 18) (W.of .i64 96)), (TBound.mk c.Hist (W.of .i64 0) (W.of .i64 8)), (TBound.mk c.Btb (W.of .i64 0) (W.of .i64 16)), (TBound.mk c.Ras (W.of .i64 0) (W.of .i64 16)), (TBound.mk c.Dep (W.of .i64 0) (W.of .i64 16)), (TBound.mk c.Tlb (W.of .i64 0) (W.of .i64 8)), (TBound.mk c.MulLat (W.of .i64 1) (W.of .i64 32)), (TBound.mk c.DivLat (W.of .i64 1) (W.of .i64 32)), (TBound.mk c.MemLat (W.of .i64 1) (W.of .i64 32)), (TBound.mk c.Sets (W.of .i64 1) (W.of .i64 8)), (TBound.mk c.Ways (W.of .i64 1) (W.of .i64 4))] rfl : Sl 24 (TBound))
noncomputable def F_core_bounds (c : TConf) : Option (Sl 24 (TBound)) := (T_core_bounds c).eval
/- cotterel/core.Conf$1 -/
noncomputable def T_core_Conf_1 (b : TBound) : Tree (Bool) :=
 .ite (W.lt b.n_ b.least) (.ret true)
 (.ret (W.gt b.n_ b.most))
noncomputable def F_core_Conf_1 (b : TBound) : Option (Bool) := (T_core_Conf_1 b).eval
/- slices.IndexFunc[[]cotterel/core.bound,cotterel/core.bound] -/
noncomputable def B_slices_IndexFunc_bound_of_core_Conf_1_5 (s : Sl 24 (TBound)) (t_7 t_8 : W .i64) : Tree (Rnd (Sl 24 (TBound) × ((Unit) × (Unit)) × W .i64 × W .i64 × Unit) ((W .i64 × Unit) ⊕ (Unit × Unit))) :=
 .ite (W.lt t_8 t_7) (.opt (Sl.get? s t_8) fun y1 =>
 .opt (F_core_Conf_1 y1) fun r2 =>
 .ite r2 (.ret (.out (.inl (t_8, ()))))
 (.ret (.next (s, ((), ()), t_7, (W.add t_8 (W.of .i64 1)), ()))))
 (.ret (.out (.inr ((), ()))))
noncomputable def L_slices_IndexFunc_bound_of_core_Conf_1_5 (a : Sl 24 (TBound) × ((Unit) × (Unit)) × W .i64 × W .i64 × Unit) : Option ((W .i64 × Unit) ⊕ (Unit × Unit)) := iter (fun a : Sl 24 (TBound) × ((Unit) × (Unit)) × W .i64 × W .i64 × Unit => (B_slices_IndexFunc_bound_of_core_Conf_1_5 a.1 a.2.2.1 a.2.2.2.1).eval) fuel a
noncomputable def T_slices_IndexFunc_bound_of_core_Conf_1 (s : Sl 24 (TBound)) : Tree (W .i64) :=
 .opt (L_slices_IndexFunc_bound_of_core_Conf_1_5 ((s, ((), ()), (Sl.len s), (W.of .i64 0), ()))) fun o3 =>
 .sum o3 (fun p4 =>
 .ret p4.1)
 (fun o5 =>
 .ret (W.of .i64 (-1)))
noncomputable def F_slices_IndexFunc_bound_of_core_Conf_1 (s : Sl 24 (TBound)) : Option (W .i64) := (T_slices_IndexFunc_bound_of_core_Conf_1 s).eval
/- slices.ContainsFunc[[]cotterel/core.bound,cotterel/core.bound] -/
noncomputable def T_slices_ContainsFunc_bound_of_core_Conf_1 (s : Sl 24 (TBound)) : Tree (Bool) :=
 .opt (F_slices_IndexFunc_bound_of_core_Conf_1 s) fun r1 =>
 .ret (W.ge r1 (W.of .i64 0))
noncomputable def F_slices_ContainsFunc_bound_of_core_Conf_1 (s : Sl 24 (TBound)) : Option (Bool) := (T_slices_ContainsFunc_bound_of_core_Conf_1 s).eval
/- cotterel/core.Conf -/
noncomputable def T_core_Conf (c : TConf) : Tree (W .i64) :=
 .opt (F_core_bounds c) fun r1 =>
 .opt (F_slices_ContainsFunc_bound_of_core_Conf_1 r1) fun r2 =>
 .ite r2 (.ret (W.of .i64 3))
 (.ret (W.of .i64 0))
noncomputable def F_core_Conf (c : TConf) : Option (W .i64) := (T_core_Conf c).eval
/- cotterel/csr.Masked -/
noncomputable def T_csr_Masked (n_0 : W .i64) : Tree (W .u32) :=
 .ite (W.lt n_0 (W.of .i64 0)) (.ret (W.of .u32 0))
 (.ite (W.ge n_0 (W.of .i64 12)) (.ret (W.of .u32 0))
 (.opt (idx? 12 n_0) fun j1 =>
 .ret (Arr.get (Arr.lit 12 [(W.of .u32 63), (W.of .u32 31), (W.of .u32 4294967295), (W.of .u32 4294967295), (W.of .u32 4294967295), (W.of .u32 4294967232), (W.of .u32 4294967295), (W.of .u32 4294967295), (W.of .u32 4294967295), (W.of .u32 7), (W.of .u32 7), (W.of .u32 4294967295)] rfl : Arr 12 (W .u32)) j1)))
noncomputable def F_csr_Masked (n_0 : W .i64) : Option (W .u32) := (T_csr_Masked n_0).eval
/- cotterel/core.clean -/
noncomputable def B_core_clean_5 (a : TArch) (t_6 : Arr 12 (W .u32)) (t_7 : W .i64) : Tree (Rnd (TArch × Arr 12 (W .u32) × W .i64 × Unit) ((TArch × Bool × Unit) ⊕ (TArch × Unit × Unit))) :=
 .ite (W.lt t_7 (W.of .i64 12)) (.opt (idx? 12 t_7) fun j1 =>
 .opt (F_csr_Masked t_7) fun r2 =>
 .ite (W.ne (W.andNot (Arr.get t_6 j1) r2) (W.of .u32 0)) (.ret (.out (.inl (a, false, ()))))
 (.ret (.next (a, t_6, (W.add t_7 (W.of .i64 1)), ()))))
 (.ret (.out (.inr (a, (), ()))))
noncomputable def L_core_clean_5 (a : TArch × Arr 12 (W .u32) × W .i64 × Unit) : Option ((TArch × Bool × Unit) ⊕ (TArch × Unit × Unit)) := iter (fun a : TArch × Arr 12 (W .u32) × W .i64 × Unit => (B_core_clean_5 a.1 a.2.1 a.2.2.1).eval) fuel a
noncomputable def T_core_clean (a : TArch) : Tree (Bool) :=
 .opt (L_core_clean_5 ((a, a.C, (W.of .i64 0), ()))) fun o3 =>
 .sum o3 (fun p4 =>
 .ret p4.2.1)
 (fun o5 =>
 .ret (W.eq (Arr.get o5.1.R 0) (W.of .u32 0)))
noncomputable def F_core_clean (a : TArch) : Option (Bool) := (T_core_clean a).eval
/- cotterel/core.right -/
noncomputable def T_core_right (m : TMach) : Tree (Bool) :=
 .ite (W.ne (W.rem (Sl.len m.Mem) (W.of .i64 64)) (W.of .i64 0)) (.ret false)
 (.ite (W.lt (Sl.len m.Mem) (W.of .i64 64)) (.ret false)
 (.ite (W.gt (Sl.len m.Mem) (W.of .i64 16384)) (.ret false)
 (.ite (W.ne (Sl.len m.Shadow) (Sl.len m.Mem)) (.ret false)
 (.opt (F_core_clean m.A) fun r1 =>
 .ret r1))))
noncomputable def F_core_right (m : TMach) : Option (Bool) := (T_core_right m).eval
/- cotterel/step.Copy -/
noncomputable def T_step_Copy (m : TMach) : Tree (TMach) :=
 .ret ({ m with Mem := m.Mem, Shadow := m.Shadow, Out := m.Out } : TMach)
noncomputable def F_step_Copy (m : TMach) : Option (TMach) := (T_step_Copy m).eval
/- cotterel/pht.clamp -/
noncomputable def T_pht_clamp (bits : W .i64) : Tree (W .i64) :=
 .ret (W.min (W.max bits (W.of .i64 0)) (W.of .i64 8))
noncomputable def F_pht_clamp (bits : W .i64) : Option (W .i64) := (T_pht_clamp bits).eval
/- math/bits.Mul64 -/
noncomputable def T_bits_Mul64 (x y : W .u64) : Tree (W .u64 × W .u64) :=
 .ret ((W.add (W.add (W.mul (W.shr x (W.of .u64 32)) (W.shr y (W.of .u64 32))) (W.shr (W.add (W.mul (W.shr x (W.of .u64 32)) (W.and y (W.of .u64 4294967295))) (W.shr (W.mul (W.and x (W.of .u64 4294967295)) (W.and y (W.of .u64 4294967295))) (W.of .u64 32))) (W.of .u64 32))) (W.shr (W.add (W.and (W.add (W.mul (W.shr x (W.of .u64 32)) (W.and y (W.of .u64 4294967295))) (W.shr (W.mul (W.and x (W.of .u64 4294967295)) (W.and y (W.of .u64 4294967295))) (W.of .u64 32))) (W.of .u64 4294967295)) (W.mul (W.and x (W.of .u64 4294967295)) (W.shr y (W.of .u64 32)))) (W.of .u64 32))), (W.mul x y))
noncomputable def F_bits_Mul64 (x y : W .u64) : Option (W .u64 × W .u64) := (T_bits_Mul64 x y).eval
/- math/bits.Mul -/
noncomputable def T_bits_Mul (x y : W .u64) : Tree (W .u64 × W .u64) :=
 .opt (F_bits_Mul64 x y) fun r1 =>
 .ret (r1.1, r1.2)
noncomputable def F_bits_Mul (x y : W .u64) : Option (W .u64 × W .u64) := (T_bits_Mul x y).eval
/- slices.Repeat[[]uint8,uint8] -/
noncomputable def B_slices_Repeat_uint8_17 (newslice : Sl 1 (W .u8)) (n_8 : W .i64) : Tree (Rnd (Sl 1 (W .u8) × W .i64 × Unit) (Sl 1 (W .u8) × Unit)) :=
 .ite (W.lt n_8 (Sl.len newslice)) (.opt (nat? n_8) fun n3 =>
 .opt (vw? (List.length newslice.l) (some n3) (none)) fun j4 =>
 .opt (nat? n_8) fun n5 =>
 .opt (vw? (List.length newslice.l) (none) (some n5)) fun j6 =>
 .ret (.next ((Sl.copy newslice n3 (Sl.cut newslice 0 n5)), (W.add n_8 (Sl.copyLen newslice n3 (Sl.cut newslice 0 n5))), ())))
 (.ret (.out (newslice, ())))
noncomputable def L_slices_Repeat_uint8_17 (a : Sl 1 (W .u8) × W .i64 × Unit) : Option (Sl 1 (W .u8) × Unit) := iter (fun a : Sl 1 (W .u8) × W .i64 × Unit => (B_slices_Repeat_uint8_17 a.1 a.2.1).eval) fuel a
noncomputable def T_slices_Repeat_uint8 (x : Sl 1 (W .u8)) (count : W .i64) : Tree (Sl 1 (W .u8)) :=
 .ite (W.lt count (W.of .i64 0)) (.fail)
 (.opt (F_bits_Mul (W.conv (.u64) (Sl.len x)) (W.conv (.u64) count)) fun r1 =>
 .ite (W.gt r1.1 (W.of .u64 0)) (.fail)
 (.ite (W.gt r1.2 (W.of .u64 9223372036854775807)) (.fail)
 (.opt (Sl.make? 1 (W.of .u8 0) (W.conv (.i64) r1.2) (W.conv (.i64) r1.2)) fun l2 =>
 .opt (L_slices_Repeat_uint8_17 (((Sl.copy l2 0 x), (Sl.copyLen l2 0 x), ()))) fun o7 =>
 .ret o7.1)))
noncomputable def F_slices_Repeat_uint8 (x : Sl 1 (W .u8)) (count : W .i64) : Option (Sl 1 (W .u8)) := (T_slices_Repeat_uint8 x count).eval
/- cotterel/pht.New -/
noncomputable def T_pht_New (bits : W .i64) : Tree (Sl 1 (W .u8)) :=
 .opt (F_pht_clamp bits) fun r1 =>
 .opt (W.shl? (W.of .i64 1) r1) fun z2 =>
 .opt (F_slices_Repeat_uint8 (Sl.lit 1 [(W.of .u8 1)] rfl : Sl 1 (W .u8)) z2) fun r3 =>
 .ret r3
noncomputable def F_pht_New (bits : W .i64) : Option (Sl 1 (W .u8)) := (T_pht_New bits).eval
/- cotterel/btb.New -/
noncomputable def T_btb_New (n_0 : W .i64) : Tree (Sl 16 (TBtb)) :=
 .opt (Sl.make? 16 (TBtb.mk (W.of .u32 0) (W.of .u32 0) (W.of .i64 0)) (W.min (W.max n_0 (W.of .i64 0)) (W.of .i64 16)) (W.min (W.max n_0 (W.of .i64 0)) (W.of .i64 16))) fun l1 =>
 .ret l1
noncomputable def F_btb_New (n_0 : W .i64) : Option (Sl 16 (TBtb)) := (T_btb_New n_0).eval
/- cotterel/ras.New -/
noncomputable def T_ras_New (n_0 : W .i64) : Tree (Sl 4 (W .u32)) :=
 .opt (Sl.make? 4 (W.of .u32 0) (W.min (W.max n_0 (W.of .i64 0)) (W.of .i64 16)) (W.min (W.max n_0 (W.of .i64 0)) (W.of .i64 16))) fun l1 =>
 .ret l1
noncomputable def F_ras_New (n_0 : W .i64) : Option (Sl 4 (W .u32)) := (T_ras_New n_0).eval
/- cotterel/pred.New -/
noncomputable def T_pred_New (c : TConf) : Tree (TPred) :=
 .opt (F_pht_New c.Hist) fun r1 =>
 .opt (F_btb_New c.Btb) fun r2 =>
 .opt (F_ras_New c.Ras) fun r3 =>
 .ret (TPred.mk (W.of .u32 0) r1 r2 (W.of .i64 0) r3 (W.of .i64 0))
noncomputable def F_pred_New (c : TConf) : Option (TPred) := (T_pred_New c).eval
/- cotterel/tlb.New -/
noncomputable def T_tlb_New (n_0 : W .i64) : Tree (Sl 24 (TTlb)) :=
 .opt (Sl.make? 24 (TTlb.mk false (W.of .u32 0) (TPte.mk (W.of .u32 0) (W.of .i64 0))) (W.min (W.max n_0 (W.of .i64 0)) (W.of .i64 8)) (W.min (W.max n_0 (W.of .i64 0)) (W.of .i64 8))) fun l1 =>
 .ret l1
noncomputable def F_tlb_New (n_0 : W .i64) : Option (Sl 24 (TTlb)) := (T_tlb_New n_0).eval
/- cotterel/dep.New -/
noncomputable def T_dep_New (n_0 : W .i64) : Tree (Sl 1 (W .u8)) :=
 .opt (Sl.make? 1 (W.of .u8 0) (W.min (W.max n_0 (W.of .i64 0)) (W.of .i64 16)) (W.min (W.max n_0 (W.of .i64 0)) (W.of .i64 16))) fun l1 =>
 .ret l1
noncomputable def F_dep_New (n_0 : W .i64) : Option (Sl 1 (W .u8)) := (T_dep_New n_0).eval
/- cotterel/rat.New -/
noncomputable def B_rat_New_7 (t_0 m : Arr 16 (W .i64)) (r : W .i64) : Tree (Rnd (Arr 16 (W .i64) × Arr 16 (W .i64) × W .i64 × Unit) (Arr 16 (W .i64) × Arr 16 (W .i64) × Unit)) :=
 .ite (W.lt r (W.of .i64 16)) (.opt (idx? 16 r) fun j1 =>
 .ret (.next (t_0, (Arr.set m j1 r), (W.add r (W.of .i64 1)), ())))
 (.ret (.out (t_0, m, ())))
noncomputable def L_rat_New_7 (a : Arr 16 (W .i64) × Arr 16 (W .i64) × W .i64 × Unit) : Option (Arr 16 (W .i64) × Arr 16 (W .i64) × Unit) := iter (fun a : Arr 16 (W .i64) × Arr 16 (W .i64) × W .i64 × Unit => (B_rat_New_7 a.1 a.2.1 a.2.2.1).eval) fuel a
noncomputable def T_rat_New  : Tree (Arr 16 (W .i64)) :=
 .opt (L_rat_New_7 (((Arr.rep 16 (W.of .i64 0) : Arr 16 (W .i64)), (Arr.lit 16 [(W.of .i64 (-1)), (W.of .i64 0), (W.of .i64 0), (W.of .i64 0), (W.of .i64 0), (W.of .i64 0), (W.of .i64 0), (W.of .i64 0), (W.of .i64 0), (W.of .i64 0), (W.of .i64 0), (W.of .i64 0), (W.of .i64 0), (W.of .i64 0), (W.of .i64 0), (W.of .i64 0)] rfl : Arr 16 (W .i64)), (W.of .i64 1), ()))) fun o2 =>
 .ret o2.2.1
noncomputable def F_rat_New  : Option (Arr 16 (W .i64)) := (T_rat_New).eval
/- cotterel/freel.New -/
noncomputable def B_freel_New_11 (used : W .i64) (t_4 f : TFree) (t_21 t_22 : W .i64) : Tree (Rnd (W .i64 × TFree × TFree × W .i64 × W .i64 × Unit) (TFree × TFree × Unit)) :=
 .ite (W.lt t_22 t_21) (.opt (idx? (List.length f.Ring.l) t_22) fun j2 =>
 .ret (.next (used, t_4, ({ f with Ring := (Sl.set f.Ring j2 (W.add used t_22)) } : TFree), t_21, (W.add t_22 (W.of .i64 1)), ())))
 (.ret (.out (t_4, f, ())))
noncomputable def L_freel_New_11 (a : W .i64 × TFree × TFree × W .i64 × W .i64 × Unit) : Option (TFree × TFree × Unit) := iter (fun a : W .i64 × TFree × TFree × W .i64 × W .i64 × Unit => (B_freel_New_11 a.1 a.2.1 a.2.2.1 a.2.2.2.1 a.2.2.2.2.1).eval) fuel a
noncomputable def T_freel_New (n_0 used : W .i64) : Tree (TFree) :=
 .opt (Sl.make? 8 (W.of .i64 0) (W.min (W.max n_0 (W.of .i64 0)) (W.of .i64 96)) (W.min (W.max n_0 (W.of .i64 0)) (W.of .i64 96))) fun l1 =>
 .opt (L_freel_New_11 (((W.min (W.max used (W.of .i64 0)) (W.min (W.max n_0 (W.of .i64 0)) (W.of .i64 96))), (TFree.mk (Sl.nil : Sl 8 (W .i64)) (W.of .i64 0) (W.of .i64 0)), (TFree.mk l1 (W.of .i64 0) (W.sub (W.min (W.max n_0 (W.of .i64 0)) (W.of .i64 96)) (W.min (W.max used (W.of .i64 0)) (W.min (W.max n_0 (W.of .i64 0)) (W.of .i64 96))))), (W.sub (W.min (W.max n_0 (W.of .i64 0)) (W.of .i64 96)) (W.min (W.max used (W.of .i64 0)) (W.min (W.max n_0 (W.of .i64 0)) (W.of .i64 96)))), (W.of .i64 0), ()))) fun o3 =>
 .ret o3.2.1
noncomputable def F_freel_New (n_0 used : W .i64) : Option (TFree) := (T_freel_New n_0 used).eval
/- cotterel/rename.New -/
noncomputable def T_rename_New (n_0 : W .i64) : Tree (TNames) :=
 .opt (F_rat_New) fun r1 =>
 .opt (F_rat_New) fun r2 =>
 .opt (F_freel_New n_0 (W.of .i64 16)) fun r3 =>
 .ret (TNames.mk r1 r2 r3 (W.of .u64 1))
noncomputable def F_rename_New (n_0 : W .i64) : Option (TNames) := (T_rename_New n_0).eval
/- slices.Repeat[[]bool,bool] -/
noncomputable def B_slices_Repeat_bool_17 (newslice : Sl 1 (Bool)) (n_8 : W .i64) : Tree (Rnd (Sl 1 (Bool) × W .i64 × Unit) (Sl 1 (Bool) × Unit)) :=
 .ite (W.lt n_8 (Sl.len newslice)) (.opt (nat? n_8) fun n3 =>
 .opt (vw? (List.length newslice.l) (some n3) (none)) fun j4 =>
 .opt (nat? n_8) fun n5 =>
 .opt (vw? (List.length newslice.l) (none) (some n5)) fun j6 =>
 .ret (.next ((Sl.copy newslice n3 (Sl.cut newslice 0 n5)), (W.add n_8 (Sl.copyLen newslice n3 (Sl.cut newslice 0 n5))), ())))
 (.ret (.out (newslice, ())))
noncomputable def L_slices_Repeat_bool_17 (a : Sl 1 (Bool) × W .i64 × Unit) : Option (Sl 1 (Bool) × Unit) := iter (fun a : Sl 1 (Bool) × W .i64 × Unit => (B_slices_Repeat_bool_17 a.1 a.2.1).eval) fuel a
noncomputable def T_slices_Repeat_bool (x : Sl 1 (Bool)) (count : W .i64) : Tree (Sl 1 (Bool)) :=
 .ite (W.lt count (W.of .i64 0)) (.fail)
 (.opt (F_bits_Mul (W.conv (.u64) (Sl.len x)) (W.conv (.u64) count)) fun r1 =>
 .ite (W.gt r1.1 (W.of .u64 0)) (.fail)
 (.ite (W.gt r1.2 (W.of .u64 9223372036854775807)) (.fail)
 (.opt (Sl.make? 1 false (W.conv (.i64) r1.2) (W.conv (.i64) r1.2)) fun l2 =>
 .opt (L_slices_Repeat_bool_17 (((Sl.copy l2 0 x), (Sl.copyLen l2 0 x), ()))) fun o7 =>
 .ret o7.1)))
noncomputable def F_slices_Repeat_bool (x : Sl 1 (Bool)) (count : W .i64) : Option (Sl 1 (Bool)) := (T_slices_Repeat_bool x count).eval
/- cotterel/prf.New -/
noncomputable def T_prf_New (n_0 : W .i64) : Tree (TPhys) :=
 .opt (Sl.make? 4 (W.of .u32 0) (W.min (W.max n_0 (W.of .i64 0)) (W.of .i64 96)) (W.min (W.max n_0 (W.of .i64 0)) (W.of .i64 96))) fun l1 =>
 .opt (F_slices_Repeat_bool (Sl.lit 1 [true] rfl : Sl 1 (Bool)) (W.min (W.max n_0 (W.of .i64 0)) (W.of .i64 96))) fun r2 =>
 .ret (TPhys.mk l1 r2)
noncomputable def F_prf_New (n_0 : W .i64) : Option (TPhys) := (T_prf_New n_0).eval
/- slices.Clone[[]uint32,uint32] -/
noncomputable def F_slices_Clone_uint32 (s : Sl 4 (W .u32)) : Option (Sl 4 (W .u32)) := some s
/- slices.Clone[[]bool,bool] -/
noncomputable def F_slices_Clone_bool (s : Sl 1 (Bool)) : Option (Sl 1 (Bool)) := some s
/- cotterel/prf.has -/
noncomputable def T_prf_has (f : TPhys) (p : W .i64) : Tree (Bool) :=
 .ite (W.ge p (W.of .i64 0)) (.ite (W.lt p (Sl.len f.Val)) (.ret (W.lt p (Sl.len f.Ready)))
 (.ret false))
 (.ret false)
noncomputable def F_prf_has (f : TPhys) (p : W .i64) : Option (Bool) := (T_prf_has f p).eval
/- cotterel/prf.Put -/
noncomputable def T_prf_Put (f : TPhys) (p : W .i64) (v : W .u32) : Tree (TPhys) :=
 .opt (F_slices_Clone_uint32 f.Val) fun r1 =>
 .opt (F_slices_Clone_bool f.Ready) fun r2 =>
 .opt (F_prf_has f p) fun r3 =>
 .ite r3 (.opt (idx? (List.length r1.l) p) fun j4 =>
 .opt (idx? (List.length r2.l) p) fun j5 =>
 .ret (TPhys.mk (Sl.set r1 j4 v) (Sl.set r2 j5 true)))
 (.ret (TPhys.mk r1 r2))
noncomputable def F_prf_Put (f : TPhys) (p : W .i64) (v : W .u32) : Option (TPhys) := (T_prf_Put f p v).eval
/- cotterel/core.New -/
noncomputable def B_core_New_27 (m : TMach) (t_4 k : TCore) (r : W .i64) : Tree (Rnd (TMach × TCore × TCore × W .i64 × Unit) (TCore × TCore × Unit)) :=
 .ite (W.lt r (W.of .i64 16)) (.opt (idx? 16 r) fun j9 =>
 .opt (F_prf_Put k.Phys r (Arr.get m.A.R j9)) fun r10 =>
 .ret (.next (m, t_4, ({ k with Phys := r10 } : TCore), (W.add r (W.of .i64 1)), ())))
 (.ret (.out (t_4, k, ())))
noncomputable def L_core_New_27 (a : TMach × TCore × TCore × W .i64 × Unit) : Option (TCore × TCore × Unit) := iter (fun a : TMach × TCore × TCore × W .i64 × Unit => (B_core_New_27 a.1 a.2.1 a.2.2.1 a.2.2.2.1).eval) fuel a
noncomputable def T_core_New (c : TConf) (m : TMach) : Tree (TCore × W .i64) :=
 .opt (F_core_Conf c) fun r1 =>
 .ite (W.ne r1 (W.of .i64 0)) (.ret ((TCore.mk (TConf.mk (W.of .i64 0) (W.of .i64 0) (W.of .i64 0) (W.of .i64 0) (W.of .i64 0) (W.of .i64 0) (W.of .i64 0) (W.of .i64 0) (W.of .i64 0) (W.of .i64 0) (W.of .i64 0) (W.of .i64 0) (W.of .i64 0) (W.of .i64 0) (W.of .i64 0) (W.of .i64 0) (W.of .i64 0) (W.of .i64 0) (W.of .i64 0) (W.of .i64 0) (W.of .i64 0) false) (TArch.mk (W.of .u32 0) (Arr.rep 16 (W.of .u32 0) : Arr 16 (W .u32)) (Arr.rep 12 (W.of .u32 0) : Arr 12 (W .u32)) false) (Sl.nil : Sl 1 (W .u8)) (Sl.nil : Sl 4 (W .u32)) (W.of .u32 0) false (TPred.mk (W.of .u32 0) (Sl.nil : Sl 1 (W .u8)) (Sl.nil : Sl 16 (TBtb)) (W.of .i64 0) (Sl.nil : Sl 4 (W .u32)) (W.of .i64 0)) (Sl.nil : Sl 24 (TTlb)) (W.of .i64 0) (Sl.nil : Sl 56 (TSlot)) (TNames.mk (Arr.rep 16 (W.of .i64 0) : Arr 16 (W .i64)) (Arr.rep 16 (W.of .i64 0) : Arr 16 (W .i64)) (TFree.mk (Sl.nil : Sl 8 (W .i64)) (W.of .i64 0) (W.of .i64 0)) (W.of .u64 0)) (TPhys.mk (Sl.nil : Sl 4 (W .u32)) (Sl.nil : Sl 1 (Bool))) (Sl.nil : Sl 248 (TRob)) (Sl.nil : Sl 224 (TIq)) (Sl.nil : Sl 48 (TLq)) (Sl.nil : Sl 32 (TSq)) (Sl.nil : Sl 16 (TSb)) (Sl.nil : Sl 256 (TFlight)) (Sl.nil : Sl 1 (W .u8)) (W.of .i64 0) (W.of .i64 0)), r1))
 (.opt (F_core_right m) fun r2 =>
 .ite (!r2) (.ret ((TCore.mk (TConf.mk (W.of .i64 0) (W.of .i64 0) (W.of .i64 0) (W.of .i64 0) (W.of .i64 0) (W.of .i64 0) (W.of .i64 0) (W.of .i64 0) (W.of .i64 0) (W.of .i64 0) (W.of .i64 0) (W.of .i64 0) (W.of .i64 0) (W.of .i64 0) (W.of .i64 0) (W.of .i64 0) (W.of .i64 0) (W.of .i64 0) (W.of .i64 0) (W.of .i64 0) (W.of .i64 0) false) (TArch.mk (W.of .u32 0) (Arr.rep 16 (W.of .u32 0) : Arr 16 (W .u32)) (Arr.rep 12 (W.of .u32 0) : Arr 12 (W .u32)) false) (Sl.nil : Sl 1 (W .u8)) (Sl.nil : Sl 4 (W .u32)) (W.of .u32 0) false (TPred.mk (W.of .u32 0) (Sl.nil : Sl 1 (W .u8)) (Sl.nil : Sl 16 (TBtb)) (W.of .i64 0) (Sl.nil : Sl 4 (W .u32)) (W.of .i64 0)) (Sl.nil : Sl 24 (TTlb)) (W.of .i64 0) (Sl.nil : Sl 56 (TSlot)) (TNames.mk (Arr.rep 16 (W.of .i64 0) : Arr 16 (W .i64)) (Arr.rep 16 (W.of .i64 0) : Arr 16 (W .i64)) (TFree.mk (Sl.nil : Sl 8 (W .i64)) (W.of .i64 0) (W.of .i64 0)) (W.of .u64 0)) (TPhys.mk (Sl.nil : Sl 4 (W .u32)) (Sl.nil : Sl 1 (Bool))) (Sl.nil : Sl 248 (TRob)) (Sl.nil : Sl 224 (TIq)) (Sl.nil : Sl 48 (TLq)) (Sl.nil : Sl 32 (TSq)) (Sl.nil : Sl 16 (TSb)) (Sl.nil : Sl 256 (TFlight)) (Sl.nil : Sl 1 (W .u8)) (W.of .i64 0) (W.of .i64 0)), (W.of .i64 1)))
 (.opt (F_step_Copy m) fun r3 =>
 .opt (F_pred_New c) fun r4 =>
 .opt (F_tlb_New c.Tlb) fun r5 =>
 .opt (F_dep_New c.Dep) fun r6 =>
 .opt (F_rename_New c.Phys) fun r7 =>
 .opt (F_prf_New c.Phys) fun r8 =>
 .opt (L_core_New_27 ((r3, (TCore.mk (TConf.mk (W.of .i64 0) (W.of .i64 0) (W.of .i64 0) (W.of .i64 0) (W.of .i64 0) (W.of .i64 0) (W.of .i64 0) (W.of .i64 0) (W.of .i64 0) (W.of .i64 0) (W.of .i64 0) (W.of .i64 0) (W.of .i64 0) (W.of .i64 0) (W.of .i64 0) (W.of .i64 0) (W.of .i64 0) (W.of .i64 0) (W.of .i64 0) (W.of .i64 0) (W.of .i64 0) false) (TArch.mk (W.of .u32 0) (Arr.rep 16 (W.of .u32 0) : Arr 16 (W .u32)) (Arr.rep 12 (W.of .u32 0) : Arr 12 (W .u32)) false) (Sl.nil : Sl 1 (W .u8)) (Sl.nil : Sl 4 (W .u32)) (W.of .u32 0) false (TPred.mk (W.of .u32 0) (Sl.nil : Sl 1 (W .u8)) (Sl.nil : Sl 16 (TBtb)) (W.of .i64 0) (Sl.nil : Sl 4 (W .u32)) (W.of .i64 0)) (Sl.nil : Sl 24 (TTlb)) (W.of .i64 0) (Sl.nil : Sl 56 (TSlot)) (TNames.mk (Arr.rep 16 (W.of .i64 0) : Arr 16 (W .i64)) (Arr.rep 16 (W.of .i64 0) : Arr 16 (W .i64)) (TFree.mk (Sl.nil : Sl 8 (W .i64)) (W.of .i64 0) (W.of .i64 0)) (W.of .u64 0)) (TPhys.mk (Sl.nil : Sl 4 (W .u32)) (Sl.nil : Sl 1 (Bool))) (Sl.nil : Sl 248 (TRob)) (Sl.nil : Sl 224 (TIq)) (Sl.nil : Sl 48 (TLq)) (Sl.nil : Sl 32 (TSq)) (Sl.nil : Sl 16 (TSb)) (Sl.nil : Sl 256 (TFlight)) (Sl.nil : Sl 1 (W .u8)) (W.of .i64 0) (W.of .i64 0)), (TCore.mk c r3.A r3.Shadow r3.Out r3.A.PC false r4 r5 (W.of .i64 0) (Sl.nil : Sl 56 (TSlot)) r7 r8 (Sl.nil : Sl 248 (TRob)) (Sl.nil : Sl 224 (TIq)) (Sl.nil : Sl 48 (TLq)) (Sl.nil : Sl 32 (TSq)) (Sl.nil : Sl 16 (TSb)) (Sl.nil : Sl 256 (TFlight)) r6 (W.of .i64 0) (W.of .i64 0)), (W.of .i64 1), ()))) fun o11 =>
 .ret (o11.2.1, (W.of .i64 0))))
noncomputable def F_core_New (c : TConf) (m : TMach) : Option (TCore × W .i64) := (T_core_New c m).eval
/- cotterel/core.Empty -/
noncomputable def T_core_Empty (c : TCore) : Tree (Bool) :=
 .ret (W.eq (W.add (W.add (W.add (W.add (W.add (W.add (Sl.len c.Queue) (Sl.len c.Rob)) (Sl.len c.Iq)) (Sl.len c.Lq)) (Sl.len c.Sq)) (Sl.len c.Sb)) (Sl.len c.Units)) (W.of .i64 0))
noncomputable def F_core_Empty (c : TCore) : Option (Bool) := (T_core_Empty c).eval
/- cotterel/core.rooms -/
noncomputable def T_core_rooms (c : TCore) : Tree (Bool) :=
 .opt (F_core_Conf c.Conf) fun r1 =>
 .ite (W.ne r1 (W.of .i64 0)) (.ret false)
 (.ite (W.gt (Sl.len c.Queue) c.Conf.Queue) (.ret false)
 (.ite (W.gt (Sl.len c.Rob) c.Conf.Rob) (.ret false)
 (.ite (W.gt (Sl.len c.Iq) c.Conf.Iq) (.ret false)
 (.ite (W.gt (Sl.len c.Lq) c.Conf.Lq) (.ret false)
 (.ite (W.gt (Sl.len c.Sq) c.Conf.Sq) (.ret false)
 (.ite (W.gt (Sl.len c.Sb) c.Conf.Sb) (.ret false)
 (.ite (W.eq (Sl.len c.Phys.Val) c.Conf.Phys) (.ite (W.eq (Sl.len c.Phys.Ready) c.Conf.Phys) (.ite (W.eq (Sl.len c.Tlb) c.Conf.Tlb) (.ret (W.eq (Sl.len c.Dep) c.Conf.Dep))
 (.ret false))
 (.ret false))
 (.ret false))))))))
noncomputable def F_core_rooms (c : TCore) : Option (Bool) := (T_core_rooms c).eval
/- cotterel/core.queued -/
noncomputable def B_core_queued_5 (c : TCore) (iq units : Sl 216 (TRen)) (t_9 : Sl 224 (TIq)) (t_10 t_11 : W .i64) : Tree (Rnd (TCore × Sl 216 (TRen) × Sl 216 (TRen) × Sl 224 (TIq) × W .i64 × W .i64 × Unit) (TCore × Sl 216 (TRen) × Sl 216 (TRen) × Unit)) :=
 .ite (W.lt t_11 t_10) (.opt (Sl.get? t_9 t_11) fun y1 =>
 .opt (Sl.app? iq (Sl.lit 216 [y1.Ren] rfl : Sl 216 (TRen))) fun l2 =>
 .ret (.next (c, l2, units, t_9, t_10, (W.add t_11 (W.of .i64 1)), ())))
 (.ret (.out (c, iq, units, ())))
noncomputable def L_core_queued_5 (a : TCore × Sl 216 (TRen) × Sl 216 (TRen) × Sl 224 (TIq) × W .i64 × W .i64 × Unit) : Option (TCore × Sl 216 (TRen) × Sl 216 (TRen) × Unit) := iter (fun a : TCore × Sl 216 (TRen) × Sl 216 (TRen) × Sl 224 (TIq) × W .i64 × W .i64 × Unit => (B_core_queued_5 a.1 a.2.1 a.2.2.1 a.2.2.2.1 a.2.2.2.2.1 a.2.2.2.2.2.1).eval) fuel a
noncomputable def B_core_queued_20 (iq units : Sl 216 (TRen)) (t_22 : Sl 256 (TFlight)) (t_23 t_24 : W .i64) : Tree (Rnd (Sl 216 (TRen) × Sl 216 (TRen) × Sl 256 (TFlight) × W .i64 × W .i64 × Unit) (Sl 216 (TRen) × Sl 216 (TRen) × Unit)) :=
 .ite (W.lt t_24 t_23) (.opt (Sl.get? t_22 t_24) fun y4 =>
 .opt (Sl.app? units (Sl.lit 216 [y4.Ren] rfl : Sl 216 (TRen))) fun l5 =>
 .ret (.next (iq, l5, t_22, t_23, (W.add t_24 (W.of .i64 1)), ())))
 (.ret (.out (iq, units, ())))
noncomputable def L_core_queued_20 (a : Sl 216 (TRen) × Sl 216 (TRen) × Sl 256 (TFlight) × W .i64 × W .i64 × Unit) : Option (Sl 216 (TRen) × Sl 216 (TRen) × Unit) := iter (fun a : Sl 216 (TRen) × Sl 216 (TRen) × Sl 256 (TFlight) × W .i64 × W .i64 × Unit => (B_core_queued_20 a.1 a.2.1 a.2.2.1 a.2.2.2.1 a.2.2.2.2.1).eval) fuel a
noncomputable def T_core_queued (c : TCore) : Tree (Sl 216 (TRen) × Sl 216 (TRen)) :=
 .opt (L_core_queued_5 ((c, (Sl.nil : Sl 216 (TRen)), (Sl.nil : Sl 216 (TRen)), c.Iq, (Sl.len c.Iq), (W.of .i64 0), ()))) fun o3 =>
 .opt (L_core_queued_20 ((o3.2.1, o3.2.2.1, o3.1.Units, (Sl.len o3.1.Units), (W.of .i64 0), ()))) fun o6 =>
 .ret (o6.1, o6.2.1)
noncomputable def F_core_queued (c : TCore) : Option (Sl 216 (TRen) × Sl 216 (TRen)) := (T_core_queued c).eval
/- cotterel/rob.Right -/
noncomputable def B_rob_Right_7 (last : W .u64) (part : W .i64) (t_7 : Sl 248 (TRob)) (t_8 t_9 : W .i64) : Tree (Rnd (W .u64 × W .i64 × Sl 248 (TRob) × W .i64 × W .i64 × Unit) ((Bool × W .i64 × Unit) ⊕ (Unit × W .i64 × Unit))) :=
 .ite (W.lt t_9 t_8) (.opt (Sl.get? t_7 t_9) fun y1 =>
 .ite (W.le y1.Ren.Seq last) (.ret (.out (.inl (false, part, ()))))
 (.ite (W.ne y1.Ren.Uop.Part part) (.ret (.out (.inl (false, part, ()))))
 (.ite y1.Ren.Uop.Last (.ret (.next (y1.Ren.Seq, (W.of .i64 0), t_7, t_8, (W.add t_9 (W.of .i64 1)), ())))
 (.ret (.next (y1.Ren.Seq, (W.add part (W.of .i64 1)), t_7, t_8, (W.add t_9 (W.of .i64 1)), ()))))))
 (.ret (.out (.inr ((), part, ()))))
noncomputable def L_rob_Right_7 (a : W .u64 × W .i64 × Sl 248 (TRob) × W .i64 × W .i64 × Unit) : Option ((Bool × W .i64 × Unit) ⊕ (Unit × W .i64 × Unit)) := iter (fun a : W .u64 × W .i64 × Sl 248 (TRob) × W .i64 × W .i64 × Unit => (B_rob_Right_7 a.1 a.2.1 a.2.2.1 a.2.2.2.1 a.2.2.2.2.1).eval) fuel a
noncomputable def T_rob_Right (l_0 : Sl 248 (TRob)) : Tree (Bool) :=
 .opt (L_rob_Right_7 (((W.of .u64 0), (W.of .i64 0), l_0, (Sl.len l_0), (W.of .i64 0), ()))) fun o2 =>
 .sum o2 (fun p3 =>
 .ret p3.1)
 (fun o4 =>
 .ret (W.eq o4.2.1 (W.of .i64 0)))
noncomputable def F_rob_Right (l_0 : Sl 248 (TRob)) : Option (Bool) := (T_rob_Right l_0).eval
/- cotterel/core.ordered -/
noncomputable def T_core_ordered (c : TCore) : Tree (Bool) :=
 .opt (F_rob_Right c.Rob) fun r1 =>
 .ite r1 (.ite (W.eq (Sl.len c.Rob) (W.of .i64 0)) (.ret true)
 (.opt (Sl.get? c.Rob (W.sub (Sl.len c.Rob) (W.of .i64 1))) fun y2 =>
 .ret (W.lt y2.Ren.Seq c.Names.Seq)))
 (.ret false)
noncomputable def F_core_ordered (c : TCore) : Option (Bool) := (T_core_ordered c).eval
/- cotterel/core.rens -/
noncomputable def B_core_rens_7 (l_3 : Sl 216 (TRen)) (t_7 : Sl 248 (TRob)) (t_8 t_9 : W .i64) : Tree (Rnd (Sl 216 (TRen) × Sl 248 (TRob) × W .i64 × W .i64 × Unit) (Sl 216 (TRen) × Unit)) :=
 .ite (W.lt t_9 t_8) (.opt (Sl.get? t_7 t_9) fun y1 =>
 .opt (Sl.app? l_3 (Sl.lit 216 [y1.Ren] rfl : Sl 216 (TRen))) fun l2 =>
 .ret (.next (l2, t_7, t_8, (W.add t_9 (W.of .i64 1)), ())))
 (.ret (.out (l_3, ())))
noncomputable def L_core_rens_7 (a : Sl 216 (TRen) × Sl 248 (TRob) × W .i64 × W .i64 × Unit) : Option (Sl 216 (TRen) × Unit) := iter (fun a : Sl 216 (TRen) × Sl 248 (TRob) × W .i64 × W .i64 × Unit => (B_core_rens_7 a.1 a.2.1 a.2.2.1 a.2.2.2.1).eval) fuel a
noncomputable def T_core_rens (c : TCore) : Tree (Sl 216 (TRen)) :=
 .opt (L_core_rens_7 (((Sl.nil : Sl 216 (TRen)), c.Rob, (Sl.len c.Rob), (W.of .i64 0), ()))) fun o3 =>
 .ret o3.1
noncomputable def F_core_rens (c : TCore) : Option (Sl 216 (TRen)) := (T_core_rens c).eval
/- cotterel/rat.Right -/
noncomputable def B_rat_Right_20 (n_1 : W .i64) (m : Arr 16 (W .i64)) (r q : W .i64) : Tree (Rnd (W .i64 × Arr 16 (W .i64) × W .i64 × W .i64 × Unit) ((W .i64 × Arr 16 (W .i64) × Bool × W .i64 × Unit) ⊕ (W .i64 × Arr 16 (W .i64) × Unit × W .i64 × Unit))) :=
 .ite (W.lt q r) (.opt (idx? 16 q) fun j1 =>
 .opt (idx? 16 r) fun j2 =>
 .ite (W.eq (Arr.get m j1) (Arr.get m j2)) (.ret (.out (.inl (n_1, m, false, r, ()))))
 (.ret (.next (n_1, m, r, (W.add q (W.of .i64 1)), ()))))
 (.ret (.out (.inr (n_1, m, (), r, ()))))
noncomputable def L_rat_Right_20 (a : W .i64 × Arr 16 (W .i64) × W .i64 × W .i64 × Unit) : Option ((W .i64 × Arr 16 (W .i64) × Bool × W .i64 × Unit) ⊕ (W .i64 × Arr 16 (W .i64) × Unit × W .i64 × Unit)) := iter (fun a : W .i64 × Arr 16 (W .i64) × W .i64 × W .i64 × Unit => (B_rat_Right_20 a.1 a.2.1 a.2.2.1 a.2.2.2.1).eval) fuel a
noncomputable def B_rat_Right_11 (n_1 : W .i64) (m : Arr 16 (W .i64)) (r : W .i64) : Tree (Rnd (W .i64 × Arr 16 (W .i64) × W .i64 × Unit) ((Bool × Unit) ⊕ (Unit × Unit))) :=
 .ite (W.lt r (W.of .i64 16)) (.opt (L_rat_Right_20 ((n_1, m, r, (W.of .i64 1), ()))) fun o3 =>
 .sum o3 (fun p4 =>
 .ret (.out (.inl (p4.2.2.1, ()))))
 (fun o5 =>
 .opt (idx? 16 o5.2.2.2.1) fun j6 =>
 .ite (W.lt (Arr.get o5.2.1 j6) (W.of .i64 1)) (.ret (.out (.inl (false, ()))))
 (.opt (idx? 16 o5.2.2.2.1) fun j7 =>
 .ite (W.ge (Arr.get o5.2.1 j7) o5.1) (.ret (.out (.inl (false, ()))))
 (.ret (.next (o5.1, o5.2.1, (W.add o5.2.2.2.1 (W.of .i64 1)), ()))))))
 (.ret (.out (.inr ((), ()))))
noncomputable def L_rat_Right_11 (a : W .i64 × Arr 16 (W .i64) × W .i64 × Unit) : Option ((Bool × Unit) ⊕ (Unit × Unit)) := iter (fun a : W .i64 × Arr 16 (W .i64) × W .i64 × Unit => (B_rat_Right_11 a.1 a.2.1 a.2.2.1).eval) fuel a
noncomputable def T_rat_Right (m : Arr 16 (W .i64)) (n_1 : W .i64) : Tree (Bool) :=
 .ite (W.ne (Arr.get m 0) (W.of .i64 (-1))) (.ret false)
 (.opt (L_rat_Right_11 ((n_1, m, (W.of .i64 1), ()))) fun o8 =>
 .sum o8 (fun p9 =>
 .ret p9.1)
 (fun o10 =>
 .ret true))
noncomputable def F_rat_Right (m : Arr 16 (W .i64)) (n_1 : W .i64) : Option (Bool) := (T_rat_Right m n_1).eval
/- (cotterel/freel.ring).sound -/
noncomputable def T_freel_ring_sound (f : TFree) : Tree (Bool) :=
 .ite (W.le (Sl.len f.Ring) (W.of .i64 96)) (.ite (W.ge f.Head (W.of .i64 0)) (.ite (W.lt f.Head (Sl.len f.Ring)) (.ite (W.ge f.N (W.of .i64 0)) (.ret (W.le f.N (Sl.len f.Ring)))
 (.ret false))
 (.ite (W.eq f.Head (W.of .i64 0)) (.ite (W.ge f.N (W.of .i64 0)) (.ret (W.le f.N (Sl.len f.Ring)))
 (.ret false))
 (.ret false)))
 (.ret false))
 (.ret false)
noncomputable def F_freel_ring_sound (f : TFree) : Option (Bool) := (T_freel_ring_sound f).eval
/- (cotterel/freel.ring).at -/
noncomputable def T_freel_ring_at (f : TFree) (k : W .i64) : Tree (W .i64) :=
 .opt (W.rem? (W.add f.Head k) (Sl.len f.Ring)) fun z1 =>
 .opt (W.rem? (W.add z1 (Sl.len f.Ring)) (Sl.len f.Ring)) fun z2 =>
 .ret z2
noncomputable def F_freel_ring_at (f : TFree) (k : W .i64) : Option (W .i64) := (T_freel_ring_at f k).eval
/- cotterel/freel.List -/
noncomputable def B_freel_List_15 (f placef0 : TFree) (out : Sl 8 (W .i64)) (t_12 t_13 : W .i64) : Tree (Rnd (TFree × ((TFree × Unit) × (Unit)) × Sl 8 (W .i64) × W .i64 × W .i64 × Unit) (Sl 8 (W .i64) × Unit)) :=
 .ite (W.lt t_13 t_12) (.opt (F_freel_ring_at placef0 t_13) fun r2 =>
 .opt (Sl.get? f.Ring r2) fun y3 =>
 .opt (Sl.app? out (Sl.lit 8 [y3] rfl : Sl 8 (W .i64))) fun l4 =>
 .ret (.next (f, ((placef0, ()), ()), l4, t_12, (W.add t_13 (W.of .i64 1)), ())))
 (.ret (.out (out, ())))
noncomputable def L_freel_List_15 (a : TFree × ((TFree × Unit) × (Unit)) × Sl 8 (W .i64) × W .i64 × W .i64 × Unit) : Option (Sl 8 (W .i64) × Unit) := iter (fun a : TFree × ((TFree × Unit) × (Unit)) × Sl 8 (W .i64) × W .i64 × W .i64 × Unit => (B_freel_List_15 a.1 a.2.1.1.1 a.2.2.1 a.2.2.2.1 a.2.2.2.2.1).eval) fuel a
noncomputable def T_freel_List (f : TFree) : Tree (Sl 8 (W .i64)) :=
 .opt (F_freel_ring_sound f) fun r1 =>
 .ite (!r1) (.ret (Sl.nil : Sl 8 (W .i64)))
 (.opt (L_freel_List_15 ((f, ((f, ()), ()), (Sl.nil : Sl 8 (W .i64)), f.N, (W.of .i64 0), ()))) fun o5 =>
 .ret o5.1)
noncomputable def F_freel_List (f : TFree) : Option (Sl 8 (W .i64)) := (T_freel_List f).eval
/- cotterel/freel.Right -/
noncomputable def B_freel_Right_13 (n_1 : W .i64) (seen : Arr 96 (Bool)) (t_19 : Sl 8 (W .i64)) (t_20 t_21 : W .i64) : Tree (Rnd (W .i64 × Arr 96 (Bool) × Sl 8 (W .i64) × W .i64 × W .i64 × Unit) ((Bool × Unit) ⊕ (Unit × Unit))) :=
 .ite (W.lt t_21 t_20) (.opt (Sl.get? t_19 t_21) fun y3 =>
 .ite (W.lt y3 (W.of .i64 0)) (.ret (.out (.inl (false, ()))))
 (.ite (W.ge y3 n_1) (.ret (.out (.inl (false, ()))))
 (.opt (idx? 96 y3) fun j4 =>
 .ite (Arr.get seen j4) (.ret (.out (.inl (false, ()))))
 (.opt (idx? 96 y3) fun j5 =>
 .ret (.next (n_1, (Arr.set seen j5 true), t_19, t_20, (W.add t_21 (W.of .i64 1)), ()))))))
 (.ret (.out (.inr ((), ()))))
noncomputable def L_freel_Right_13 (a : W .i64 × Arr 96 (Bool) × Sl 8 (W .i64) × W .i64 × W .i64 × Unit) : Option ((Bool × Unit) ⊕ (Unit × Unit)) := iter (fun a : W .i64 × Arr 96 (Bool) × Sl 8 (W .i64) × W .i64 × W .i64 × Unit => (B_freel_Right_13 a.1 a.2.1 a.2.2.1 a.2.2.2.1 a.2.2.2.2.1).eval) fuel a
noncomputable def T_freel_Right (f : TFree) (n_1 : W .i64) : Tree (Bool) :=
 .opt (F_freel_ring_sound f) fun r1 =>
 .ite (!r1) (.ret false)
 (.ite (W.ne (Sl.len f.Ring) n_1) (.ret false)
 (.opt (F_freel_List f) fun r2 =>
 .opt (L_freel_Right_13 ((n_1, (Arr.rep 96 false : Arr 96 (Bool)), r2, (Sl.len r2), (W.of .i64 0), ()))) fun o6 =>
 .sum o6 (fun p7 =>
 .ret p7.1)
 (fun o8 =>
 .ret true)))
noncomputable def F_freel_Right (f : TFree) (n_1 : W .i64) : Option (Bool) := (T_freel_Right f n_1).eval
/- cotterel/rename.Right$1 -/
noncomputable def T_rename_Right_1 (p a : W .i64) (a_2 : Bool) (a_3 : Arr 96 (W .i64)) : Tree (W .i64 × Bool × Arr 96 (W .i64)) :=
 .ite (W.lt p (W.of .i64 1)) (.ret (a, true, a_3))
 (.ite (W.ge p a) (.ret (a, true, a_3))
 (.opt (idx? 96 p) fun j1 =>
 .opt (idx? 96 p) fun j2 =>
 .ret (a, a_2, (Arr.set a_3 j2 (W.add (Arr.get a_3 j1) (W.of .i64 1))))))
noncomputable def F_rename_Right_1 (p a : W .i64) (a_2 : Bool) (a_3 : Arr 96 (W .i64)) : Option (W .i64 × Bool × Arr 96 (W .i64)) := (T_rename_Right_1 p a a_2 a_3).eval
/- cotterel/rename.writes -/
noncomputable def T_rename_writes (u : TUop) : Tree (Bool) :=
 .ite (W.ge u.Dst (W.of .i64 1)) (.ret (W.lt u.Dst (W.of .i64 16)))
 (.ret false)
noncomputable def F_rename_writes (u : TUop) : Option (Bool) := (T_rename_writes u).eval
/- cotterel/rat.is -/
noncomputable def T_rat_is (r : W .i64) : Tree (Bool) :=
 .ite (W.gt r (W.of .i64 0)) (.ret (W.lt r (W.of .i64 16)))
 (.ret false)
noncomputable def F_rat_is (r : W .i64) : Option (Bool) := (T_rat_is r).eval
/- cotterel/rat.Get -/
noncomputable def T_rat_Get (m : Arr 16 (W .i64)) (r : W .i64) : Tree (W .i64) :=
 .opt (F_rat_is r) fun r1 =>
 .ite (!r1) (.ret (W.of .i64 (-1)))
 (.opt (idx? 16 r) fun j2 =>
 .ret (Arr.get m j2))
noncomputable def F_rat_Get (m : Arr 16 (W .i64)) (r : W .i64) : Option (W .i64) := (T_rat_Get m r).eval
/- cotterel/rat.Set -/
noncomputable def T_rat_Set (m : Arr 16 (W .i64)) (r p : W .i64) : Tree (Arr 16 (W .i64)) :=
 .opt (F_rat_is r) fun r1 =>
 .ite r1 (.opt (idx? 16 r) fun j2 =>
 .ret (Arr.set m j2 p))
 (.ret m)
noncomputable def F_rat_Set (m : Arr 16 (W .i64)) (r p : W .i64) : Option (Arr 16 (W .i64)) := (T_rat_Set m r p).eval
/- cotterel/rename.steps -/
noncomputable def B_rename_steps_7 (s : TNames) (m : Arr 16 (W .i64)) (last : W .u64) (t_11 : Sl 216 (TRen)) (t_12 t_13 : W .i64) : Tree (Rnd (TNames × Arr 16 (W .i64) × W .u64 × Sl 216 (TRen) × W .i64 × W .i64 × Unit) ((TNames × Bool × Arr 16 (W .i64) × Unit) ⊕ (TNames × Unit × Arr 16 (W .i64) × Unit))) :=
 .ite (W.lt t_13 t_12) (.opt (Sl.get? t_11 t_13) fun y1 =>
 .ite (W.le y1.Seq last) (.ret (.out (.inl (s, false, m, ()))))
 (.ite (W.ge y1.Seq s.Seq) (.ret (.out (.inl (s, false, m, ()))))
 (.opt (F_rename_writes y1.Uop) fun r2 =>
 .ite (!r2) (.ite (W.ne y1.Out (W.of .i64 (-1))) (.ret (.out (.inl (s, false, m, ()))))
 (.ite (W.ne y1.Old (W.of .i64 (-1))) (.ret (.out (.inl (s, false, m, ()))))
 (.ret (.next (s, m, y1.Seq, t_11, t_12, (W.add t_13 (W.of .i64 1)), ())))))
 (.ite (W.eq y1.Out (W.of .i64 (-1))) (.ret (.out (.inl (s, false, m, ()))))
 (.opt (F_rat_Get m y1.Uop.Dst) fun r3 =>
 .ite (W.ne y1.Old r3) (.ret (.out (.inl (s, false, m, ()))))
 (.opt (F_rat_Set m y1.Uop.Dst y1.Out) fun r4 =>
 .ret (.next (s, r4, y1.Seq, t_11, t_12, (W.add t_13 (W.of .i64 1)), ()))))))))
 (.ret (.out (.inr (s, (), m, ()))))
noncomputable def L_rename_steps_7 (a : TNames × Arr 16 (W .i64) × W .u64 × Sl 216 (TRen) × W .i64 × W .i64 × Unit) : Option ((TNames × Bool × Arr 16 (W .i64) × Unit) ⊕ (TNames × Unit × Arr 16 (W .i64) × Unit)) := iter (fun a : TNames × Arr 16 (W .i64) × W .u64 × Sl 216 (TRen) × W .i64 × W .i64 × Unit => (B_rename_steps_7 a.1 a.2.1 a.2.2.1 a.2.2.2.1 a.2.2.2.2.1 a.2.2.2.2.2.1).eval) fuel a
noncomputable def T_rename_steps (s : TNames) (flying : Sl 216 (TRen)) : Tree (Bool) :=
 .opt (L_rename_steps_7 ((s, s.Done, (W.of .u64 0), flying, (Sl.len flying), (W.of .i64 0), ()))) fun o5 =>
 .sum o5 (fun p6 =>
 .ret p6.2.1)
 (fun o7 =>
 .ret (Tab.eq tab (.arr 16 (.int .i64)) o7.2.2.1 o7.1.Map))
noncomputable def F_rename_steps (s : TNames) (flying : Sl 216 (TRen)) : Option (Bool) := (T_rename_steps s flying).eval
/- cotterel/rename.Right$2 -/
noncomputable def B_rename_Right_2_3 (t_0 : Sl 216 (TRen)) (t_2 : W .i64) (t_3 : Bool) (t_4 : Arr 96 (W .i64)) (t_5 : Bool) (i : W .i64) : Tree (Rnd (Sl 216 (TRen) × ((Unit) × (Unit × Unit × Unit × Unit)) × W .i64 × Bool × Arr 96 (W .i64) × Bool × W .i64 × Unit) (Sl 216 (TRen) × W .i64 × Bool × Arr 96 (W .i64) × Bool × Unit)) :=
 .ite (W.ge i (W.of .i64 0)) (.opt (Sl.get? t_0 i) fun y1 =>
 .ite (W.ne y1.Out (W.of .i64 (-1))) (.opt (Sl.get? t_0 i) fun y2 =>
 .opt (F_rename_Right_1 y2.Out t_2 t_5 t_4) fun r3 =>
 .ret (.next (t_0, ((), ((), (), (), ())), r3.1, t_3, r3.2.2, r3.2.1, (W.sub i (W.of .i64 1)), ())))
 (.ret (.next (t_0, ((), ((), (), (), ())), t_2, t_3, t_4, t_5, (W.sub i (W.of .i64 1)), ()))))
 (.ret (.out (t_0, t_2, t_3, t_4, t_5, ())))
noncomputable def L_rename_Right_2_3 (a : Sl 216 (TRen) × ((Unit) × (Unit × Unit × Unit × Unit)) × W .i64 × Bool × Arr 96 (W .i64) × Bool × W .i64 × Unit) : Option (Sl 216 (TRen) × W .i64 × Bool × Arr 96 (W .i64) × Bool × Unit) := iter (fun a : Sl 216 (TRen) × ((Unit) × (Unit × Unit × Unit × Unit)) × W .i64 × Bool × Arr 96 (W .i64) × Bool × W .i64 × Unit => (B_rename_Right_2_3 a.1 a.2.2.1 a.2.2.2.1 a.2.2.2.2.1 a.2.2.2.2.2.1 a.2.2.2.2.2.2.1).eval) fuel a
noncomputable def B_rename_Right_2_18 (t_0 : Sl 216 (TRen)) (t_2 : W .i64) (t_3 : Bool) (t_4 : Arr 96 (W .i64)) (t_5 : Bool) (p : W .i64) : Tree (Rnd (Sl 216 (TRen) × W .i64 × Bool × Arr 96 (W .i64) × Bool × W .i64 × Unit) (Sl 216 (TRen) × W .i64 × Bool × Arr 96 (W .i64) × Bool × Unit)) :=
 .ite (W.lt p t_2) (.ite t_3 (.opt (idx? 96 p) fun j5 =>
 .ret (.next (t_0, t_2, (W.eq (Arr.get t_4 j5) (W.of .i64 1)), t_4, t_5, (W.add p (W.of .i64 1)), ())))
 (.ret (.next (t_0, t_2, false, t_4, t_5, (W.add p (W.of .i64 1)), ()))))
 (.ret (.out (t_0, t_2, t_3, t_4, t_5, ())))
noncomputable def L_rename_Right_2_18 (a : Sl 216 (TRen) × W .i64 × Bool × Arr 96 (W .i64) × Bool × W .i64 × Unit) : Option (Sl 216 (TRen) × W .i64 × Bool × Arr 96 (W .i64) × Bool × Unit) := iter (fun a : Sl 216 (TRen) × W .i64 × Bool × Arr 96 (W .i64) × Bool × W .i64 × Unit => (B_rename_Right_2_18 a.1 a.2.1 a.2.2.1 a.2.2.2.1 a.2.2.2.2.1 a.2.2.2.2.2.1).eval) fuel a
noncomputable def T_rename_Right_2 (a : Sl 216 (TRen)) (a_2 : W .i64) (a_3 : Bool) (a_4 : Arr 96 (W .i64)) (a_5 : Bool) : Tree (Sl 216 (TRen) × W .i64 × Bool × Arr 96 (W .i64) × Bool) :=
 .opt (L_rename_Right_2_3 ((a, ((), ((), (), (), ())), a_2, a_3, a_4, a_5, (W.sub (Sl.len a) (W.of .i64 1)), ()))) fun o4 =>
 .opt (L_rename_Right_2_18 ((o4.1, o4.2.1, o4.2.2.1, o4.2.2.2.1, o4.2.2.2.2.1, (W.of .i64 1), ()))) fun o6 =>
 .ite o6.2.2.1 (.ret (o6.1, o6.2.1, (!o6.2.2.2.2.1), o6.2.2.2.1, o6.2.2.2.2.1))
 (.ret (o6.1, o6.2.1, false, o6.2.2.2.1, o6.2.2.2.2.1))
noncomputable def F_rename_Right_2 (a : Sl 216 (TRen)) (a_2 : W .i64) (a_3 : Bool) (a_4 : Arr 96 (W .i64)) (a_5 : Bool) : Option (Sl 216 (TRen) × W .i64 × Bool × Arr 96 (W .i64) × Bool) := (T_rename_Right_2 a a_2 a_3 a_4 a_5).eval
/- cotterel/rename.Right -/
noncomputable def B_rename_Right_19 (s : TNames) (n_4 : W .i64) (flying : Sl 216 (TRen)) (ok : Bool) (times : Arr 96 (W .i64)) (strange : Bool) (t_44 : Sl 8 (W .i64)) (t_45 t_46 : W .i64) : Tree (Rnd (TNames × W .i64 × Sl 216 (TRen) × Bool × Arr 96 (W .i64) × Bool × ((Unit) × (Unit × Unit × Unit × Unit)) × ((Unit) × (Unit × ((Unit) × (Unit × Unit × Unit × Unit)) × Unit × Unit × Unit × Unit × Unit)) × Sl 8 (W .i64) × W .i64 × W .i64 × Unit) (TNames × W .i64 × Sl 216 (TRen) × Bool × Arr 96 (W .i64) × Bool × ((Unit) × (Unit × Unit × Unit × Unit)) × ((Unit) × (Unit × ((Unit) × (Unit × Unit × Unit × Unit)) × Unit × Unit × Unit × Unit × Unit)) × Unit)) :=
 .ite (W.lt t_46 t_45) (.opt (Sl.get? t_44 t_46) fun y5 =>
 .opt (F_rename_Right_1 y5 n_4 strange times) fun r6 =>
 .ret (.next (s, r6.1, flying, ok, r6.2.2, r6.2.1, ((), ((), (), (), ())), ((), ((), ((), ((), (), (), ())), (), (), (), (), ())), t_44, t_45, (W.add t_46 (W.of .i64 1)), ())))
 (.ret (.out (s, n_4, flying, ok, times, strange, ((), ((), (), (), ())), ((), ((), ((), ((), (), (), ())), (), (), (), (), ())), ())))
noncomputable def L_rename_Right_19 (a : TNames × W .i64 × Sl 216 (TRen) × Bool × Arr 96 (W .i64) × Bool × ((Unit) × (Unit × Unit × Unit × Unit)) × ((Unit) × (Unit × ((Unit) × (Unit × Unit × Unit × Unit)) × Unit × Unit × Unit × Unit × Unit)) × Sl 8 (W .i64) × W .i64 × W .i64 × Unit) : Option (TNames × W .i64 × Sl 216 (TRen) × Bool × Arr 96 (W .i64) × Bool × ((Unit) × (Unit × Unit × Unit × Unit)) × ((Unit) × (Unit × ((Unit) × (Unit × Unit × Unit × Unit)) × Unit × Unit × Unit × Unit × Unit)) × Unit) := iter (fun a : TNames × W .i64 × Sl 216 (TRen) × Bool × Arr 96 (W .i64) × Bool × ((Unit) × (Unit × Unit × Unit × Unit)) × ((Unit) × (Unit × ((Unit) × (Unit × Unit × Unit × Unit)) × Unit × Unit × Unit × Unit × Unit)) × Sl 8 (W .i64) × W .i64 × W .i64 × Unit => (B_rename_Right_19 a.1 a.2.1 a.2.2.1 a.2.2.2.1 a.2.2.2.2.1 a.2.2.2.2.2.1 a.2.2.2.2.2.2.2.2.1 a.2.2.2.2.2.2.2.2.2.1 a.2.2.2.2.2.2.2.2.2.2.1).eval) fuel a
noncomputable def B_rename_Right_34 (s : TNames) (n_4 : W .i64) (flying : Sl 216 (TRen)) (ok : Bool) (times : Arr 96 (W .i64)) (strange : Bool) (r : W .i64) : Tree (Rnd (TNames × W .i64 × Sl 216 (TRen) × Bool × Arr 96 (W .i64) × Bool × ((Unit) × (Unit × Unit × Unit × Unit)) × W .i64 × ((Unit) × (Unit × ((Unit) × (Unit × Unit × Unit × Unit)) × Unit × Unit × Unit × Unit × Unit)) × Unit) (TNames × W .i64 × Sl 216 (TRen) × Bool × Arr 96 (W .i64) × Bool × ((Unit) × (Unit × ((Unit) × (Unit × Unit × Unit × Unit)) × Unit × Unit × Unit × Unit × Unit)) × Unit)) :=
 .ite (W.lt r (W.of .i64 16)) (.opt (idx? 16 r) fun j8 =>
 .opt (F_rename_Right_1 (Arr.get s.Done j8) n_4 strange times) fun r9 =>
 .ret (.next (s, r9.1, flying, ok, r9.2.2, r9.2.1, ((), ((), (), (), ())), (W.add r (W.of .i64 1)), ((), ((), ((), ((), (), (), ())), (), (), (), (), ())), ())))
 (.ret (.out (s, n_4, flying, ok, times, strange, ((), ((), ((), ((), (), (), ())), (), (), (), (), ())), ())))
noncomputable def L_rename_Right_34 (a : TNames × W .i64 × Sl 216 (TRen) × Bool × Arr 96 (W .i64) × Bool × ((Unit) × (Unit × Unit × Unit × Unit)) × W .i64 × ((Unit) × (Unit × ((Unit) × (Unit × Unit × Unit × Unit)) × Unit × Unit × Unit × Unit × Unit)) × Unit) : Option (TNames × W .i64 × Sl 216 (TRen) × Bool × Arr 96 (W .i64) × Bool × ((Unit) × (Unit × ((Unit) × (Unit × Unit × Unit × Unit)) × Unit × Unit × Unit × Unit × Unit)) × Unit) := iter (fun a : TNames × W .i64 × Sl 216 (TRen) × Bool × Arr 96 (W .i64) × Bool × ((Unit) × (Unit × Unit × Unit × Unit)) × W .i64 × ((Unit) × (Unit × ((Unit) × (Unit × Unit × Unit × Unit)) × Unit × Unit × Unit × Unit × Unit)) × Unit => (B_rename_Right_34 a.1 a.2.1 a.2.2.1 a.2.2.2.1 a.2.2.2.2.1 a.2.2.2.2.2.1 a.2.2.2.2.2.2.2.1).eval) fuel a
noncomputable def T_rename_Right (s : TNames) (n_1 : W .i64) (flying : Sl 216 (TRen)) : Tree (Bool) :=
 .ite (W.le n_1 (W.of .i64 16)) (.ret false)
 (.ite (W.gt n_1 (W.of .i64 96)) (.ret false)
 (.opt (F_rat_Right s.Map n_1) fun r1 =>
 .ite (!r1) (.ret false)
 (.opt (F_rat_Right s.Done n_1) fun r2 =>
 .ite (!r2) (.ret false)
 (.opt (F_freel_Right s.Free n_1) fun r3 =>
 .ite (!r3) (.ret false)
 (.opt (F_freel_List s.Free) fun r4 =>
 .opt (L_rename_Right_19 ((s, n_1, flying, false, (Arr.rep 96 (W.of .i64 0) : Arr 96 (W .i64)), false, ((), ((), (), (), ())), ((), ((), ((), ((), (), (), ())), (), (), (), (), ())), r4, (Sl.len r4), (W.of .i64 0), ()))) fun o7 =>
 .opt (L_rename_Right_34 ((o7.1, o7.2.1, o7.2.2.1, o7.2.2.2.1, o7.2.2.2.2.1, o7.2.2.2.2.2.1, ((), ((), (), (), ())), (W.of .i64 1), ((), ((), ((), ((), (), (), ())), (), (), (), (), ())), ()))) fun o10 =>
 .opt (F_rename_steps o10.1 o10.2.2.1) fun r11 =>
 .opt (F_rename_Right_2 o10.2.2.1 o10.2.1 r11 o10.2.2.2.2.1 o10.2.2.2.2.2.1) fun r12 =>
 .ret r12.2.2.1)))))
noncomputable def F_rename_Right (s : TNames) (n_1 : W .i64) (flying : Sl 216 (TRen)) : Option (Bool) := (T_rename_Right s n_1 flying).eval
/- cotterel/core.waits$1 -/
noncomputable def T_core_waits_1 (e : TRob) (a : TRen) : Tree (Bool) :=
 .ite (Tab.eq tab (.named .TRen) e.Ren a) (.ret (!e.Done))
 (.ret false)
noncomputable def F_core_waits_1 (e : TRob) (a : TRen) : Option (Bool) := (T_core_waits_1 e a).eval
/- slices.IndexFunc[[]cotterel/api.Rob,cotterel/api.Rob] -/
noncomputable def B_slices_IndexFunc_Rob_of_core_waits_1_5 (s : Sl 248 (TRob)) (fc0 : TRen) (t_7 t_8 : W .i64) : Tree (Rnd (Sl 248 (TRob) × ((Unit) × (TRen × Unit)) × W .i64 × W .i64 × Unit) ((W .i64 × Unit) ⊕ (Unit × Unit))) :=
 .ite (W.lt t_8 t_7) (.opt (Sl.get? s t_8) fun y1 =>
 .opt (F_core_waits_1 y1 fc0) fun r2 =>
 .ite r2 (.ret (.out (.inl (t_8, ()))))
 (.ret (.next (s, ((), (fc0, ())), t_7, (W.add t_8 (W.of .i64 1)), ()))))
 (.ret (.out (.inr ((), ()))))
noncomputable def L_slices_IndexFunc_Rob_of_core_waits_1_5 (a : Sl 248 (TRob) × ((Unit) × (TRen × Unit)) × W .i64 × W .i64 × Unit) : Option ((W .i64 × Unit) ⊕ (Unit × Unit)) := iter (fun a : Sl 248 (TRob) × ((Unit) × (TRen × Unit)) × W .i64 × W .i64 × Unit => (B_slices_IndexFunc_Rob_of_core_waits_1_5 a.1 a.2.1.2.1 a.2.2.1 a.2.2.2.1).eval) fuel a
noncomputable def T_slices_IndexFunc_Rob_of_core_waits_1 (s : Sl 248 (TRob)) (fc0 : TRen) : Tree (W .i64) :=
 .opt (L_slices_IndexFunc_Rob_of_core_waits_1_5 ((s, ((), (fc0, ())), (Sl.len s), (W.of .i64 0), ()))) fun o3 =>
 .sum o3 (fun p4 =>
 .ret p4.1)
 (fun o5 =>
 .ret (W.of .i64 (-1)))
noncomputable def F_slices_IndexFunc_Rob_of_core_waits_1 (s : Sl 248 (TRob)) (fc0 : TRen) : Option (W .i64) := (T_slices_IndexFunc_Rob_of_core_waits_1 s fc0).eval
/- slices.ContainsFunc[[]cotterel/api.Rob,cotterel/api.Rob] -/
noncomputable def T_slices_ContainsFunc_Rob_of_core_waits_1 (s : Sl 248 (TRob)) (fc0 : TRen) : Tree (Bool) :=
 .opt (F_slices_IndexFunc_Rob_of_core_waits_1 s fc0) fun r1 =>
 .ret (W.ge r1 (W.of .i64 0))
noncomputable def F_slices_ContainsFunc_Rob_of_core_waits_1 (s : Sl 248 (TRob)) (fc0 : TRen) : Option (Bool) := (T_slices_ContainsFunc_Rob_of_core_waits_1 s fc0).eval
/- cotterel/core.waits -/
noncomputable def T_core_waits (c : TCore) (r : TRen) : Tree (Bool) :=
 .opt (F_slices_ContainsFunc_Rob_of_core_waits_1 c.Rob r) fun r1 =>
 .ret r1
noncomputable def F_core_waits (c : TCore) (r : TRen) : Option (Bool) := (T_core_waits c r).eval
/- cotterel/core.flying -/
noncomputable def B_core_flying_7 (c : TCore) (seen : List (W .u64 × W .i64)) (t_9 : Sl 216 (TRen)) (t_10 t_11 : W .i64) : Tree (Rnd (TCore × (List (W .u64 × W .i64)) × Sl 216 (TRen) × W .i64 × W .i64 × Unit) ((Bool × Unit) ⊕ (Unit × Unit))) :=
 .ite (W.lt t_11 t_10) (.opt (Sl.get? t_9 t_11) fun y1 =>
 .ite (W.gt (Option.getD (mGet (W.eq) (mPut (W.eq) seen y1.Seq (W.add (Option.getD (mGet (W.eq) seen y1.Seq) (W.of .i64 0)) (W.of .i64 1))) y1.Seq) (W.of .i64 0)) (W.of .i64 1)) (.ret (.out (.inl (false, ()))))
 (.opt (F_core_waits c y1) fun r2 =>
 .ite (!r2) (.ret (.out (.inl (false, ()))))
 (.ret (.next (c, (mPut (W.eq) seen y1.Seq (W.add (Option.getD (mGet (W.eq) seen y1.Seq) (W.of .i64 0)) (W.of .i64 1))), t_9, t_10, (W.add t_11 (W.of .i64 1)), ())))))
 (.ret (.out (.inr ((), ()))))
noncomputable def L_core_flying_7 (a : TCore × (List (W .u64 × W .i64)) × Sl 216 (TRen) × W .i64 × W .i64 × Unit) : Option ((Bool × Unit) ⊕ (Unit × Unit)) := iter (fun a : TCore × (List (W .u64 × W .i64)) × Sl 216 (TRen) × W .i64 × W .i64 × Unit => (B_core_flying_7 a.1 a.2.1 a.2.2.1 a.2.2.2.1 a.2.2.2.2.1).eval) fuel a
noncomputable def T_core_flying (c : TCore) (l_1 : Sl 216 (TRen)) : Tree (Bool) :=
 .opt (L_core_flying_7 ((c, ([] : List (W .u64 × W .i64)), l_1, (Sl.len l_1), (W.of .i64 0), ()))) fun o3 =>
 .sum o3 (fun p4 =>
 .ret p4.1)
 (fun o5 =>
 .ret true)
noncomputable def F_core_flying (c : TCore) (l_1 : Sl 216 (TRen)) : Option (Bool) := (T_core_flying c l_1).eval
/- cotterel/core.apart$1$1 -/
noncomputable def T_core_apart_1_1 (s a : TRen) : Tree (Bool) :=
 .ret (W.eq a.Seq s.Seq)
noncomputable def F_core_apart_1_1 (s a : TRen) : Option (Bool) := (T_core_apart_1_1 s a).eval
/- slices.IndexFunc[[]cotterel/api.Ren,cotterel/api.Ren] -/
noncomputable def B_slices_IndexFunc_Ren_of_core_apart_1_1_5 (s : Sl 216 (TRen)) (fc0 : TRen) (t_7 t_8 : W .i64) : Tree (Rnd (Sl 216 (TRen) × ((Unit) × (TRen × Unit)) × W .i64 × W .i64 × Unit) ((W .i64 × Unit) ⊕ (Unit × Unit))) :=
 .ite (W.lt t_8 t_7) (.opt (Sl.get? s t_8) fun y1 =>
 .opt (F_core_apart_1_1 y1 fc0) fun r2 =>
 .ite r2 (.ret (.out (.inl (t_8, ()))))
 (.ret (.next (s, ((), (fc0, ())), t_7, (W.add t_8 (W.of .i64 1)), ()))))
 (.ret (.out (.inr ((), ()))))
noncomputable def L_slices_IndexFunc_Ren_of_core_apart_1_1_5 (a : Sl 216 (TRen) × ((Unit) × (TRen × Unit)) × W .i64 × W .i64 × Unit) : Option ((W .i64 × Unit) ⊕ (Unit × Unit)) := iter (fun a : Sl 216 (TRen) × ((Unit) × (TRen × Unit)) × W .i64 × W .i64 × Unit => (B_slices_IndexFunc_Ren_of_core_apart_1_1_5 a.1 a.2.1.2.1 a.2.2.1 a.2.2.2.1).eval) fuel a
noncomputable def T_slices_IndexFunc_Ren_of_core_apart_1_1 (s : Sl 216 (TRen)) (fc0 : TRen) : Tree (W .i64) :=
 .opt (L_slices_IndexFunc_Ren_of_core_apart_1_1_5 ((s, ((), (fc0, ())), (Sl.len s), (W.of .i64 0), ()))) fun o3 =>
 .sum o3 (fun p4 =>
 .ret p4.1)
 (fun o5 =>
 .ret (W.of .i64 (-1)))
noncomputable def F_slices_IndexFunc_Ren_of_core_apart_1_1 (s : Sl 216 (TRen)) (fc0 : TRen) : Option (W .i64) := (T_slices_IndexFunc_Ren_of_core_apart_1_1 s fc0).eval
/- slices.ContainsFunc[[]cotterel/api.Ren,cotterel/api.Ren] -/
noncomputable def T_slices_ContainsFunc_Ren_of_core_apart_1_1 (s : Sl 216 (TRen)) (fc0 : TRen) : Tree (Bool) :=
 .opt (F_slices_IndexFunc_Ren_of_core_apart_1_1 s fc0) fun r1 =>
 .ret (W.ge r1 (W.of .i64 0))
noncomputable def F_slices_ContainsFunc_Ren_of_core_apart_1_1 (s : Sl 216 (TRen)) (fc0 : TRen) : Option (Bool) := (T_slices_ContainsFunc_Ren_of_core_apart_1_1 s fc0).eval
/- cotterel/core.apart$1 -/
noncomputable def T_core_apart_1 (r : TRen) (a : Sl 216 (TRen)) : Tree (Bool) :=
 .opt (F_slices_ContainsFunc_Ren_of_core_apart_1_1 a r) fun r1 =>
 .ret r1
noncomputable def F_core_apart_1 (r : TRen) (a : Sl 216 (TRen)) : Option (Bool) := (T_core_apart_1 r a).eval
/- slices.IndexFunc[[]cotterel/api.Ren,cotterel/api.Ren] -/
noncomputable def B_slices_IndexFunc_Ren_of_core_apart_1_5 (s fc0 : Sl 216 (TRen)) (t_7 t_8 : W .i64) : Tree (Rnd (Sl 216 (TRen) × ((Unit) × (Sl 216 (TRen) × Unit)) × W .i64 × W .i64 × Unit) ((W .i64 × Unit) ⊕ (Unit × Unit))) :=
 .ite (W.lt t_8 t_7) (.opt (Sl.get? s t_8) fun y1 =>
 .opt (F_core_apart_1 y1 fc0) fun r2 =>
 .ite r2 (.ret (.out (.inl (t_8, ()))))
 (.ret (.next (s, ((), (fc0, ())), t_7, (W.add t_8 (W.of .i64 1)), ()))))
 (.ret (.out (.inr ((), ()))))
noncomputable def L_slices_IndexFunc_Ren_of_core_apart_1_5 (a : Sl 216 (TRen) × ((Unit) × (Sl 216 (TRen) × Unit)) × W .i64 × W .i64 × Unit) : Option ((W .i64 × Unit) ⊕ (Unit × Unit)) := iter (fun a : Sl 216 (TRen) × ((Unit) × (Sl 216 (TRen) × Unit)) × W .i64 × W .i64 × Unit => (B_slices_IndexFunc_Ren_of_core_apart_1_5 a.1 a.2.1.2.1 a.2.2.1 a.2.2.2.1).eval) fuel a
noncomputable def T_slices_IndexFunc_Ren_of_core_apart_1 (s fc0 : Sl 216 (TRen)) : Tree (W .i64) :=
 .opt (L_slices_IndexFunc_Ren_of_core_apart_1_5 ((s, ((), (fc0, ())), (Sl.len s), (W.of .i64 0), ()))) fun o3 =>
 .sum o3 (fun p4 =>
 .ret p4.1)
 (fun o5 =>
 .ret (W.of .i64 (-1)))
noncomputable def F_slices_IndexFunc_Ren_of_core_apart_1 (s fc0 : Sl 216 (TRen)) : Option (W .i64) := (T_slices_IndexFunc_Ren_of_core_apart_1 s fc0).eval
/- slices.ContainsFunc[[]cotterel/api.Ren,cotterel/api.Ren] -/
noncomputable def T_slices_ContainsFunc_Ren_of_core_apart_1 (s fc0 : Sl 216 (TRen)) : Tree (Bool) :=
 .opt (F_slices_IndexFunc_Ren_of_core_apart_1 s fc0) fun r1 =>
 .ret (W.ge r1 (W.of .i64 0))
noncomputable def F_slices_ContainsFunc_Ren_of_core_apart_1 (s fc0 : Sl 216 (TRen)) : Option (Bool) := (T_slices_ContainsFunc_Ren_of_core_apart_1 s fc0).eval
/- cotterel/core.apart -/
noncomputable def T_core_apart (a b : Sl 216 (TRen)) : Tree (Bool) :=
 .opt (F_slices_ContainsFunc_Ren_of_core_apart_1 a b) fun r1 =>
 .ret (!r1)
noncomputable def F_core_apart (a b : Sl 216 (TRen)) : Option (Bool) := (T_core_apart a b).eval
/- cotterel/core.seqs -/
noncomputable def B_core_seqs_7 (unit : W .i64) (l_5 : Sl 8 (W .u64)) (t_9 : Sl 248 (TRob)) (t_10 t_11 : W .i64) : Tree (Rnd (W .i64 × Sl 8 (W .u64) × Sl 248 (TRob) × W .i64 × W .i64 × Unit) (Sl 8 (W .u64) × Unit)) :=
 .ite (W.lt t_11 t_10) (.opt (Sl.get? t_9 t_11) fun y1 =>
 .ite (W.eq y1.Ren.Uop.Unit unit) (.opt (Sl.app? l_5 (Sl.lit 8 [y1.Ren.Seq] rfl : Sl 8 (W .u64))) fun l2 =>
 .ret (.next (unit, l2, t_9, t_10, (W.add t_11 (W.of .i64 1)), ())))
 (.ret (.next (unit, l_5, t_9, t_10, (W.add t_11 (W.of .i64 1)), ()))))
 (.ret (.out (l_5, ())))
noncomputable def L_core_seqs_7 (a : W .i64 × Sl 8 (W .u64) × Sl 248 (TRob) × W .i64 × W .i64 × Unit) : Option (Sl 8 (W .u64) × Unit) := iter (fun a : W .i64 × Sl 8 (W .u64) × Sl 248 (TRob) × W .i64 × W .i64 × Unit => (B_core_seqs_7 a.1 a.2.1 a.2.2.1 a.2.2.2.1 a.2.2.2.2.1).eval) fuel a
noncomputable def T_core_seqs (c : TCore) (unit : W .i64) : Tree (Sl 8 (W .u64)) :=
 .opt (L_core_seqs_7 ((unit, (Sl.nil : Sl 8 (W .u64)), c.Rob, (Sl.len c.Rob), (W.of .i64 0), ()))) fun o3 =>
 .ret o3.1
noncomputable def F_core_seqs (c : TCore) (unit : W .i64) : Option (Sl 8 (W .u64)) := (T_core_seqs c unit).eval
/- cotterel/core.memory$1 -/
noncomputable def T_core_memory_1 (e : TLq) (n_1 : W .u64) : Tree (Bool) :=
 .ret (W.eq e.Seq n_1)
noncomputable def F_core_memory_1 (e : TLq) (n_1 : W .u64) : Option (Bool) := (T_core_memory_1 e n_1).eval
/- slices.EqualFunc[[]cotterel/api.Lq,[]uint64,cotterel/api.Lq,uint64] -/
noncomputable def B_slices_EqualFunc_Lq_uint64_of_core_memory_1_11 (s2 : Sl 8 (W .u64)) (t_15 : Sl 48 (TLq)) (t_16 t_17 : W .i64) : Tree (Rnd (Sl 8 (W .u64) × ((Unit) × (Unit)) × Sl 48 (TLq) × W .i64 × W .i64 × Unit) ((Bool × Unit) ⊕ (Unit × Unit))) :=
 .ite (W.lt t_17 t_16) (.opt (Sl.get? t_15 t_17) fun y1 =>
 .opt (Sl.get? s2 t_17) fun y2 =>
 .opt (F_core_memory_1 y1 y2) fun r3 =>
 .ite (!r3) (.ret (.out (.inl (false, ()))))
 (.ret (.next (s2, ((), ()), t_15, t_16, (W.add t_17 (W.of .i64 1)), ()))))
 (.ret (.out (.inr ((), ()))))
noncomputable def L_slices_EqualFunc_Lq_uint64_of_core_memory_1_11 (a : Sl 8 (W .u64) × ((Unit) × (Unit)) × Sl 48 (TLq) × W .i64 × W .i64 × Unit) : Option ((Bool × Unit) ⊕ (Unit × Unit)) := iter (fun a : Sl 8 (W .u64) × ((Unit) × (Unit)) × Sl 48 (TLq) × W .i64 × W .i64 × Unit => (B_slices_EqualFunc_Lq_uint64_of_core_memory_1_11 a.1 a.2.2.1 a.2.2.2.1 a.2.2.2.2.1).eval) fuel a
noncomputable def T_slices_EqualFunc_Lq_uint64_of_core_memory_1 (s1 : Sl 48 (TLq)) (s2 : Sl 8 (W .u64)) : Tree (Bool) :=
 .ite (W.ne (Sl.len s1) (Sl.len s2)) (.ret false)
 (.opt (L_slices_EqualFunc_Lq_uint64_of_core_memory_1_11 ((s2, ((), ()), s1, (Sl.len s1), (W.of .i64 0), ()))) fun o4 =>
 .sum o4 (fun p5 =>
 .ret p5.1)
 (fun o6 =>
 .ret true))
noncomputable def F_slices_EqualFunc_Lq_uint64_of_core_memory_1 (s1 : Sl 48 (TLq)) (s2 : Sl 8 (W .u64)) : Option (Bool) := (T_slices_EqualFunc_Lq_uint64_of_core_memory_1 s1 s2).eval
/- cotterel/core.memory$2 -/
noncomputable def T_core_memory_2 (e : TSq) (n_1 : W .u64) : Tree (Bool) :=
 .ret (W.eq e.Seq n_1)
noncomputable def F_core_memory_2 (e : TSq) (n_1 : W .u64) : Option (Bool) := (T_core_memory_2 e n_1).eval
/- slices.EqualFunc[[]cotterel/api.Sq,[]uint64,cotterel/api.Sq,uint64] -/
noncomputable def B_slices_EqualFunc_Sq_uint64_of_core_memory_2_11 (s2 : Sl 8 (W .u64)) (t_15 : Sl 32 (TSq)) (t_16 t_17 : W .i64) : Tree (Rnd (Sl 8 (W .u64) × ((Unit) × (Unit)) × Sl 32 (TSq) × W .i64 × W .i64 × Unit) ((Bool × Unit) ⊕ (Unit × Unit))) :=
 .ite (W.lt t_17 t_16) (.opt (Sl.get? t_15 t_17) fun y1 =>
 .opt (Sl.get? s2 t_17) fun y2 =>
 .opt (F_core_memory_2 y1 y2) fun r3 =>
 .ite (!r3) (.ret (.out (.inl (false, ()))))
 (.ret (.next (s2, ((), ()), t_15, t_16, (W.add t_17 (W.of .i64 1)), ()))))
 (.ret (.out (.inr ((), ()))))
noncomputable def L_slices_EqualFunc_Sq_uint64_of_core_memory_2_11 (a : Sl 8 (W .u64) × ((Unit) × (Unit)) × Sl 32 (TSq) × W .i64 × W .i64 × Unit) : Option ((Bool × Unit) ⊕ (Unit × Unit)) := iter (fun a : Sl 8 (W .u64) × ((Unit) × (Unit)) × Sl 32 (TSq) × W .i64 × W .i64 × Unit => (B_slices_EqualFunc_Sq_uint64_of_core_memory_2_11 a.1 a.2.2.1 a.2.2.2.1 a.2.2.2.2.1).eval) fuel a
noncomputable def T_slices_EqualFunc_Sq_uint64_of_core_memory_2 (s1 : Sl 32 (TSq)) (s2 : Sl 8 (W .u64)) : Tree (Bool) :=
 .ite (W.ne (Sl.len s1) (Sl.len s2)) (.ret false)
 (.opt (L_slices_EqualFunc_Sq_uint64_of_core_memory_2_11 ((s2, ((), ()), s1, (Sl.len s1), (W.of .i64 0), ()))) fun o4 =>
 .sum o4 (fun p5 =>
 .ret p5.1)
 (fun o6 =>
 .ret true))
noncomputable def F_slices_EqualFunc_Sq_uint64_of_core_memory_2 (s1 : Sl 32 (TSq)) (s2 : Sl 8 (W .u64)) : Option (Bool) := (T_slices_EqualFunc_Sq_uint64_of_core_memory_2 s1 s2).eval
/- cotterel/core.memory -/
noncomputable def T_core_memory (c : TCore) : Tree (Bool) :=
 .opt (F_core_seqs c (W.of .i64 5)) fun r1 =>
 .opt (F_slices_EqualFunc_Lq_uint64_of_core_memory_1 c.Lq r1) fun r2 =>
 .ite r2 (.opt (F_core_seqs c (W.of .i64 6)) fun r3 =>
 .opt (F_slices_EqualFunc_Sq_uint64_of_core_memory_2 c.Sq r3) fun r4 =>
 .ret r4)
 (.ret false)
noncomputable def F_core_memory (c : TCore) : Option (Bool) := (T_core_memory c).eval
/- cotterel/prf.Get -/
noncomputable def T_prf_Get (f : TPhys) (p : W .i64) : Tree (W .u32 × Bool) :=
 .opt (F_prf_has f p) fun r1 =>
 .ite (!r1) (.ret ((W.of .u32 0), true))
 (.opt (Sl.get? f.Ready p) fun y2 =>
 .ite (!y2) (.ret ((W.of .u32 0), false))
 (.opt (Sl.get? f.Val p) fun y3 =>
 .ret (y3, true)))
noncomputable def F_prf_Get (f : TPhys) (p : W .i64) : Option (W .u32 × Bool) := (T_prf_Get f p).eval
/- cotterel/prf.View -/
noncomputable def B_prf_View_7 (f : TPhys) (m : Arr 16 (W .i64)) (t_4 out : Arr 16 (W .u32)) (r : W .i64) : Tree (Rnd (TPhys × Arr 16 (W .i64) × Arr 16 (W .u32) × Arr 16 (W .u32) × W .i64 × Unit) (Arr 16 (W .u32) × Arr 16 (W .u32) × Unit)) :=
 .ite (W.lt r (W.of .i64 16)) (.opt (idx? 16 r) fun j1 =>
 .opt (F_prf_Get f (Arr.get m j1)) fun r2 =>
 .opt (idx? 16 r) fun j3 =>
 .ret (.next (f, m, t_4, (Arr.set out j3 r2.1), (W.add r (W.of .i64 1)), ())))
 (.ret (.out (t_4, out, ())))
noncomputable def L_prf_View_7 (a : TPhys × Arr 16 (W .i64) × Arr 16 (W .u32) × Arr 16 (W .u32) × W .i64 × Unit) : Option (Arr 16 (W .u32) × Arr 16 (W .u32) × Unit) := iter (fun a : TPhys × Arr 16 (W .i64) × Arr 16 (W .u32) × Arr 16 (W .u32) × W .i64 × Unit => (B_prf_View_7 a.1 a.2.1 a.2.2.1 a.2.2.2.1 a.2.2.2.2.1).eval) fuel a
noncomputable def T_prf_View (f : TPhys) (m : Arr 16 (W .i64)) : Tree (Arr 16 (W .u32)) :=
 .opt (L_prf_View_7 ((f, m, (Arr.rep 16 (W.of .u32 0) : Arr 16 (W .u32)), (Arr.rep 16 (W.of .u32 0) : Arr 16 (W .u32)), (W.of .i64 1), ()))) fun o4 =>
 .ret o4.2.1
noncomputable def F_prf_View (f : TPhys) (m : Arr 16 (W .i64)) : Option (Arr 16 (W .u32)) := (T_prf_View f m).eval
/- cotterel/core.valued$1 -/
noncomputable def T_core_valued_1 (e : TRob) (a : TCore) : Tree (Bool) :=
 .opt (F_prf_Get a.Phys e.Ren.Out) fun r1 =>
 .ite e.Done (.ite (W.eq e.Cause (W.of .i64 0)) (.ite (W.ne e.Ren.Out (W.of .i64 (-1))) (.ite (!r1.2) (.ret true)
 (.ret (W.ne r1.1 e.Val)))
 (.ret false))
 (.ret false))
 (.ret false)
noncomputable def F_core_valued_1 (e : TRob) (a : TCore) : Option (Bool) := (T_core_valued_1 e a).eval
/- slices.IndexFunc[[]cotterel/api.Rob,cotterel/api.Rob] -/
noncomputable def B_slices_IndexFunc_Rob_of_core_valued_1_5 (s : Sl 248 (TRob)) (fc0 : TCore) (t_7 t_8 : W .i64) : Tree (Rnd (Sl 248 (TRob) × ((Unit) × (TCore × Unit)) × W .i64 × W .i64 × Unit) ((W .i64 × Unit) ⊕ (Unit × Unit))) :=
 .ite (W.lt t_8 t_7) (.opt (Sl.get? s t_8) fun y1 =>
 .opt (F_core_valued_1 y1 fc0) fun r2 =>
 .ite r2 (.ret (.out (.inl (t_8, ()))))
 (.ret (.next (s, ((), (fc0, ())), t_7, (W.add t_8 (W.of .i64 1)), ()))))
 (.ret (.out (.inr ((), ()))))
noncomputable def L_slices_IndexFunc_Rob_of_core_valued_1_5 (a : Sl 248 (TRob) × ((Unit) × (TCore × Unit)) × W .i64 × W .i64 × Unit) : Option ((W .i64 × Unit) ⊕ (Unit × Unit)) := iter (fun a : Sl 248 (TRob) × ((Unit) × (TCore × Unit)) × W .i64 × W .i64 × Unit => (B_slices_IndexFunc_Rob_of_core_valued_1_5 a.1 a.2.1.2.1 a.2.2.1 a.2.2.2.1).eval) fuel a
noncomputable def T_slices_IndexFunc_Rob_of_core_valued_1 (s : Sl 248 (TRob)) (fc0 : TCore) : Tree (W .i64) :=
 .opt (L_slices_IndexFunc_Rob_of_core_valued_1_5 ((s, ((), (fc0, ())), (Sl.len s), (W.of .i64 0), ()))) fun o3 =>
 .sum o3 (fun p4 =>
 .ret p4.1)
 (fun o5 =>
 .ret (W.of .i64 (-1)))
noncomputable def F_slices_IndexFunc_Rob_of_core_valued_1 (s : Sl 248 (TRob)) (fc0 : TCore) : Option (W .i64) := (T_slices_IndexFunc_Rob_of_core_valued_1 s fc0).eval
/- slices.ContainsFunc[[]cotterel/api.Rob,cotterel/api.Rob] -/
noncomputable def T_slices_ContainsFunc_Rob_of_core_valued_1 (s : Sl 248 (TRob)) (fc0 : TCore) : Tree (Bool) :=
 .opt (F_slices_IndexFunc_Rob_of_core_valued_1 s fc0) fun r1 =>
 .ret (W.ge r1 (W.of .i64 0))
noncomputable def F_slices_ContainsFunc_Rob_of_core_valued_1 (s : Sl 248 (TRob)) (fc0 : TCore) : Option (Bool) := (T_slices_ContainsFunc_Rob_of_core_valued_1 s fc0).eval
/- cotterel/core.valued -/
noncomputable def T_core_valued (c : TCore) : Tree (Bool) :=
 .opt (F_slices_ContainsFunc_Rob_of_core_valued_1 c.Rob c) fun r1 =>
 .ret (!r1)
noncomputable def F_core_valued (c : TCore) : Option (Bool) := (T_core_valued c).eval
/- cotterel/core.Broken -/
noncomputable def B_core_Broken_15 (l_5 : Sl 8 (W .i64)) (t_55 : Sl 1 (Bool)) (t_56 t_57 : W .i64) : Tree (Rnd (Sl 8 (W .i64) × Sl 1 (Bool) × W .i64 × W .i64 × Unit) (Sl 8 (W .i64) × Unit)) :=
 .ite (W.lt t_57 t_56) (.opt (idx? (List.length t_55.l) t_57) fun j13 =>
 .ite (!(List.getD t_55.l j13 false)) (.opt (Sl.app? l_5 (Sl.lit 8 [(W.add t_57 (W.of .i64 2))] rfl : Sl 8 (W .i64))) fun l14 =>
 .ret (.next (l14, t_55, t_56, (W.add t_57 (W.of .i64 1)), ())))
 (.ret (.next (l_5, t_55, t_56, (W.add t_57 (W.of .i64 1)), ()))))
 (.ret (.out (l_5, ())))
noncomputable def L_core_Broken_15 (a : Sl 8 (W .i64) × Sl 1 (Bool) × W .i64 × W .i64 × Unit) : Option (Sl 8 (W .i64) × Unit) := iter (fun a : Sl 8 (W .i64) × Sl 1 (Bool) × W .i64 × W .i64 × Unit => (B_core_Broken_15 a.1 a.2.1 a.2.2.1 a.2.2.2.1).eval) fuel a
noncomputable def T_core_Broken (c : TCore) : Tree (Sl 8 (W .i64)) :=
 .opt (F_core_rooms c) fun r1 =>
 .ite (!r1) (.ret (Sl.lit 8 [(W.of .i64 1)] rfl : Sl 8 (W .i64)))
 (.opt (F_core_queued c) fun r2 =>
 .opt (F_core_ordered c) fun r3 =>
 .opt (F_core_rens c) fun r4 =>
 .opt (F_rename_Right c.Names c.Conf.Phys r4) fun r5 =>
 .opt (F_core_flying c r2.1) fun r6 =>
 .opt (F_core_flying c r2.2) fun r7 =>
 .ite r7 (.opt (F_core_apart r2.1 r2.2) fun r8 =>
 .opt (F_core_memory c) fun r9 =>
 .opt (F_prf_View c.Phys c.Names.Done) fun r10 =>
 .opt (F_core_clean c.A) fun r11 =>
 .opt (F_core_valued c) fun r12 =>
 .opt (L_core_Broken_15 (((Sl.nil : Sl 8 (W .i64)), (Sl.lit 1 [r3, r5, r6, r8, r9, (Tab.eq tab (.arr 16 (.int .u32)) r10 c.A.R), r11, r12] rfl : Sl 1 (Bool)), (W.of .i64 8), (W.of .i64 0), ()))) fun o15 =>
 .ret o15.1)
 (.opt (F_core_memory c) fun r16 =>
 .opt (F_prf_View c.Phys c.Names.Done) fun r17 =>
 .opt (F_core_clean c.A) fun r18 =>
 .opt (F_core_valued c) fun r19 =>
 .opt (L_core_Broken_15 (((Sl.nil : Sl 8 (W .i64)), (Sl.lit 1 [r3, r5, r6, false, r16, (Tab.eq tab (.arr 16 (.int .u32)) r17 c.A.R), r18, r19] rfl : Sl 1 (Bool)), (W.of .i64 8), (W.of .i64 0), ()))) fun o20 =>
 .ret o20.1))
noncomputable def F_core_Broken (c : TCore) : Option (Sl 8 (W .i64)) := (T_core_Broken c).eval
/- cotterel/core.Arch -/
noncomputable def T_core_Arch (c : TCore) : Tree (TArch) :=
 .ret c.A
noncomputable def F_core_Arch (c : TCore) : Option (TArch) := (T_core_Arch c).eval
/- cotterel/cotterellaw42.awake -/
noncomputable def T_law42_awake  : Tree (Bool) :=
 .opt (Sl.make? 1 (W.of .u8 0) (W.of .i64 64) (W.of .i64 64)) fun l1 =>
 .opt (Sl.make? 1 (W.of .u8 0) (W.of .i64 64) (W.of .i64 64)) fun l2 =>
 .opt (F_core_Plain) fun r3 =>
 .opt (F_core_New r3 (TMach.mk (TArch.mk (W.of .u32 0) (Arr.set (Arr.rep 16 (W.of .u32 0) : Arr 16 (W .u32)) 3 (W.of .u32 7)) (Arr.rep 12 (W.of .u32 0) : Arr 12 (W .u32)) false) l1 l2 (Sl.nil : Sl 4 (W .u32)))) fun r4 =>
 .opt (F_core_Plain) fun r5 =>
 .ite (W.eq r4.2 (W.of .i64 0)) (.opt (F_core_Empty r4.1) fun r6 =>
 .ite r6 (.opt (F_core_Broken r4.1) fun r7 =>
 .ite (W.eq (Sl.len r7) (W.of .i64 0)) (.opt (F_core_Arch r4.1) fun r8 =>
 .ite (W.eq (Arr.get r8.R 3) (W.of .u32 7)) (.ite (W.eq (Sl.len r4.1.Phys.Val) (W.of .i64 32)) (.opt (Sl.get? r4.1.Phys.Val (W.of .i64 3)) fun y9 =>
 .ite (W.eq y9 (W.of .u32 7)) (.opt (F_core_Conf ({ r5 with Rob := (W.of .i64 1) } : TConf)) fun r10 =>
 .ret (W.eq r10 (W.of .i64 3)))
 (.ret false))
 (.ret false))
 (.ret false))
 (.ret false))
 (.ret false))
 (.ret false)
noncomputable def F_law42_awake  : Option (Bool) := (T_law42_awake).eval
/- cotterel/cotterelref42.in -/
noncomputable def T_ref42_in (n_0 from_1 to_2 : W .i64) : Tree (Bool) :=
 .ite (W.ge n_0 from_1) (.ret (W.le n_0 to_2))
 (.ret false)
noncomputable def F_ref42_in (n_0 from_1 to_2 : W .i64) : Option (Bool) := (T_ref42_in n_0 from_1 to_2).eval
/- cotterel/cotterelref42.Conf -/
noncomputable def B_ref42_Conf_11 (t_113 : Bool) : Tree ((W .i64 × Unit) ⊕ (Unit × Unit)) :=
 .ite t_113 (.ret (.inl ((W.of .i64 0), ())))
 (.ret (.inr ((), ())))
noncomputable def L_ref42_Conf_11 (a : Bool × Unit) : Option ((W .i64 × Unit) ⊕ (Unit × Unit)) := (B_ref42_Conf_11 a.1).eval
noncomputable def B_ref42_Conf_15  : Tree (W .i64 × Unit) :=
 .ret ((W.of .i64 3), ())
noncomputable def L_ref42_Conf_15 (a : Unit) : Option (W .i64 × Unit) := (B_ref42_Conf_15).eval
noncomputable def B_ref42_Conf_9 (wide rooms guesses times : Bool) : Tree (W .i64 × Unit) :=
 .ite wide (.ite rooms (.ite guesses (.opt (L_ref42_Conf_11 ((times, ()))) fun o22 =>
 .sum o22 (fun p23 =>
 .ret (p23.1, ()))
 (fun o24 =>
 .opt (L_ref42_Conf_15 (())) fun o25 =>
 .ret (o25.1, ())))
 (.opt (L_ref42_Conf_11 ((false, ()))) fun o26 =>
 .sum o26 (fun p27 =>
 .ret (p27.1, ()))
 (fun o28 =>
 .opt (L_ref42_Conf_15 (())) fun o29 =>
 .ret (o29.1, ()))))
 (.opt (L_ref42_Conf_11 ((false, ()))) fun o30 =>
 .sum o30 (fun p31 =>
 .ret (p31.1, ()))
 (fun o32 =>
 .opt (L_ref42_Conf_15 (())) fun o33 =>
 .ret (o33.1, ()))))
 (.opt (L_ref42_Conf_11 ((false, ()))) fun o34 =>
 .sum o34 (fun p35 =>
 .ret (p35.1, ()))
 (fun o36 =>
 .opt (L_ref42_Conf_15 (())) fun o37 =>
 .ret (o37.1, ())))
noncomputable def L_ref42_Conf_9 (a : Bool × Bool × Bool × Bool × Unit) : Option (W .i64 × Unit) := (B_ref42_Conf_9 a.1 a.2.1 a.2.2.1 a.2.2.2.1).eval
noncomputable def B_ref42_Conf_7 (c : TConf) (wide rooms guesses : Bool) : Tree (W .i64 × Unit) :=
 .opt (F_ref42_in c.MulLat (W.of .i64 1) (W.of .i64 32)) fun r17 =>
 .ite r17 (.opt (F_ref42_in c.DivLat (W.of .i64 1) (W.of .i64 32)) fun r18 =>
 .ite r18 (.opt (F_ref42_in c.MemLat (W.of .i64 1) (W.of .i64 32)) fun r19 =>
 .ite r19 (.opt (F_ref42_in c.Sets (W.of .i64 1) (W.of .i64 8)) fun r20 =>
 .ite r20 (.opt (F_ref42_in c.Ways (W.of .i64 1) (W.of .i64 4)) fun r21 =>
 .opt (L_ref42_Conf_9 ((wide, rooms, guesses, r21, ()))) fun o38 =>
 .ret (o38.1, ()))
 (.opt (L_ref42_Conf_9 ((wide, rooms, guesses, false, ()))) fun o39 =>
 .ret (o39.1, ())))
 (.opt (L_ref42_Conf_9 ((wide, rooms, guesses, false, ()))) fun o40 =>
 .ret (o40.1, ())))
 (.opt (L_ref42_Conf_9 ((wide, rooms, guesses, false, ()))) fun o41 =>
 .ret (o41.1, ())))
 (.opt (L_ref42_Conf_9 ((wide, rooms, guesses, false, ()))) fun o42 =>
 .ret (o42.1, ()))
noncomputable def L_ref42_Conf_7 (a : TConf × Bool × Bool × Bool × Unit) : Option (W .i64 × Unit) := (B_ref42_Conf_7 a.1 a.2.1 a.2.2.1 a.2.2.2.1).eval
noncomputable def B_ref42_Conf_5 (c : TConf) (wide rooms : Bool) : Tree (W .i64 × Unit) :=
 .opt (F_ref42_in c.Hist (W.of .i64 0) (W.of .i64 8)) fun r12 =>
 .ite r12 (.opt (F_ref42_in c.Btb (W.of .i64 0) (W.of .i64 16)) fun r13 =>
 .ite r13 (.opt (F_ref42_in c.Ras (W.of .i64 0) (W.of .i64 16)) fun r14 =>
 .ite r14 (.opt (F_ref42_in c.Dep (W.of .i64 0) (W.of .i64 16)) fun r15 =>
 .ite r15 (.opt (F_ref42_in c.Tlb (W.of .i64 0) (W.of .i64 8)) fun r16 =>
 .opt (L_ref42_Conf_7 ((c, wide, rooms, r16, ()))) fun o43 =>
 .ret (o43.1, ()))
 (.opt (L_ref42_Conf_7 ((c, wide, rooms, false, ()))) fun o44 =>
 .ret (o44.1, ())))
 (.opt (L_ref42_Conf_7 ((c, wide, rooms, false, ()))) fun o45 =>
 .ret (o45.1, ())))
 (.opt (L_ref42_Conf_7 ((c, wide, rooms, false, ()))) fun o46 =>
 .ret (o46.1, ())))
 (.opt (L_ref42_Conf_7 ((c, wide, rooms, false, ()))) fun o47 =>
 .ret (o47.1, ()))
noncomputable def L_ref42_Conf_5 (a : TConf × Bool × Bool × Unit) : Option (W .i64 × Unit) := (B_ref42_Conf_5 a.1 a.2.1 a.2.2.1).eval
noncomputable def B_ref42_Conf_3 (c : TConf) (wide : Bool) : Tree (W .i64 × Unit) :=
 .opt (F_ref42_in c.Queue (W.of .i64 1) (W.of .i64 16)) fun r5 =>
 .ite r5 (.opt (F_ref42_in c.Rob (W.of .i64 2) (W.of .i64 64)) fun r6 =>
 .ite r6 (.opt (F_ref42_in c.Iq (W.of .i64 2) (W.of .i64 32)) fun r7 =>
 .ite r7 (.opt (F_ref42_in c.Lq (W.of .i64 1) (W.of .i64 16)) fun r8 =>
 .ite r8 (.opt (F_ref42_in c.Sq (W.of .i64 1) (W.of .i64 16)) fun r9 =>
 .ite r9 (.opt (F_ref42_in c.Sb (W.of .i64 1) (W.of .i64 8)) fun r10 =>
 .ite r10 (.opt (F_ref42_in c.Phys (W.of .i64 18) (W.of .i64 96)) fun r11 =>
 .opt (L_ref42_Conf_5 ((c, wide, r11, ()))) fun o48 =>
 .ret (o48.1, ()))
 (.opt (L_ref42_Conf_5 ((c, wide, false, ()))) fun o49 =>
 .ret (o49.1, ())))
 (.opt (L_ref42_Conf_5 ((c, wide, false, ()))) fun o50 =>
 .ret (o50.1, ())))
 (.opt (L_ref42_Conf_5 ((c, wide, false, ()))) fun o51 =>
 .ret (o51.1, ())))
 (.opt (L_ref42_Conf_5 ((c, wide, false, ()))) fun o52 =>
 .ret (o52.1, ())))
 (.opt (L_ref42_Conf_5 ((c, wide, false, ()))) fun o53 =>
 .ret (o53.1, ())))
 (.opt (L_ref42_Conf_5 ((c, wide, false, ()))) fun o54 =>
 .ret (o54.1, ()))
noncomputable def L_ref42_Conf_3 (a : TConf × Bool × Unit) : Option (W .i64 × Unit) := (B_ref42_Conf_3 a.1 a.2.1).eval
noncomputable def T_ref42_Conf (c : TConf) : Tree (W .i64) :=
 .opt (F_ref42_in c.Fetch (W.of .i64 1) (W.of .i64 4)) fun r1 =>
 .ite r1 (.opt (F_ref42_in c.Wide (W.of .i64 1) (W.of .i64 4)) fun r2 =>
 .ite r2 (.opt (F_ref42_in c.Issue (W.of .i64 1) (W.of .i64 4)) fun r3 =>
 .ite r3 (.opt (F_ref42_in c.Retire (W.of .i64 1) (W.of .i64 4)) fun r4 =>
 .opt (L_ref42_Conf_3 ((c, r4, ()))) fun o55 =>
 .ret o55.1)
 (.opt (L_ref42_Conf_3 ((c, false, ()))) fun o56 =>
 .ret o56.1))
 (.opt (L_ref42_Conf_3 ((c, false, ()))) fun o57 =>
 .ret o57.1))
 (.opt (L_ref42_Conf_3 ((c, false, ()))) fun o58 =>
 .ret o58.1)
noncomputable def F_ref42_Conf (c : TConf) : Option (W .i64) := (T_ref42_Conf c).eval
/- cotterel/cotterelref42.rooms -/
noncomputable def T_ref42_rooms (c : TCore) : Tree (Bool) :=
 .opt (F_ref42_Conf c.Conf) fun r1 =>
 .ite (W.eq r1 (W.of .i64 0)) (.ite (W.le (Sl.len c.Queue) c.Conf.Queue) (.ite (W.le (Sl.len c.Rob) c.Conf.Rob) (.ite (W.le (Sl.len c.Iq) c.Conf.Iq) (.ite (W.le (Sl.len c.Lq) c.Conf.Lq) (.ite (W.le (Sl.len c.Sq) c.Conf.Sq) (.ite (W.le (Sl.len c.Sb) c.Conf.Sb) (.ite (W.eq (Sl.len c.Phys.Val) c.Conf.Phys) (.ite (W.eq (Sl.len c.Phys.Ready) c.Conf.Phys) (.ite (W.eq (Sl.len c.Tlb) c.Conf.Tlb) (.ret (W.eq (Sl.len c.Dep) c.Conf.Dep))
 (.ret false))
 (.ret false))
 (.ret false))
 (.ret false))
 (.ret false))
 (.ret false))
 (.ret false))
 (.ret false))
 (.ret false))
 (.ret false)
noncomputable def F_ref42_rooms (c : TCore) : Option (Bool) := (T_ref42_rooms c).eval
/- cotterel/cotterelref29.Right -/
noncomputable def B_ref29_Right_5 (l_0 : Sl 248 (TRob)) (i : W .i64) : Tree (Rnd (Sl 248 (TRob) × W .i64 × Unit) ((Sl 248 (TRob) × Bool × Unit) ⊕ (Sl 248 (TRob) × Unit × Unit))) :=
 .ite (W.lt i (Sl.len l_0)) (.opt (Sl.get? l_0 i) fun y1 =>
 .ite (W.lt y1.Ren.Seq (W.of .u64 1)) (.ret (.out (.inl (l_0, false, ()))))
 (.ite (W.gt i (W.of .i64 0)) (.opt (Sl.get? l_0 i) fun y2 =>
 .opt (Sl.get? l_0 (W.sub i (W.of .i64 1))) fun y3 =>
 .ite (W.le y2.Ren.Seq y3.Ren.Seq) (.ret (.out (.inl (l_0, false, ()))))
 (.ite (W.gt i (W.of .i64 0)) (.opt (Sl.get? l_0 (W.sub i (W.of .i64 1))) fun y4 =>
 .ite (!y4.Ren.Uop.Last) (.opt (Sl.get? l_0 (W.sub i (W.of .i64 1))) fun y5 =>
 .opt (Sl.get? l_0 i) fun y6 =>
 .ite (W.ne y6.Ren.Uop.Part (W.add y5.Ren.Uop.Part (W.of .i64 1))) (.ret (.out (.inl (l_0, false, ()))))
 (.ret (.next (l_0, (W.add i (W.of .i64 1)), ()))))
 (.opt (Sl.get? l_0 i) fun y7 =>
 .ite (W.ne y7.Ren.Uop.Part (W.of .i64 0)) (.ret (.out (.inl (l_0, false, ()))))
 (.ret (.next (l_0, (W.add i (W.of .i64 1)), ())))))
 (.opt (Sl.get? l_0 i) fun y8 =>
 .ite (W.ne y8.Ren.Uop.Part (W.of .i64 0)) (.ret (.out (.inl (l_0, false, ()))))
 (.ret (.next (l_0, (W.add i (W.of .i64 1)), ()))))))
 (.ite (W.gt i (W.of .i64 0)) (.opt (Sl.get? l_0 (W.sub i (W.of .i64 1))) fun y9 =>
 .ite (!y9.Ren.Uop.Last) (.opt (Sl.get? l_0 (W.sub i (W.of .i64 1))) fun y10 =>
 .opt (Sl.get? l_0 i) fun y11 =>
 .ite (W.ne y11.Ren.Uop.Part (W.add y10.Ren.Uop.Part (W.of .i64 1))) (.ret (.out (.inl (l_0, false, ()))))
 (.ret (.next (l_0, (W.add i (W.of .i64 1)), ()))))
 (.opt (Sl.get? l_0 i) fun y12 =>
 .ite (W.ne y12.Ren.Uop.Part (W.of .i64 0)) (.ret (.out (.inl (l_0, false, ()))))
 (.ret (.next (l_0, (W.add i (W.of .i64 1)), ())))))
 (.opt (Sl.get? l_0 i) fun y13 =>
 .ite (W.ne y13.Ren.Uop.Part (W.of .i64 0)) (.ret (.out (.inl (l_0, false, ()))))
 (.ret (.next (l_0, (W.add i (W.of .i64 1)), ())))))))
 (.ret (.out (.inr (l_0, (), ()))))
noncomputable def L_ref29_Right_5 (a : Sl 248 (TRob) × W .i64 × Unit) : Option ((Sl 248 (TRob) × Bool × Unit) ⊕ (Sl 248 (TRob) × Unit × Unit)) := iter (fun a : Sl 248 (TRob) × W .i64 × Unit => (B_ref29_Right_5 a.1 a.2.1).eval) fuel a
noncomputable def T_ref29_Right (l_0 : Sl 248 (TRob)) : Tree (Bool) :=
 .opt (L_ref29_Right_5 ((l_0, (W.of .i64 0), ()))) fun o14 =>
 .sum o14 (fun p15 =>
 .ret p15.2.1)
 (fun o16 =>
 .ite (W.eq (Sl.len o16.1) (W.of .i64 0)) (.ret true)
 (.opt (Sl.get? o16.1 (W.sub (Sl.len o16.1) (W.of .i64 1))) fun y17 =>
 .ret y17.Ren.Uop.Last))
noncomputable def F_ref29_Right (l_0 : Sl 248 (TRob)) : Option (Bool) := (T_ref29_Right l_0).eval
/- cotterel/cotterelref26.Right -/
noncomputable def B_ref26_Right_26 (n_1 : W .i64) (m : Arr 16 (W .i64)) (r k : W .i64) : Tree (Rnd (W .i64 × Arr 16 (W .i64) × W .i64 × W .i64 × Unit) ((W .i64 × Arr 16 (W .i64) × Bool × W .i64 × Unit) ⊕ (W .i64 × Arr 16 (W .i64) × Unit × W .i64 × Unit))) :=
 .ite (W.lt k r) (.opt (idx? 16 k) fun j3 =>
 .opt (idx? 16 r) fun j4 =>
 .ite (W.eq (Arr.get m j3) (Arr.get m j4)) (.ret (.out (.inl (n_1, m, false, r, ()))))
 (.ret (.next (n_1, m, r, (W.add k (W.of .i64 1)), ()))))
 (.ret (.out (.inr (n_1, m, (), r, ()))))
noncomputable def L_ref26_Right_26 (a : W .i64 × Arr 16 (W .i64) × W .i64 × W .i64 × Unit) : Option ((W .i64 × Arr 16 (W .i64) × Bool × W .i64 × Unit) ⊕ (W .i64 × Arr 16 (W .i64) × Unit × W .i64 × Unit)) := iter (fun a : W .i64 × Arr 16 (W .i64) × W .i64 × W .i64 × Unit => (B_ref26_Right_26 a.1 a.2.1 a.2.2.1 a.2.2.2.1).eval) fuel a
noncomputable def B_ref26_Right_11 (n_1 : W .i64) (m : Arr 16 (W .i64)) (r : W .i64) : Tree (Rnd (W .i64 × Arr 16 (W .i64) × W .i64 × Unit) ((Bool × Unit) ⊕ (Unit × Unit))) :=
 .ite (W.lt r (W.of .i64 16)) (.opt (idx? 16 r) fun j1 =>
 .ite (W.lt (Arr.get m j1) (W.of .i64 1)) (.ret (.out (.inl (false, ()))))
 (.opt (idx? 16 r) fun j2 =>
 .ite (W.ge (Arr.get m j2) n_1) (.ret (.out (.inl (false, ()))))
 (.opt (L_ref26_Right_26 ((n_1, m, r, (W.of .i64 1), ()))) fun o5 =>
 .sum o5 (fun p6 =>
 .ret (.out (.inl (p6.2.2.1, ()))))
 (fun o7 =>
 .ret (.next (o7.1, o7.2.1, (W.add o7.2.2.2.1 (W.of .i64 1)), ()))))))
 (.ret (.out (.inr ((), ()))))
noncomputable def L_ref26_Right_11 (a : W .i64 × Arr 16 (W .i64) × W .i64 × Unit) : Option ((Bool × Unit) ⊕ (Unit × Unit)) := iter (fun a : W .i64 × Arr 16 (W .i64) × W .i64 × Unit => (B_ref26_Right_11 a.1 a.2.1 a.2.2.1).eval) fuel a
noncomputable def T_ref26_Right (m : Arr 16 (W .i64)) (n_1 : W .i64) : Tree (Bool) :=
 .ite (W.ne (Arr.get m 0) (W.of .i64 (-1))) (.ret false)
 (.opt (L_ref26_Right_11 ((n_1, m, (W.of .i64 1), ()))) fun o8 =>
 .sum o8 (fun p9 =>
 .ret p9.1)
 (fun o10 =>
 .ret true))
noncomputable def F_ref26_Right (m : Arr 16 (W .i64)) (n_1 : W .i64) : Option (Bool) := (T_ref26_Right m n_1).eval
/- cotterel/cotterelref25.Is -/
noncomputable def T_ref25_Is (f : TFree) : Tree (Bool) :=
 .ite (W.gt (Sl.len f.Ring) (W.of .i64 96)) (.ret false)
 (.ite (W.lt f.N (W.of .i64 0)) (.ret false)
 (.ite (W.gt f.N (Sl.len f.Ring)) (.ret false)
 (.ite (W.ge f.Head (W.of .i64 0)) (.ite (W.lt f.Head (Sl.len f.Ring)) (.ret true)
 (.ite (W.eq (Sl.len f.Ring) (W.of .i64 0)) (.ret (W.eq f.Head (W.of .i64 0)))
 (.ret false)))
 (.ite (W.eq (Sl.len f.Ring) (W.of .i64 0)) (.ret (W.eq f.Head (W.of .i64 0)))
 (.ret false)))))
noncomputable def F_ref25_Is (f : TFree) : Option (Bool) := (T_ref25_Is f).eval
/- cotterel/cotterelref25.List -/
noncomputable def B_ref25_List_13 (f : TFree) (out : Sl 8 (W .i64)) (i : W .i64) : Tree (Rnd (TFree × Sl 8 (W .i64) × W .i64 × Unit) (Sl 8 (W .i64) × Unit)) :=
 .ite (W.lt i f.N) (.opt (W.rem? (W.add f.Head i) (Sl.len f.Ring)) fun z2 =>
 .opt (Sl.get? f.Ring z2) fun y3 =>
 .opt (Sl.app? out (Sl.lit 8 [y3] rfl : Sl 8 (W .i64))) fun l4 =>
 .ret (.next (f, l4, (W.add i (W.of .i64 1)), ())))
 (.ret (.out (out, ())))
noncomputable def L_ref25_List_13 (a : TFree × Sl 8 (W .i64) × W .i64 × Unit) : Option (Sl 8 (W .i64) × Unit) := iter (fun a : TFree × Sl 8 (W .i64) × W .i64 × Unit => (B_ref25_List_13 a.1 a.2.1 a.2.2.1).eval) fuel a
noncomputable def T_ref25_List (f : TFree) : Tree (Sl 8 (W .i64)) :=
 .opt (F_ref25_Is f) fun r1 =>
 .ite (!r1) (.ret (Sl.lit 8 [] rfl : Sl 8 (W .i64)))
 (.opt (L_ref25_List_13 ((f, (Sl.lit 8 [] rfl : Sl 8 (W .i64)), (W.of .i64 0), ()))) fun o5 =>
 .ret o5.1)
noncomputable def F_ref25_List (f : TFree) : Option (Sl 8 (W .i64)) := (T_ref25_List f).eval
/- cotterel/cotterelref25.Right -/
noncomputable def B_ref25_Right_28 (n_1 : W .i64) (l_5 : Sl 8 (W .i64)) (i k : W .i64) : Tree (Rnd (W .i64 × Sl 8 (W .i64) × W .i64 × W .i64 × Unit) ((W .i64 × Bool × Sl 8 (W .i64) × W .i64 × Unit) ⊕ (W .i64 × Unit × Sl 8 (W .i64) × W .i64 × Unit))) :=
 .ite (W.lt k i) (.opt (idx? (List.length l_5.l) k) fun j5 =>
 .opt (idx? (List.length l_5.l) i) fun j6 =>
 .ite (W.eq (List.getD l_5.l j5 (W.of .i64 0)) (List.getD l_5.l j6 (W.of .i64 0))) (.ret (.out (.inl (n_1, false, l_5, i, ()))))
 (.ret (.next (n_1, l_5, i, (W.add k (W.of .i64 1)), ()))))
 (.ret (.out (.inr (n_1, (), l_5, i, ()))))
noncomputable def L_ref25_Right_28 (a : W .i64 × Sl 8 (W .i64) × W .i64 × W .i64 × Unit) : Option ((W .i64 × Bool × Sl 8 (W .i64) × W .i64 × Unit) ⊕ (W .i64 × Unit × Sl 8 (W .i64) × W .i64 × Unit)) := iter (fun a : W .i64 × Sl 8 (W .i64) × W .i64 × W .i64 × Unit => (B_ref25_Right_28 a.1 a.2.1 a.2.2.1 a.2.2.2.1).eval) fuel a
noncomputable def B_ref25_Right_13 (n_1 : W .i64) (l_5 : Sl 8 (W .i64)) (i : W .i64) : Tree (Rnd (W .i64 × Sl 8 (W .i64) × W .i64 × Unit) ((Bool × Unit) ⊕ (Unit × Unit))) :=
 .ite (W.lt i (Sl.len l_5)) (.opt (idx? (List.length l_5.l) i) fun j3 =>
 .ite (W.lt (List.getD l_5.l j3 (W.of .i64 0)) (W.of .i64 0)) (.ret (.out (.inl (false, ()))))
 (.opt (idx? (List.length l_5.l) i) fun j4 =>
 .ite (W.ge (List.getD l_5.l j4 (W.of .i64 0)) n_1) (.ret (.out (.inl (false, ()))))
 (.opt (L_ref25_Right_28 ((n_1, l_5, i, (W.of .i64 0), ()))) fun o7 =>
 .sum o7 (fun p8 =>
 .ret (.out (.inl (p8.2.1, ()))))
 (fun o9 =>
 .ret (.next (o9.1, o9.2.2.1, (W.add o9.2.2.2.1 (W.of .i64 1)), ()))))))
 (.ret (.out (.inr ((), ()))))
noncomputable def L_ref25_Right_13 (a : W .i64 × Sl 8 (W .i64) × W .i64 × Unit) : Option ((Bool × Unit) ⊕ (Unit × Unit)) := iter (fun a : W .i64 × Sl 8 (W .i64) × W .i64 × Unit => (B_ref25_Right_13 a.1 a.2.1 a.2.2.1).eval) fuel a
noncomputable def T_ref25_Right (f : TFree) (n_1 : W .i64) : Tree (Bool) :=
 .opt (F_ref25_Is f) fun r1 =>
 .ite (!r1) (.ret false)
 (.ite (W.ne (Sl.len f.Ring) n_1) (.ret false)
 (.opt (F_ref25_List f) fun r2 =>
 .opt (L_ref25_Right_13 ((n_1, r2, (W.of .i64 0), ()))) fun o10 =>
 .sum o10 (fun p11 =>
 .ret p11.1)
 (fun o12 =>
 .ret true)))
noncomputable def F_ref25_Right (f : TFree) (n_1 : W .i64) : Option (Bool) := (T_ref25_Right f n_1).eval
/- cotterel/cotterelref28.Writes -/
noncomputable def T_ref28_Writes (u : TUop) : Tree (Bool) :=
 .ite (W.ge u.Dst (W.of .i64 1)) (.ret (W.le u.Dst (W.of .i64 15)))
 (.ret false)
noncomputable def F_ref28_Writes (u : TUop) : Option (Bool) := (T_ref28_Writes u).eval
/- cotterel/cotterelref28.times -/
noncomputable def B_ref28_times_7 (l_0 : Sl 8 (W .i64)) (p n_5 i : W .i64) : Tree (Rnd (Sl 8 (W .i64) × W .i64 × W .i64 × W .i64 × Unit) (W .i64 × Unit)) :=
 .ite (W.lt i (Sl.len l_0)) (.opt (Sl.get? l_0 i) fun y1 =>
 .ite (W.eq y1 p) (.ret (.next (l_0, p, (W.add n_5 (W.of .i64 1)), (W.add i (W.of .i64 1)), ())))
 (.ret (.next (l_0, p, n_5, (W.add i (W.of .i64 1)), ()))))
 (.ret (.out (n_5, ())))
noncomputable def L_ref28_times_7 (a : Sl 8 (W .i64) × W .i64 × W .i64 × W .i64 × Unit) : Option (W .i64 × Unit) := iter (fun a : Sl 8 (W .i64) × W .i64 × W .i64 × W .i64 × Unit => (B_ref28_times_7 a.1 a.2.1 a.2.2.1 a.2.2.2.1).eval) fuel a
noncomputable def T_ref28_times (l_0 : Sl 8 (W .i64)) (p : W .i64) : Tree (W .i64) :=
 .opt (L_ref28_times_7 ((l_0, p, (W.of .i64 0), (W.of .i64 0), ()))) fun o2 =>
 .ret o2.1
noncomputable def F_ref28_times (l_0 : Sl 8 (W .i64)) (p : W .i64) : Option (W .i64) := (T_ref28_times l_0 p).eval
/- cotterel/cotterelref28.parted -/
noncomputable def B_ref28_parted_7 (n_1 : W .i64) (flying : Sl 216 (TRen)) (s : TNames) (all : Sl 8 (W .i64)) (k : W .i64) : Tree (Rnd (W .i64 × Sl 216 (TRen) × TNames × Sl 8 (W .i64) × W .i64 × Unit) (W .i64 × Sl 216 (TRen) × Sl 8 (W .i64) × Unit)) :=
 .ite (W.lt k (W.of .i64 16)) (.opt (idx? 16 k) fun j2 =>
 .opt (Sl.app? all (Sl.lit 8 [(Arr.get s.Done j2)] rfl : Sl 8 (W .i64))) fun l3 =>
 .ret (.next (n_1, flying, s, l3, (W.add k (W.of .i64 1)), ())))
 (.ret (.out (n_1, flying, all, ())))
noncomputable def L_ref28_parted_7 (a : W .i64 × Sl 216 (TRen) × TNames × Sl 8 (W .i64) × W .i64 × Unit) : Option (W .i64 × Sl 216 (TRen) × Sl 8 (W .i64) × Unit) := iter (fun a : W .i64 × Sl 216 (TRen) × TNames × Sl 8 (W .i64) × W .i64 × Unit => (B_ref28_parted_7 a.1 a.2.1 a.2.2.1 a.2.2.2.1 a.2.2.2.2.1).eval) fuel a
noncomputable def B_ref28_parted_20 (n_1 : W .i64) (flying : Sl 216 (TRen)) (all : Sl 8 (W .i64)) (i : W .i64) : Tree (Rnd (W .i64 × Sl 216 (TRen) × Sl 8 (W .i64) × W .i64 × Unit) (W .i64 × Sl 8 (W .i64) × Unit)) :=
 .ite (W.lt i (Sl.len flying)) (.opt (Sl.get? flying i) fun y5 =>
 .ite (W.ne y5.Out (W.of .i64 (-1))) (.opt (Sl.get? flying i) fun y6 =>
 .opt (Sl.app? all (Sl.lit 8 [y6.Out] rfl : Sl 8 (W .i64))) fun l7 =>
 .ret (.next (n_1, flying, l7, (W.add i (W.of .i64 1)), ())))
 (.ret (.next (n_1, flying, all, (W.add i (W.of .i64 1)), ()))))
 (.ret (.out (n_1, all, ())))
noncomputable def L_ref28_parted_20 (a : W .i64 × Sl 216 (TRen) × Sl 8 (W .i64) × W .i64 × Unit) : Option (W .i64 × Sl 8 (W .i64) × Unit) := iter (fun a : W .i64 × Sl 216 (TRen) × Sl 8 (W .i64) × W .i64 × Unit => (B_ref28_parted_20 a.1 a.2.1 a.2.2.1 a.2.2.2.1).eval) fuel a
noncomputable def B_ref28_parted_35 (n_1 : W .i64) (all : Sl 8 (W .i64)) (p : W .i64) : Tree (Rnd (W .i64 × Sl 8 (W .i64) × W .i64 × Unit) ((W .i64 × Bool × Sl 8 (W .i64) × Unit) ⊕ (W .i64 × Unit × Sl 8 (W .i64) × Unit))) :=
 .ite (W.lt p n_1) (.opt (F_ref28_times all p) fun r9 =>
 .ite (W.ne r9 (W.of .i64 1)) (.ret (.out (.inl (n_1, false, all, ()))))
 (.ret (.next (n_1, all, (W.add p (W.of .i64 1)), ()))))
 (.ret (.out (.inr (n_1, (), all, ()))))
noncomputable def L_ref28_parted_35 (a : W .i64 × Sl 8 (W .i64) × W .i64 × Unit) : Option ((W .i64 × Bool × Sl 8 (W .i64) × Unit) ⊕ (W .i64 × Unit × Sl 8 (W .i64) × Unit)) := iter (fun a : W .i64 × Sl 8 (W .i64) × W .i64 × Unit => (B_ref28_parted_35 a.1 a.2.1 a.2.2.1).eval) fuel a
noncomputable def T_ref28_parted (s : TNames) (n_1 : W .i64) (flying : Sl 216 (TRen)) : Tree (Bool) :=
 .opt (F_ref25_List s.Free) fun r1 =>
 .opt (L_ref28_parted_7 ((n_1, flying, s, r1, (W.of .i64 1), ()))) fun o4 =>
 .opt (L_ref28_parted_20 ((o4.1, o4.2.1, o4.2.2.1, (W.of .i64 0), ()))) fun o8 =>
 .opt (L_ref28_parted_35 ((o8.1, o8.2.1, (W.of .i64 1), ()))) fun o10 =>
 .sum o10 (fun p11 =>
 .ret p11.2.1)
 (fun o12 =>
 .ret (W.eq (Sl.len o12.2.2.1) (W.sub o12.1 (W.of .i64 1))))
noncomputable def F_ref28_parted (s : TNames) (n_1 : W .i64) (flying : Sl 216 (TRen)) : Option (Bool) := (T_ref28_parted s n_1 flying).eval
/- cotterel/cotterelref28.Right -/
noncomputable def B_ref28_Right_15 (n_1 : W .i64) (flying : Sl 216 (TRen)) (s : TNames) (m : Arr 16 (W .i64)) (last : W .u64) (i : W .i64) : Tree (Rnd (W .i64 × Sl 216 (TRen) × TNames × Arr 16 (W .i64) × W .u64 × W .i64 × Unit) ((W .i64 × Sl 216 (TRen) × TNames × Bool × Arr 16 (W .i64) × Unit) ⊕ (W .i64 × Sl 216 (TRen) × TNames × Unit × Arr 16 (W .i64) × Unit))) :=
 .ite (W.lt i (Sl.len flying)) (.opt (Sl.get? flying i) fun y4 =>
 .ite (W.le y4.Seq last) (.ret (.out (.inl (n_1, flying, s, false, m, ()))))
 (.ite (W.ge y4.Seq s.Seq) (.ret (.out (.inl (n_1, flying, s, false, m, ()))))
 (.opt (F_ref28_Writes y4.Uop) fun r5 =>
 .ite (!r5) (.ite (W.ne y4.Out (W.of .i64 (-1))) (.ret (.out (.inl (n_1, flying, s, false, m, ()))))
 (.ite (W.ne y4.Old (W.of .i64 (-1))) (.ret (.out (.inl (n_1, flying, s, false, m, ()))))
 (.ret (.next (n_1, flying, s, m, y4.Seq, (W.add i (W.of .i64 1)), ())))))
 (.ite (W.lt y4.Out (W.of .i64 0)) (.ret (.out (.inl (n_1, flying, s, false, m, ()))))
 (.opt (idx? 16 y4.Uop.Dst) fun j6 =>
 .ite (W.ne y4.Old (Arr.get m j6)) (.ret (.out (.inl (n_1, flying, s, false, m, ()))))
 (.opt (idx? 16 y4.Uop.Dst) fun j7 =>
 .ret (.next (n_1, flying, s, (Arr.set m j7 y4.Out), y4.Seq, (W.add i (W.of .i64 1)), ()))))))))
 (.ret (.out (.inr (n_1, flying, s, (), m, ()))))
noncomputable def L_ref28_Right_15 (a : W .i64 × Sl 216 (TRen) × TNames × Arr 16 (W .i64) × W .u64 × W .i64 × Unit) : Option ((W .i64 × Sl 216 (TRen) × TNames × Bool × Arr 16 (W .i64) × Unit) ⊕ (W .i64 × Sl 216 (TRen) × TNames × Unit × Arr 16 (W .i64) × Unit)) := iter (fun a : W .i64 × Sl 216 (TRen) × TNames × Arr 16 (W .i64) × W .u64 × W .i64 × Unit => (B_ref28_Right_15 a.1 a.2.1 a.2.2.1 a.2.2.2.1 a.2.2.2.2.1 a.2.2.2.2.2.1).eval) fuel a
noncomputable def T_ref28_Right (s : TNames) (n_1 : W .i64) (flying : Sl 216 (TRen)) : Tree (Bool) :=
 .ite (W.lt n_1 (W.of .i64 17)) (.ret false)
 (.ite (W.gt n_1 (W.of .i64 96)) (.ret false)
 (.opt (F_ref26_Right s.Map n_1) fun r1 =>
 .ite (!r1) (.ret false)
 (.opt (F_ref26_Right s.Done n_1) fun r2 =>
 .ite (!r2) (.ret false)
 (.opt (F_ref25_Right s.Free n_1) fun r3 =>
 .ite (!r3) (.ret false)
 (.opt (L_ref28_Right_15 ((n_1, flying, s, s.Done, (W.of .u64 0), (W.of .i64 0), ()))) fun o8 =>
 .sum o8 (fun p9 =>
 .ret p9.2.2.2.1)
 (fun o10 =>
 .ite (Tab.eq tab (.arr 16 (.int .i64)) o10.2.2.2.2.1 o10.2.2.1.Map) (.opt (F_ref28_parted o10.2.2.1 o10.1 o10.2.1) fun r11 =>
 .ret r11)
 (.ret false)))))))
noncomputable def F_ref28_Right (s : TNames) (n_1 : W .i64) (flying : Sl 216 (TRen)) : Option (Bool) := (T_ref28_Right s n_1 flying).eval
/- cotterel/cotterelref42.waits -/
noncomputable def B_ref42_waits_5 (c : TCore) (r : TRen) (i : W .i64) : Tree (Rnd (TCore × TRen × W .i64 × Unit) ((Bool × Unit) ⊕ (Unit × Unit))) :=
 .ite (W.lt i (Sl.len c.Rob)) (.opt (Sl.get? c.Rob i) fun y1 =>
 .ite (Tab.eq tab (.named .TRen) y1.Ren r) (.opt (Sl.get? c.Rob i) fun y2 =>
 .ite (!y2.Done) (.ret (.out (.inl (true, ()))))
 (.ret (.next (c, r, (W.add i (W.of .i64 1)), ()))))
 (.ret (.next (c, r, (W.add i (W.of .i64 1)), ()))))
 (.ret (.out (.inr ((), ()))))
noncomputable def L_ref42_waits_5 (a : TCore × TRen × W .i64 × Unit) : Option ((Bool × Unit) ⊕ (Unit × Unit)) := iter (fun a : TCore × TRen × W .i64 × Unit => (B_ref42_waits_5 a.1 a.2.1 a.2.2.1).eval) fuel a
noncomputable def T_ref42_waits (c : TCore) (r : TRen) : Tree (Bool) :=
 .opt (L_ref42_waits_5 ((c, r, (W.of .i64 0), ()))) fun o3 =>
 .sum o3 (fun p4 =>
 .ret p4.1)
 (fun o5 =>
 .ret false)
noncomputable def F_ref42_waits (c : TCore) (r : TRen) : Option (Bool) := (T_ref42_waits c r).eval
/- cotterel/cotterelref42.queued -/
noncomputable def B_ref42_queued_20 (c : TCore) (i k : W .i64) : Tree (Rnd (TCore × W .i64 × W .i64 × Unit) ((TCore × Bool × W .i64 × Unit) ⊕ (TCore × Unit × W .i64 × Unit))) :=
 .ite (W.lt k i) (.opt (Sl.get? c.Iq k) fun y3 =>
 .opt (Sl.get? c.Iq i) fun y4 =>
 .ite (W.eq y3.Ren.Seq y4.Ren.Seq) (.ret (.out (.inl (c, false, i, ()))))
 (.ret (.next (c, i, (W.add k (W.of .i64 1)), ()))))
 (.ret (.out (.inr (c, (), i, ()))))
noncomputable def L_ref42_queued_20 (a : TCore × W .i64 × W .i64 × Unit) : Option ((TCore × Bool × W .i64 × Unit) ⊕ (TCore × Unit × W .i64 × Unit)) := iter (fun a : TCore × W .i64 × W .i64 × Unit => (B_ref42_queued_20 a.1 a.2.1 a.2.2.1).eval) fuel a
noncomputable def B_ref42_queued_5 (c : TCore) (i : W .i64) : Tree (Rnd (TCore × W .i64 × Unit) ((Bool × Unit) ⊕ (Unit × Unit))) :=
 .ite (W.lt i (Sl.len c.Iq)) (.opt (Sl.get? c.Iq i) fun y1 =>
 .opt (F_ref42_waits c y1.Ren) fun r2 =>
 .ite (!r2) (.ret (.out (.inl (false, ()))))
 (.opt (L_ref42_queued_20 ((c, i, (W.of .i64 0), ()))) fun o5 =>
 .sum o5 (fun p6 =>
 .ret (.out (.inl (p6.2.1, ()))))
 (fun o7 =>
 .ret (.next (o7.1, (W.add o7.2.2.1 (W.of .i64 1)), ())))))
 (.ret (.out (.inr ((), ()))))
noncomputable def L_ref42_queued_5 (a : TCore × W .i64 × Unit) : Option ((Bool × Unit) ⊕ (Unit × Unit)) := iter (fun a : TCore × W .i64 × Unit => (B_ref42_queued_5 a.1 a.2.1).eval) fuel a
noncomputable def T_ref42_queued (c : TCore) : Tree (Bool) :=
 .opt (L_ref42_queued_5 ((c, (W.of .i64 0), ()))) fun o8 =>
 .sum o8 (fun p9 =>
 .ret p9.1)
 (fun o10 =>
 .ret true)
noncomputable def F_ref42_queued (c : TCore) : Option (Bool) := (T_ref42_queued c).eval
/- cotterel/cotterelref42.flying -/
noncomputable def B_ref42_flying_22 (c : TCore) (i : W .i64) (r : TRen) (k : W .i64) : Tree (Rnd (TCore × W .i64 × TRen × W .i64 × Unit) ((TCore × Bool × W .i64 × TRen × Unit) ⊕ (TCore × Unit × W .i64 × TRen × Unit))) :=
 .ite (W.lt k i) (.opt (Sl.get? c.Units k) fun y3 =>
 .ite (W.eq y3.Ren.Seq r.Seq) (.ret (.out (.inl (c, false, i, r, ()))))
 (.ret (.next (c, i, r, (W.add k (W.of .i64 1)), ()))))
 (.ret (.out (.inr (c, (), i, r, ()))))
noncomputable def L_ref42_flying_22 (a : TCore × W .i64 × TRen × W .i64 × Unit) : Option ((TCore × Bool × W .i64 × TRen × Unit) ⊕ (TCore × Unit × W .i64 × TRen × Unit)) := iter (fun a : TCore × W .i64 × TRen × W .i64 × Unit => (B_ref42_flying_22 a.1 a.2.1 a.2.2.1 a.2.2.2.1).eval) fuel a
noncomputable def B_ref42_flying_39 (c : TCore) (i : W .i64) (r : TRen) (k : W .i64) : Tree (Rnd (TCore × W .i64 × TRen × W .i64 × Unit) ((TCore × Bool × W .i64 × Unit) ⊕ (TCore × Unit × W .i64 × Unit))) :=
 .ite (W.lt k (Sl.len c.Iq)) (.opt (Sl.get? c.Iq k) fun y7 =>
 .ite (W.eq y7.Ren.Seq r.Seq) (.ret (.out (.inl (c, false, i, ()))))
 (.ret (.next (c, i, r, (W.add k (W.of .i64 1)), ()))))
 (.ret (.out (.inr (c, (), i, ()))))
noncomputable def L_ref42_flying_39 (a : TCore × W .i64 × TRen × W .i64 × Unit) : Option ((TCore × Bool × W .i64 × Unit) ⊕ (TCore × Unit × W .i64 × Unit)) := iter (fun a : TCore × W .i64 × TRen × W .i64 × Unit => (B_ref42_flying_39 a.1 a.2.1 a.2.2.1 a.2.2.2.1).eval) fuel a
noncomputable def B_ref42_flying_5 (c : TCore) (i : W .i64) : Tree (Rnd (TCore × W .i64 × Unit) ((Bool × Unit) ⊕ (Unit × Unit))) :=
 .ite (W.lt i (Sl.len c.Units)) (.opt (Sl.get? c.Units i) fun y1 =>
 .opt (F_ref42_waits c y1.Ren) fun r2 =>
 .ite (!r2) (.ret (.out (.inl (false, ()))))
 (.opt (L_ref42_flying_22 ((c, i, y1.Ren, (W.of .i64 0), ()))) fun o4 =>
 .sum o4 (fun p5 =>
 .ret (.out (.inl (p5.2.1, ()))))
 (fun o6 =>
 .opt (L_ref42_flying_39 ((o6.1, o6.2.2.1, o6.2.2.2.1, (W.of .i64 0), ()))) fun o8 =>
 .sum o8 (fun p9 =>
 .ret (.out (.inl (p9.2.1, ()))))
 (fun o10 =>
 .ret (.next (o10.1, (W.add o10.2.2.1 (W.of .i64 1)), ()))))))
 (.ret (.out (.inr ((), ()))))
noncomputable def L_ref42_flying_5 (a : TCore × W .i64 × Unit) : Option ((Bool × Unit) ⊕ (Unit × Unit)) := iter (fun a : TCore × W .i64 × Unit => (B_ref42_flying_5 a.1 a.2.1).eval) fuel a
noncomputable def T_ref42_flying (c : TCore) : Tree (Bool) :=
 .opt (L_ref42_flying_5 ((c, (W.of .i64 0), ()))) fun o11 =>
 .sum o11 (fun p12 =>
 .ret p12.1)
 (fun o13 =>
 .ret true)
noncomputable def F_ref42_flying (c : TCore) : Option (Bool) := (T_ref42_flying c).eval
/- cotterel/cotterelref42.seqs -/
noncomputable def B_ref42_seqs_7 (unit : W .i64) (c : TCore) (out : Sl 8 (W .u64)) (i : W .i64) : Tree (Rnd (W .i64 × TCore × Sl 8 (W .u64) × W .i64 × Unit) (Sl 8 (W .u64) × Unit)) :=
 .ite (W.lt i (Sl.len c.Rob)) (.opt (Sl.get? c.Rob i) fun y1 =>
 .ite (W.eq y1.Ren.Uop.Unit unit) (.opt (Sl.get? c.Rob i) fun y2 =>
 .opt (Sl.app? out (Sl.lit 8 [y2.Ren.Seq] rfl : Sl 8 (W .u64))) fun l3 =>
 .ret (.next (unit, c, l3, (W.add i (W.of .i64 1)), ())))
 (.ret (.next (unit, c, out, (W.add i (W.of .i64 1)), ()))))
 (.ret (.out (out, ())))
noncomputable def L_ref42_seqs_7 (a : W .i64 × TCore × Sl 8 (W .u64) × W .i64 × Unit) : Option (Sl 8 (W .u64) × Unit) := iter (fun a : W .i64 × TCore × Sl 8 (W .u64) × W .i64 × Unit => (B_ref42_seqs_7 a.1 a.2.1 a.2.2.1 a.2.2.2.1).eval) fuel a
noncomputable def T_ref42_seqs (c : TCore) (unit : W .i64) : Tree (Sl 8 (W .u64)) :=
 .opt (L_ref42_seqs_7 ((unit, c, (Sl.lit 8 [] rfl : Sl 8 (W .u64)), (W.of .i64 0), ()))) fun o4 =>
 .ret o4.1
noncomputable def F_ref42_seqs (c : TCore) (unit : W .i64) : Option (Sl 8 (W .u64)) := (T_ref42_seqs c unit).eval
/- cotterel/cotterelref42.memory -/
noncomputable def B_ref42_memory_13 (c : TCore) (l_3 s : Sl 8 (W .u64)) (i : W .i64) : Tree (Rnd (TCore × Sl 8 (W .u64) × Sl 8 (W .u64) × W .i64 × Unit) ((TCore × Bool × Sl 8 (W .u64) × Unit) ⊕ (TCore × Unit × Sl 8 (W .u64) × Unit))) :=
 .ite (W.lt i (Sl.len l_3)) (.ite (W.lt i (Sl.len c.Lq)) (.opt (Sl.get? c.Lq i) fun y3 =>
 .opt (Sl.get? l_3 i) fun y4 =>
 .ite (W.ne y3.Seq y4) (.ret (.out (.inl (c, false, s, ()))))
 (.ret (.next (c, l_3, s, (W.add i (W.of .i64 1)), ()))))
 (.ret (.out (.inr (c, (), s, ())))))
 (.ret (.out (.inr (c, (), s, ()))))
noncomputable def L_ref42_memory_13 (a : TCore × Sl 8 (W .u64) × Sl 8 (W .u64) × W .i64 × Unit) : Option ((TCore × Bool × Sl 8 (W .u64) × Unit) ⊕ (TCore × Unit × Sl 8 (W .u64) × Unit)) := iter (fun a : TCore × Sl 8 (W .u64) × Sl 8 (W .u64) × W .i64 × Unit => (B_ref42_memory_13 a.1 a.2.1 a.2.2.1 a.2.2.2.1).eval) fuel a
noncomputable def B_ref42_memory_30 (c : TCore) (s : Sl 8 (W .u64)) (i : W .i64) : Tree (Rnd (TCore × Sl 8 (W .u64) × W .i64 × Unit) ((Bool × Unit) ⊕ (Unit × Unit))) :=
 .ite (W.lt i (Sl.len s)) (.ite (W.lt i (Sl.len c.Sq)) (.opt (Sl.get? c.Sq i) fun y8 =>
 .opt (Sl.get? s i) fun y9 =>
 .ite (W.ne y8.Seq y9) (.ret (.out (.inl (false, ()))))
 (.ret (.next (c, s, (W.add i (W.of .i64 1)), ()))))
 (.ret (.out (.inr ((), ())))))
 (.ret (.out (.inr ((), ()))))
noncomputable def L_ref42_memory_30 (a : TCore × Sl 8 (W .u64) × W .i64 × Unit) : Option ((Bool × Unit) ⊕ (Unit × Unit)) := iter (fun a : TCore × Sl 8 (W .u64) × W .i64 × Unit => (B_ref42_memory_30 a.1 a.2.1 a.2.2.1).eval) fuel a
noncomputable def T_ref42_memory (c : TCore) : Tree (Bool) :=
 .opt (F_ref42_seqs c (W.of .i64 5)) fun r1 =>
 .opt (F_ref42_seqs c (W.of .i64 6)) fun r2 =>
 .ite (W.ne (Sl.len r1) (Sl.len c.Lq)) (.ret false)
 (.ite (W.ne (Sl.len r2) (Sl.len c.Sq)) (.ret false)
 (.opt (L_ref42_memory_13 ((c, r1, r2, (W.of .i64 0), ()))) fun o5 =>
 .sum o5 (fun p6 =>
 .ret p6.2.1)
 (fun o7 =>
 .opt (L_ref42_memory_30 ((o7.1, o7.2.2.1, (W.of .i64 0), ()))) fun o10 =>
 .sum o10 (fun p11 =>
 .ret p11.1)
 (fun o12 =>
 .ret true))))
noncomputable def F_ref42_memory (c : TCore) : Option (Bool) := (T_ref42_memory c).eval
/- cotterel/cotterelref27.is -/
noncomputable def T_ref27_is (f : TPhys) (p : W .i64) : Tree (Bool) :=
 .ite (W.ge p (W.of .i64 0)) (.ite (W.lt p (Sl.len f.Val)) (.ret (W.lt p (Sl.len f.Ready)))
 (.ret false))
 (.ret false)
noncomputable def F_ref27_is (f : TPhys) (p : W .i64) : Option (Bool) := (T_ref27_is f p).eval
/- cotterel/cotterelref27.Get -/
noncomputable def T_ref27_Get (f : TPhys) (p : W .i64) : Tree (W .u32 × Bool) :=
 .opt (F_ref27_is f p) fun r1 =>
 .ite (!r1) (.ret ((W.of .u32 0), true))
 (.opt (Sl.get? f.Ready p) fun y2 =>
 .ite (!y2) (.ret ((W.of .u32 0), false))
 (.opt (Sl.get? f.Val p) fun y3 =>
 .ret (y3, true)))
noncomputable def F_ref27_Get (f : TPhys) (p : W .i64) : Option (W .u32 × Bool) := (T_ref27_Get f p).eval
/- cotterel/cotterelref27.View -/
noncomputable def B_ref27_View_7 (f : TPhys) (m : Arr 16 (W .i64)) (t_4 out : Arr 16 (W .u32)) (r : W .i64) : Tree (Rnd (TPhys × Arr 16 (W .i64) × Arr 16 (W .u32) × Arr 16 (W .u32) × W .i64 × Unit) (Arr 16 (W .u32) × Arr 16 (W .u32) × Unit)) :=
 .ite (W.lt r (W.of .i64 16)) (.opt (idx? 16 r) fun j1 =>
 .opt (F_ref27_Get f (Arr.get m j1)) fun r2 =>
 .opt (idx? 16 r) fun j3 =>
 .ret (.next (f, m, t_4, (Arr.set out j3 r2.1), (W.add r (W.of .i64 1)), ())))
 (.ret (.out (t_4, out, ())))
noncomputable def L_ref27_View_7 (a : TPhys × Arr 16 (W .i64) × Arr 16 (W .u32) × Arr 16 (W .u32) × W .i64 × Unit) : Option (Arr 16 (W .u32) × Arr 16 (W .u32) × Unit) := iter (fun a : TPhys × Arr 16 (W .i64) × Arr 16 (W .u32) × Arr 16 (W .u32) × W .i64 × Unit => (B_ref27_View_7 a.1 a.2.1 a.2.2.1 a.2.2.2.1 a.2.2.2.2.1).eval) fuel a
noncomputable def T_ref27_View (f : TPhys) (m : Arr 16 (W .i64)) : Tree (Arr 16 (W .u32)) :=
 .opt (L_ref27_View_7 ((f, m, (Arr.rep 16 (W.of .u32 0) : Arr 16 (W .u32)), (Arr.rep 16 (W.of .u32 0) : Arr 16 (W .u32)), (W.of .i64 1), ()))) fun o4 =>
 .ret o4.2.1
noncomputable def F_ref27_View (f : TPhys) (m : Arr 16 (W .i64)) : Option (Arr 16 (W .u32)) := (T_ref27_View f m).eval
/- cotterel/cotterelref11.Masked -/
noncomputable def T_ref11_Masked (n_0 : W .i64) : Tree (W .u32) :=
 .ite (W.eq n_0 (W.of .i64 0)) (.ret (W.of .u32 63))
 (.ite (W.eq n_0 (W.of .i64 1)) (.ret (W.of .u32 31))
 (.ite (W.eq n_0 (W.of .i64 9)) (.ret (W.of .u32 7))
 (.ite (W.eq n_0 (W.of .i64 10)) (.ret (W.of .u32 7))
 (.ite (W.eq n_0 (W.of .i64 5)) (.ret (W.of .u32 4294967232))
 (.ite (W.lt n_0 (W.of .i64 0)) (.ret (W.of .u32 0))
 (.ite (W.gt n_0 (W.of .i64 11)) (.ret (W.of .u32 0))
 (.ret (W.of .u32 4294967295))))))))
noncomputable def F_ref11_Masked (n_0 : W .i64) : Option (W .u32) := (T_ref11_Masked n_0).eval
/- cotterel/cotterelref42.control -/
noncomputable def B_ref42_control_5 (a : TArch) (i : W .i64) : Tree (Rnd (TArch × W .i64 × Unit) ((TArch × Bool × Unit) ⊕ (TArch × Unit × Unit))) :=
 .ite (W.lt i (W.of .i64 12)) (.opt (idx? 12 i) fun j1 =>
 .opt (F_ref11_Masked i) fun r2 =>
 .opt (idx? 12 i) fun j3 =>
 .ite (W.ne (W.and (Arr.get a.C j1) r2) (Arr.get a.C j3)) (.ret (.out (.inl (a, false, ()))))
 (.ret (.next (a, (W.add i (W.of .i64 1)), ()))))
 (.ret (.out (.inr (a, (), ()))))
noncomputable def L_ref42_control_5 (a : TArch × W .i64 × Unit) : Option ((TArch × Bool × Unit) ⊕ (TArch × Unit × Unit)) := iter (fun a : TArch × W .i64 × Unit => (B_ref42_control_5 a.1 a.2.1).eval) fuel a
noncomputable def T_ref42_control (a : TArch) : Tree (Bool) :=
 .opt (L_ref42_control_5 ((a, (W.of .i64 0), ()))) fun o4 =>
 .sum o4 (fun p5 =>
 .ret p5.2.1)
 (fun o6 =>
 .ret (W.eq (Arr.get o6.1.R 0) (W.of .u32 0)))
noncomputable def F_ref42_control (a : TArch) : Option (Bool) := (T_ref42_control a).eval
/- cotterel/cotterelref42.there -/
noncomputable def B_ref42_there_5 (c : TCore) (i : W .i64) : Tree (Rnd (TCore × W .i64 × Unit) ((Bool × Unit) ⊕ (Unit × Unit))) :=
 .ite (W.lt i (Sl.len c.Rob)) (.opt (Sl.get? c.Rob i) fun y1 =>
 .ite (!y1.Done) (.ret (.next (c, (W.add i (W.of .i64 1)), ())))
 (.ite (W.ne y1.Cause (W.of .i64 0)) (.ret (.next (c, (W.add i (W.of .i64 1)), ())))
 (.ite (W.eq y1.Ren.Out (W.of .i64 (-1))) (.ret (.next (c, (W.add i (W.of .i64 1)), ())))
 (.opt (F_ref27_Get c.Phys y1.Ren.Out) fun r2 =>
 .ite (!r2.2) (.ret (.out (.inl (false, ()))))
 (.ite (W.ne r2.1 y1.Val) (.ret (.out (.inl (false, ()))))
 (.ret (.next (c, (W.add i (W.of .i64 1)), ()))))))))
 (.ret (.out (.inr ((), ()))))
noncomputable def L_ref42_there_5 (a : TCore × W .i64 × Unit) : Option ((Bool × Unit) ⊕ (Unit × Unit)) := iter (fun a : TCore × W .i64 × Unit => (B_ref42_there_5 a.1 a.2.1).eval) fuel a
noncomputable def T_ref42_there (c : TCore) : Tree (Bool) :=
 .opt (L_ref42_there_5 ((c, (W.of .i64 0), ()))) fun o3 =>
 .sum o3 (fun p4 =>
 .ret p4.1)
 (fun o5 =>
 .ret true)
noncomputable def F_ref42_there (c : TCore) : Option (Bool) := (T_ref42_there c).eval
/- cotterel/cotterelref42.Broken -/
noncomputable def B_ref42_Broken_20 (c : TCore) (out : Sl 8 (W .i64)) (rens : Sl 216 (TRen)) (i : W .i64) : Tree (TCore × Sl 8 (W .i64) × Sl 216 (TRen) × W .i64 × Unit) :=
 .opt (Sl.get? c.Rob i) fun y2 =>
 .opt (Sl.app? rens (Sl.lit 216 [y2.Ren] rfl : Sl 216 (TRen))) fun l3 =>
 .ret (c, out, l3, (W.add i (W.of .i64 1)), ())
noncomputable def L_ref42_Broken_20 (a : TCore × Sl 8 (W .i64) × Sl 216 (TRen) × W .i64 × Unit) : Option (TCore × Sl 8 (W .i64) × Sl 216 (TRen) × W .i64 × Unit) := (B_ref42_Broken_20 a.1 a.2.1 a.2.2.1 a.2.2.2.1).eval
noncomputable def B_ref42_Broken_15 (c : TCore) (out : Sl 8 (W .i64)) (rens : Sl 216 (TRen)) (i : W .i64) : Tree (Rnd (TCore × Sl 8 (W .i64) × Sl 216 (TRen) × W .i64 × Unit) (TCore × Sl 8 (W .i64) × Sl 216 (TRen) × Unit)) :=
 .ite (W.lt i (Sl.len c.Rob)) (.opt (L_ref42_Broken_20 ((c, out, rens, i, ()))) fun o4 =>
 .ret (.next (o4.1, o4.2.1, o4.2.2.1, o4.2.2.2.1, ())))
 (.ret (.out (c, out, rens, ())))
noncomputable def L_ref42_Broken_15 (a : TCore × Sl 8 (W .i64) × Sl 216 (TRen) × W .i64 × Unit) : Option (TCore × Sl 8 (W .i64) × Sl 216 (TRen) × Unit) := iter (fun a : TCore × Sl 8 (W .i64) × Sl 216 (TRen) × W .i64 × Unit => (B_ref42_Broken_15 a.1 a.2.1 a.2.2.1 a.2.2.2.1).eval) fuel a
noncomputable def B_ref42_Broken_26 (c : TCore) (out : Sl 8 (W .i64)) (rens : Sl 216 (TRen)) (t_53 : Bool) : Tree (TCore × Sl 8 (W .i64) × Sl 216 (TRen) × Unit) :=
 .ite t_53 (.opt (Sl.app? out (Sl.lit 8 [(W.of .i64 2)] rfl : Sl 8 (W .i64))) fun l7 =>
 .ret (c, l7, rens, ()))
 (.ret (c, out, rens, ()))
noncomputable def L_ref42_Broken_26 (a : TCore × Sl 8 (W .i64) × Sl 216 (TRen) × Bool × Unit) : Option (TCore × Sl 8 (W .i64) × Sl 216 (TRen) × Unit) := (B_ref42_Broken_26 a.1 a.2.1 a.2.2.1 a.2.2.2.1).eval
noncomputable def B_ref42_Broken_56 (out : Sl 8 (W .i64)) : Tree (Unit × Sl 8 (W .i64) × Unit) :=
 .ret ((), out, ())
noncomputable def L_ref42_Broken_56 (a : Sl 8 (W .i64) × Unit) : Option (Unit × Sl 8 (W .i64) × Unit) := (B_ref42_Broken_56 a.1).eval
noncomputable def B_ref42_Broken_52 (c : TCore) (out : Sl 8 (W .i64)) : Tree (Unit × Sl 8 (W .i64) × Unit) :=
 .opt (F_ref42_there c) fun r21 =>
 .ite (!r21) (.opt (Sl.app? out (Sl.lit 8 [(W.of .i64 9)] rfl : Sl 8 (W .i64))) fun l22 =>
 .opt (L_ref42_Broken_56 ((l22, ()))) fun o23 =>
 .ret ((), o23.2.1, ()))
 (.opt (L_ref42_Broken_56 ((out, ()))) fun o24 =>
 .ret ((), o24.2.1, ()))
noncomputable def L_ref42_Broken_52 (a : TCore × Sl 8 (W .i64) × Unit) : Option (Unit × Sl 8 (W .i64) × Unit) := (B_ref42_Broken_52 a.1 a.2.1).eval
noncomputable def B_ref42_Broken_48 (c : TCore) (out : Sl 8 (W .i64)) : Tree (Unit × Sl 8 (W .i64) × Unit) :=
 .opt (F_ref42_control c.A) fun r19 =>
 .ite (!r19) (.opt (Sl.app? out (Sl.lit 8 [(W.of .i64 8)] rfl : Sl 8 (W .i64))) fun l20 =>
 .opt (L_ref42_Broken_52 ((c, l20, ()))) fun o25 =>
 .ret ((), o25.2.1, ()))
 (.opt (L_ref42_Broken_52 ((c, out, ()))) fun o26 =>
 .ret ((), o26.2.1, ()))
noncomputable def L_ref42_Broken_48 (a : TCore × Sl 8 (W .i64) × Unit) : Option (Unit × Sl 8 (W .i64) × Unit) := (B_ref42_Broken_48 a.1 a.2.1).eval
noncomputable def B_ref42_Broken_44 (c : TCore) (out : Sl 8 (W .i64)) : Tree (Unit × Sl 8 (W .i64) × Unit) :=
 .opt (F_ref27_View c.Phys c.Names.Done) fun r17 =>
 .ite (!(Tab.eq tab (.arr 16 (.int .u32)) r17 c.A.R)) (.opt (Sl.app? out (Sl.lit 8 [(W.of .i64 7)] rfl : Sl 8 (W .i64))) fun l18 =>
 .opt (L_ref42_Broken_48 ((c, l18, ()))) fun o27 =>
 .ret ((), o27.2.1, ()))
 (.opt (L_ref42_Broken_48 ((c, out, ()))) fun o28 =>
 .ret ((), o28.2.1, ()))
noncomputable def L_ref42_Broken_44 (a : TCore × Sl 8 (W .i64) × Unit) : Option (Unit × Sl 8 (W .i64) × Unit) := (B_ref42_Broken_44 a.1 a.2.1).eval
noncomputable def B_ref42_Broken_40 (c : TCore) (out : Sl 8 (W .i64)) : Tree (Unit × Sl 8 (W .i64) × Unit) :=
 .opt (F_ref42_memory c) fun r15 =>
 .ite (!r15) (.opt (Sl.app? out (Sl.lit 8 [(W.of .i64 6)] rfl : Sl 8 (W .i64))) fun l16 =>
 .opt (L_ref42_Broken_44 ((c, l16, ()))) fun o29 =>
 .ret ((), o29.2.1, ()))
 (.opt (L_ref42_Broken_44 ((c, out, ()))) fun o30 =>
 .ret ((), o30.2.1, ()))
noncomputable def L_ref42_Broken_40 (a : TCore × Sl 8 (W .i64) × Unit) : Option (Unit × Sl 8 (W .i64) × Unit) := (B_ref42_Broken_40 a.1 a.2.1).eval
noncomputable def B_ref42_Broken_36 (c : TCore) (out : Sl 8 (W .i64)) : Tree (Unit × Sl 8 (W .i64) × Unit) :=
 .opt (F_ref42_flying c) fun r13 =>
 .ite (!r13) (.opt (Sl.app? out (Sl.lit 8 [(W.of .i64 5)] rfl : Sl 8 (W .i64))) fun l14 =>
 .opt (L_ref42_Broken_40 ((c, l14, ()))) fun o31 =>
 .ret ((), o31.2.1, ()))
 (.opt (L_ref42_Broken_40 ((c, out, ()))) fun o32 =>
 .ret ((), o32.2.1, ()))
noncomputable def L_ref42_Broken_36 (a : TCore × Sl 8 (W .i64) × Unit) : Option (Unit × Sl 8 (W .i64) × Unit) := (B_ref42_Broken_36 a.1 a.2.1).eval
noncomputable def B_ref42_Broken_32 (c : TCore) (out : Sl 8 (W .i64)) : Tree (Unit × Sl 8 (W .i64) × Unit) :=
 .opt (F_ref42_queued c) fun r11 =>
 .ite (!r11) (.opt (Sl.app? out (Sl.lit 8 [(W.of .i64 4)] rfl : Sl 8 (W .i64))) fun l12 =>
 .opt (L_ref42_Broken_36 ((c, l12, ()))) fun o33 =>
 .ret ((), o33.2.1, ()))
 (.opt (L_ref42_Broken_36 ((c, out, ()))) fun o34 =>
 .ret ((), o34.2.1, ()))
noncomputable def L_ref42_Broken_32 (a : TCore × Sl 8 (W .i64) × Unit) : Option (Unit × Sl 8 (W .i64) × Unit) := (B_ref42_Broken_32 a.1 a.2.1).eval
noncomputable def B_ref42_Broken_28 (c : TCore) (out : Sl 8 (W .i64)) (rens : Sl 216 (TRen)) : Tree (Unit × Sl 8 (W .i64) × Unit) :=
 .opt (F_ref28_Right c.Names c.Conf.Phys rens) fun r9 =>
 .ite (!r9) (.opt (Sl.app? out (Sl.lit 8 [(W.of .i64 3)] rfl : Sl 8 (W .i64))) fun l10 =>
 .opt (L_ref42_Broken_32 ((c, l10, ()))) fun o35 =>
 .ret ((), o35.2.1, ()))
 (.opt (L_ref42_Broken_32 ((c, out, ()))) fun o36 =>
 .ret ((), o36.2.1, ()))
noncomputable def L_ref42_Broken_28 (a : TCore × Sl 8 (W .i64) × Sl 216 (TRen) × Unit) : Option (Unit × Sl 8 (W .i64) × Unit) := (B_ref42_Broken_28 a.1 a.2.1 a.2.2.1).eval
noncomputable def B_ref42_Broken_24 (c : TCore) (out : Sl 8 (W .i64)) (rens : Sl 216 (TRen)) : Tree (Unit × Sl 8 (W .i64) × Unit) :=
 .opt (F_ref29_Right c.Rob) fun r6 =>
 .ite (!r6) (.opt (L_ref42_Broken_26 ((c, out, rens, true, ()))) fun o8 =>
 .opt (L_ref42_Broken_28 ((o8.1, o8.2.1, o8.2.2.1, ()))) fun o37 =>
 .ret ((), o37.2.1, ()))
 (.ite (W.gt (Sl.len c.Rob) (W.of .i64 0)) (.opt (Sl.get? c.Rob (W.sub (Sl.len c.Rob) (W.of .i64 1))) fun y38 =>
 .opt (L_ref42_Broken_26 ((c, out, rens, (W.ge y38.Ren.Seq c.Names.Seq), ()))) fun o39 =>
 .opt (L_ref42_Broken_28 ((o39.1, o39.2.1, o39.2.2.1, ()))) fun o40 =>
 .ret ((), o40.2.1, ()))
 (.opt (L_ref42_Broken_26 ((c, out, rens, false, ()))) fun o41 =>
 .opt (L_ref42_Broken_28 ((o41.1, o41.2.1, o41.2.2.1, ()))) fun o42 =>
 .ret ((), o42.2.1, ())))
noncomputable def L_ref42_Broken_24 (a : TCore × Sl 8 (W .i64) × Sl 216 (TRen) × Unit) : Option (Unit × Sl 8 (W .i64) × Unit) := (B_ref42_Broken_24 a.1 a.2.1 a.2.2.1).eval
noncomputable def B_ref42_Broken_7 (c : TCore) : Tree (Unit × Sl 8 (W .i64) × Unit) :=
 .opt (L_ref42_Broken_15 ((c, (Sl.lit 8 [] rfl : Sl 8 (W .i64)), (Sl.lit 216 [] rfl : Sl 216 (TRen)), (W.of .i64 0), ()))) fun o5 =>
 .opt (L_ref42_Broken_24 ((o5.1, o5.2.1, o5.2.2.1, ()))) fun o43 =>
 .ret ((), o43.2.1, ())
noncomputable def L_ref42_Broken_7 (a : TCore × Unit) : Option (Unit × Sl 8 (W .i64) × Unit) := (B_ref42_Broken_7 a.1).eval
noncomputable def T_ref42_Broken (c : TCore) : Tree (Sl 8 (W .i64)) :=
 .opt (F_ref42_rooms c) fun r1 =>
 .ite (!r1) (.ret (Sl.lit 8 [(W.of .i64 1)] rfl : Sl 8 (W .i64)))
 (.opt (L_ref42_Broken_7 ((c, ()))) fun o44 =>
 .ret o44.2.1)
noncomputable def F_ref42_Broken (c : TCore) : Option (Sl 8 (W .i64)) := (T_ref42_Broken c).eval
/- cotterel/cotterelsame.Ints -/
noncomputable def B_same_Ints_11 (a b : Sl 8 (W .i64)) (i : W .i64) : Tree (Rnd (Sl 8 (W .i64) × Sl 8 (W .i64) × W .i64 × Unit) ((Bool × Unit) ⊕ (Unit × Unit))) :=
 .ite (W.lt i (Sl.len a)) (.ite (W.lt i (Sl.len b)) (.opt (Sl.get? a i) fun y1 =>
 .opt (Sl.get? b i) fun y2 =>
 .ite (W.ne y1 y2) (.ret (.out (.inl (false, ()))))
 (.ret (.next (a, b, (W.add i (W.of .i64 1)), ()))))
 (.ret (.out (.inr ((), ())))))
 (.ret (.out (.inr ((), ()))))
noncomputable def L_same_Ints_11 (a : Sl 8 (W .i64) × Sl 8 (W .i64) × W .i64 × Unit) : Option ((Bool × Unit) ⊕ (Unit × Unit)) := iter (fun a : Sl 8 (W .i64) × Sl 8 (W .i64) × W .i64 × Unit => (B_same_Ints_11 a.1 a.2.1 a.2.2.1).eval) fuel a
noncomputable def T_same_Ints (a b : Sl 8 (W .i64)) : Tree (Bool) :=
 .ite (W.ne (Sl.len a) (Sl.len b)) (.ret false)
 (.opt (L_same_Ints_11 ((a, b, (W.of .i64 0), ()))) fun o3 =>
 .sum o3 (fun p4 =>
 .ret p4.1)
 (fun o5 =>
 .ret true))
noncomputable def F_same_Ints (a b : Sl 8 (W .i64)) : Option (Bool) := (T_same_Ints a b).eval
/- cotterel/cotterelref42.Empty -/
noncomputable def T_ref42_Empty (c : TCore) : Tree (Bool) :=
 .ite (W.eq (Sl.len c.Queue) (W.of .i64 0)) (.ite (W.eq (Sl.len c.Rob) (W.of .i64 0)) (.ite (W.eq (Sl.len c.Iq) (W.of .i64 0)) (.ite (W.eq (Sl.len c.Lq) (W.of .i64 0)) (.ite (W.eq (Sl.len c.Sq) (W.of .i64 0)) (.ite (W.eq (Sl.len c.Sb) (W.of .i64 0)) (.ret (W.eq (Sl.len c.Units) (W.of .i64 0)))
 (.ret false))
 (.ret false))
 (.ret false))
 (.ret false))
 (.ret false))
 (.ret false)
noncomputable def F_ref42_Empty (c : TCore) : Option (Bool) := (T_ref42_Empty c).eval
/- cotterel/cotterellaw42.CoreBreaks -/
noncomputable def T_law42_CoreBreaks (c : TCore) : Tree (Bool) :=
 .opt (F_law42_Light c) fun r1 =>
 .ite (!r1) (.opt (F_law42_awake) fun r2 =>
 .ret r2)
 (.opt (F_core_Broken c) fun r3 =>
 .opt (F_ref42_Broken c) fun r4 =>
 .opt (F_same_Ints r3 r4) fun r5 =>
 .ite r5 (.opt (F_core_Empty c) fun r6 =>
 .opt (F_ref42_Empty c) fun r7 =>
 .ite (beqB r6 r7) (.opt (F_core_Arch c) fun r8 =>
 .ite (Tab.eq tab (.named .TArch) r8 c.A) (.opt (F_law42_awake) fun r9 =>
 .ret r9)
 (.ret false))
 (.ret false))
 (.ret false))
noncomputable def F_law42_CoreBreaks (c : TCore) : Option (Bool) := (T_law42_CoreBreaks c).eval
end Go.Proofs.Ytdafegdnjedohaa
