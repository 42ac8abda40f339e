/- YtdafegdnjedohaaTrees: the functions as decision trees. No statement of the seat is proved here. -/
import Derived.Test.YtdafegdnjedohaaTypes
import Derived.Test.YtdafegdnjedohaaA2D
set_option maxRecDepth 100000
namespace Go.Proofs.Ytdafegdnjedohaa
open Go Go.A2
/- cotterel/core.bounds -/
noncomputable def T_core_bounds (c : TConf) : Tree (Sl 24 (TBound)) :=
 .ret (Sl.lit 24 [(TBound.mk c.Fetch (W.of .i64 1) (W.of .i64 4)), (TBound.mk c.Wide (W.of .i64 1) (W.of .i64 4)), (TBound.mk c.Issue (W.of .i64 1) (W.of .i64 4)), (TBound.mk c.Retire (W.of .i64 1) (W.of .i64 4)), (TBound.mk c.Queue (W.of .i64 1) (W.of .i64 16)), (TBound.mk c.Rob (W.of .i64 2) (W.of .i64 64)), (TBound.mk c.Iq (W.of .i64 2) (W.of .i64 32)), (TBound.mk c.Lq (W.of .i64 1) (W.of .i64 16)), (TBound.mk c.Sq (W.of .i64 1) (W.of .i64 16)), (TBound.mk c.Sb (W.of .i64 1) (W.of .i64 8)), (TBound.mk c.Phys (W.of .i64 18) (W.of .i64 96)), (TBound.mk c.Hist (W.of .i64 0) (W.of .i64 8)), (TBound.mk c.Btb (W.of .i64 0) (W.of .i64 16)), (TBound.mk c.Ras (W.of .i64 0) (W.of .i64 16)), (TBound.mk c.Dep (W.of .i64 0) (W.of .i64 16)), (TBound.mk c.Tlb (W.of .i64 0) (W.of .i64 8)), (TBound.mk c.MulLat (W.of .i64 1) (W.of .i64 32)), (TBound.mk c.DivLat (W.of .i64 1) (W.of .i64 32)), (TBound.mk c.MemLat (W.of .i64 1) (W.of .i64 32)), (TBound.mk c.Sets (W.of .i64 1) (W.of .i64 8)), (TBound.mk c.Ways (W.of .i64 1) (W.of .i64 4))] rfl : Sl 24 (TBound))
noncomputable def F_core_bounds (c : TConf) : Option (Sl 24 (TBound)) := (T_core_bounds c).eval
/- cotterel/core.Conf$1 -/
noncomputable def T_core_Conf_1 (b : TBound) : Tree (Bool) :=
 .ite (W.lt b.n_ b.least) (.ret true)
 (.ret (W.gt b.n_ b.most))
noncomputable def F_core_Conf_1 (b : TBound) : Option (Bool) := (T_core_Conf_1 b).eval
/- slices.IndexFunc[[]cotterel/core.bound,cotterel/core.bound] -/
noncomputable def B_slices_IndexFunc_bound_5 (s : Sl 24 (TBound)) (t_7 t_8 : W .i64) : Tree (Rnd (Sl 24 (TBound) × ((Unit) × (Unit)) × W .i64 × W .i64 × Unit) ((W .i64 × Unit) ⊕ (Unit × Unit))) :=
 .ite (W.lt t_8 t_7) (.opt (Sl.get? s t_8) fun y1 =>
 .opt (F_core_Conf_1 y1) fun r2 =>
 .ite r2 (.ret (.out (.inl (t_8, ()))))
 (.ret (.next (s, ((), ()), t_7, (W.add t_8 (W.of .i64 1)), ()))))
 (.ret (.out (.inr ((), ()))))
noncomputable def L_slices_IndexFunc_bound_5 (a : Sl 24 (TBound) × ((Unit) × (Unit)) × W .i64 × W .i64 × Unit) : Option ((W .i64 × Unit) ⊕ (Unit × Unit)) := iter (fun a : Sl 24 (TBound) × ((Unit) × (Unit)) × W .i64 × W .i64 × Unit => (B_slices_IndexFunc_bound_5 a.1 a.2.2.1 a.2.2.2.1).eval) fuel a
noncomputable def T_slices_IndexFunc_bound (s : Sl 24 (TBound)) : Tree (W .i64) :=
 .opt (L_slices_IndexFunc_bound_5 ((s, ((), ()), (Sl.len s), (W.of .i64 0), ()))) fun o3 =>
 .sum o3 (fun p4 =>
 .ret p4.1)
 (fun o5 =>
 .ret (W.of .i64 (-1)))
noncomputable def F_slices_IndexFunc_bound (s : Sl 24 (TBound)) : Option (W .i64) := (T_slices_IndexFunc_bound s).eval
/- slices.ContainsFunc[[]cotterel/core.bound,cotterel/core.bound] -/
noncomputable def T_slices_ContainsFunc_bound (s : Sl 24 (TBound)) : Tree (Bool) :=
 .opt (F_slices_IndexFunc_bound s) fun r1 =>
 .ret (W.ge r1 (W.of .i64 0))
noncomputable def F_slices_ContainsFunc_bound (s : Sl 24 (TBound)) : Option (Bool) := (T_slices_ContainsFunc_bound s).eval
/- cotterel/core.Conf -/
noncomputable def T_core_Conf (c : TConf) : Tree (W .i64) :=
 .opt (F_core_bounds c) fun r1 =>
 .opt (F_slices_ContainsFunc_bound r1) fun r2 =>
 .ite r2 (.ret (W.of .i64 3))
 (.ret (W.of .i64 0))
noncomputable def F_core_Conf (c : TConf) : Option (W .i64) := (T_core_Conf c).eval
/- cotterel/cotterelref42.in -/
noncomputable def T_ref42_in (n_0 from_1 to_2 : W .i64) : Tree (Bool) :=
 .ite (W.ge n_0 from_1) (.ret (W.le n_0 to_2))
 (.ret false)
noncomputable def F_ref42_in (n_0 from_1 to_2 : W .i64) : Option (Bool) := (T_ref42_in n_0 from_1 to_2).eval
/- cotterel/cotterelref42.Conf -/
noncomputable def B_ref42_Conf_11 (t_113 : Bool) : Tree ((W .i64 × Unit) ⊕ (Unit × Unit)) :=
 .ite t_113 (.ret (.inl ((W.of .i64 0), ())))
 (.ret (.inr ((), ())))
noncomputable def L_ref42_Conf_11 (a : Bool × Unit) : Option ((W .i64 × Unit) ⊕ (Unit × Unit)) := (B_ref42_Conf_11 a.1).eval
noncomputable def B_ref42_Conf_15  : Tree (W .i64 × Unit) :=
 .ret ((W.of .i64 3), ())
noncomputable def L_ref42_Conf_15 (a : Unit) : Option (W .i64 × Unit) := (B_ref42_Conf_15).eval
noncomputable def B_ref42_Conf_9 (wide rooms guesses times : Bool) : Tree (W .i64 × Unit) :=
 .ite wide (.ite rooms (.ite guesses (.opt (L_ref42_Conf_11 ((times, ()))) fun o22 =>
 .sum o22 (fun p23 =>
 .ret (p23.1, ()))
 (fun o24 =>
 .opt (L_ref42_Conf_15 (())) fun o25 =>
 .ret (o25.1, ())))
 (.opt (L_ref42_Conf_11 ((false, ()))) fun o26 =>
 .sum o26 (fun p27 =>
 .ret (p27.1, ()))
 (fun o28 =>
 .opt (L_ref42_Conf_15 (())) fun o29 =>
 .ret (o29.1, ()))))
 (.opt (L_ref42_Conf_11 ((false, ()))) fun o30 =>
 .sum o30 (fun p31 =>
 .ret (p31.1, ()))
 (fun o32 =>
 .opt (L_ref42_Conf_15 (())) fun o33 =>
 .ret (o33.1, ()))))
 (.opt (L_ref42_Conf_11 ((false, ()))) fun o34 =>
 .sum o34 (fun p35 =>
 .ret (p35.1, ()))
 (fun o36 =>
 .opt (L_ref42_Conf_15 (())) fun o37 =>
 .ret (o37.1, ())))
noncomputable def L_ref42_Conf_9 (a : Bool × Bool × Bool × Bool × Unit) : Option (W .i64 × Unit) := (B_ref42_Conf_9 a.1 a.2.1 a.2.2.1 a.2.2.2.1).eval
noncomputable def B_ref42_Conf_7 (c : TConf) (wide rooms guesses : Bool) : Tree (W .i64 × Unit) :=
 .opt (F_ref42_in c.MulLat (W.of .i64 1) (W.of .i64 32)) fun r17 =>
 .ite r17 (.opt (F_ref42_in c.DivLat (W.of .i64 1) (W.of .i64 32)) fun r18 =>
 .ite r18 (.opt (F_ref42_in c.MemLat (W.of .i64 1) (W.of .i64 32)) fun r19 =>
 .ite r19 (.opt (F_ref42_in c.Sets (W.of .i64 1) (W.of .i64 8)) fun r20 =>
 .ite r20 (.opt (F_ref42_in c.Ways (W.of .i64 1) (W.of .i64 4)) fun r21 =>
 .opt (L_ref42_Conf_9 ((wide, rooms, guesses, r21, ()))) fun o38 =>
 .ret (o38.1, ()))
 (.opt (L_ref42_Conf_9 ((wide, rooms, guesses, false, ()))) fun o39 =>
 .ret (o39.1, ())))
 (.opt (L_ref42_Conf_9 ((wide, rooms, guesses, false, ()))) fun o40 =>
 .ret (o40.1, ())))
 (.opt (L_ref42_Conf_9 ((wide, rooms, guesses, false, ()))) fun o41 =>
 .ret (o41.1, ())))
 (.opt (L_ref42_Conf_9 ((wide, rooms, guesses, false, ()))) fun o42 =>
 .ret (o42.1, ()))
noncomputable def L_ref42_Conf_7 (a : TConf × Bool × Bool × Bool × Unit) : Option (W .i64 × Unit) := (B_ref42_Conf_7 a.1 a.2.1 a.2.2.1 a.2.2.2.1).eval
noncomputable def B_ref42_Conf_5 (c : TConf) (wide rooms : Bool) : Tree (W .i64 × Unit) :=
 .opt (F_ref42_in c.Hist (W.of .i64 0) (W.of .i64 8)) fun r12 =>
 .ite r12 (.opt (F_ref42_in c.Btb (W.of .i64 0) (W.of .i64 16)) fun r13 =>
 .ite r13 (.opt (F_ref42_in c.Ras (W.of .i64 0) (W.of .i64 16)) fun r14 =>
 .ite r14 (.opt (F_ref42_in c.Dep (W.of .i64 0) (W.of .i64 16)) fun r15 =>
 .ite r15 (.opt (F_ref42_in c.Tlb (W.of .i64 0) (W.of .i64 8)) fun r16 =>
 .opt (L_ref42_Conf_7 ((c, wide, rooms, r16, ()))) fun o43 =>
 .ret (o43.1, ()))
 (.opt (L_ref42_Conf_7 ((c, wide, rooms, false, ()))) fun o44 =>
 .ret (o44.1, ())))
 (.opt (L_ref42_Conf_7 ((c, wide, rooms, false, ()))) fun o45 =>
 .ret (o45.1, ())))
 (.opt (L_ref42_Conf_7 ((c, wide, rooms, false, ()))) fun o46 =>
 .ret (o46.1, ())))
 (.opt (L_ref42_Conf_7 ((c, wide, rooms, false, ()))) fun o47 =>
 .ret (o47.1, ()))
noncomputable def L_ref42_Conf_5 (a : TConf × Bool × Bool × Unit) : Option (W .i64 × Unit) := (B_ref42_Conf_5 a.1 a.2.1 a.2.2.1).eval
noncomputable def B_ref42_Conf_3 (c : TConf) (wide : Bool) : Tree (W .i64 × Unit) :=
 .opt (F_ref42_in c.Queue (W.of .i64 1) (W.of .i64 16)) fun r5 =>
 .ite r5 (.opt (F_ref42_in c.Rob (W.of .i64 2) (W.of .i64 64)) fun r6 =>
 .ite r6 (.opt (F_ref42_in c.Iq (W.of .i64 2) (W.of .i64 32)) fun r7 =>
 .ite r7 (.opt (F_ref42_in c.Lq (W.of .i64 1) (W.of .i64 16)) fun r8 =>
 .ite r8 (.opt (F_ref42_in c.Sq (W.of .i64 1) (W.of .i64 16)) fun r9 =>
 .ite r9 (.opt (F_ref42_in c.Sb (W.of .i64 1) (W.of .i64 8)) fun r10 =>
 .ite r10 (.opt (F_ref42_in c.Phys (W.of .i64 18) (W.of .i64 96)) fun r11 =>
 .opt (L_ref42_Conf_5 ((c, wide, r11, ()))) fun o48 =>
 .ret (o48.1, ()))
 (.opt (L_ref42_Conf_5 ((c, wide, false, ()))) fun o49 =>
 .ret (o49.1, ())))
 (.opt (L_ref42_Conf_5 ((c, wide, false, ()))) fun o50 =>
 .ret (o50.1, ())))
 (.opt (L_ref42_Conf_5 ((c, wide, false, ()))) fun o51 =>
 .ret (o51.1, ())))
 (.opt (L_ref42_Conf_5 ((c, wide, false, ()))) fun o52 =>
 .ret (o52.1, ())))
 (.opt (L_ref42_Conf_5 ((c, wide, false, ()))) fun o53 =>
 .ret (o53.1, ())))
 (.opt (L_ref42_Conf_5 ((c, wide, false, ()))) fun o54 =>
 .ret (o54.1, ()))
noncomputable def L_ref42_Conf_3 (a : TConf × Bool × Unit) : Option (W .i64 × Unit) := (B_ref42_Conf_3 a.1 a.2.1).eval
noncomputable def T_ref42_Conf (c : TConf) : Tree (W .i64) :=
 .opt (F_ref42_in c.Fetch (W.of .i64 1) (W.of .i64 4)) fun r1 =>
 .ite r1 (.opt (F_ref42_in c.Wide (W.of .i64 1) (W.of .i64 4)) fun r2 =>
 .ite r2 (.opt (F_ref42_in c.Issue (W.of .i64 1) (W.of .i64 4)) fun r3 =>
 .ite r3 (.opt (F_ref42_in c.Retire (W.of .i64 1) (W.of .i64 4)) fun r4 =>
 .opt (L_ref42_Conf_3 ((c, r4, ()))) fun o55 =>
 .ret o55.1)
 (.opt (L_ref42_Conf_3 ((c, false, ()))) fun o56 =>
 .ret o56.1))
 (.opt (L_ref42_Conf_3 ((c, false, ()))) fun o57 =>
 .ret o57.1))
 (.opt (L_ref42_Conf_3 ((c, false, ()))) fun o58 =>
 .ret o58.1)
noncomputable def F_ref42_Conf (c : TConf) : Option (W .i64) := (T_ref42_Conf c).eval
/- cotterel/core.Plain -/
noncomputable def T_core_Plain  : Tree (TConf) :=
 .ret (TConf.mk (W.of .i64 2) (W.of .i64 2) (W.of .i64 2) (W.of .i64 2) (W.of .i64 8) (W.of .i64 16) (W.of .i64 8) (W.of .i64 4) (W.of .i64 4) (W.of .i64 4) (W.of .i64 32) (W.of .i64 4) (W.of .i64 4) (W.of .i64 4) (W.of .i64 4) (W.of .i64 4) (W.of .i64 3) (W.of .i64 8) (W.of .i64 4) (W.of .i64 4) (W.of .i64 2) true)
noncomputable def F_core_Plain  : Option (TConf) := (T_core_Plain).eval
/- cotterel/cotterelref42.Plain -/
noncomputable def T_ref42_Plain  : Tree (TConf) :=
 .ret (TConf.mk (W.of .i64 2) (W.of .i64 2) (W.of .i64 2) (W.of .i64 2) (W.of .i64 8) (W.of .i64 16) (W.of .i64 8) (W.of .i64 4) (W.of .i64 4) (W.of .i64 4) (W.of .i64 32) (W.of .i64 4) (W.of .i64 4) (W.of .i64 4) (W.of .i64 4) (W.of .i64 4) (W.of .i64 3) (W.of .i64 8) (W.of .i64 4) (W.of .i64 4) (W.of .i64 2) true)
noncomputable def F_ref42_Plain  : Option (TConf) := (T_ref42_Plain).eval
/- cotterel/csr.Masked -/
noncomputable def T_csr_Masked (n_0 : W .i64) : Tree (W .u32) :=
 .ite (W.lt n_0 (W.of .i64 0)) (.ret (W.of .u32 0))
 (.ite (W.ge n_0 (W.of .i64 12)) (.ret (W.of .u32 0))
 (.opt (idx? 12 n_0) fun j1 =>
 .ret (Arr.get (Arr.lit 12 [(W.of .u32 63), (W.of .u32 31), (W.of .u32 4294967295), (W.of .u32 4294967295), (W.of .u32 4294967295), (W.of .u32 4294967232), (W.of .u32 4294967295), (W.of .u32 4294967295), (W.of .u32 4294967295), (W.of .u32 7), (W.of .u32 7), (W.of .u32 4294967295)] rfl : Arr 12 (W .u32)) j1)))
noncomputable def F_csr_Masked (n_0 : W .i64) : Option (W .u32) := (T_csr_Masked n_0).eval
/- cotterel/core.clean -/
noncomputable def B_core_clean_5 (a : TArch) (t_6 : Arr 12 (W .u32)) (t_7 : W .i64) : Tree (Rnd (TArch × Arr 12 (W .u32) × W .i64 × Unit) ((TArch × Bool × Unit) ⊕ (TArch × Unit × Unit))) :=
 .ite (W.lt t_7 (W.of .i64 12)) (.opt (idx? 12 t_7) fun j1 =>
 .opt (F_csr_Masked t_7) fun r2 =>
 .ite (W.ne (W.andNot (Arr.get t_6 j1) r2) (W.of .u32 0)) (.ret (.out (.inl (a, false, ()))))
 (.ret (.next (a, t_6, (W.add t_7 (W.of .i64 1)), ()))))
 (.ret (.out (.inr (a, (), ()))))
noncomputable def L_core_clean_5 (a : TArch × Arr 12 (W .u32) × W .i64 × Unit) : Option ((TArch × Bool × Unit) ⊕ (TArch × Unit × Unit)) := iter (fun a : TArch × Arr 12 (W .u32) × W .i64 × Unit => (B_core_clean_5 a.1 a.2.1 a.2.2.1).eval) fuel a
noncomputable def T_core_clean (a : TArch) : Tree (Bool) :=
 .opt (L_core_clean_5 ((a, a.C, (W.of .i64 0), ()))) fun o3 =>
 .sum o3 (fun p4 =>
 .ret p4.2.1)
 (fun o5 =>
 .ret (W.eq (Arr.get o5.1.R 0) (W.of .u32 0)))
noncomputable def F_core_clean (a : TArch) : Option (Bool) := (T_core_clean a).eval
/- cotterel/core.right -/
noncomputable def T_core_right (m : TMach) : Tree (Bool) :=
 .ite (W.ne (W.rem (Sl.len m.Mem) (W.of .i64 64)) (W.of .i64 0)) (.ret false)
 (.ite (W.lt (Sl.len m.Mem) (W.of .i64 64)) (.ret false)
 (.ite (W.gt (Sl.len m.Mem) (W.of .i64 16384)) (.ret false)
 (.ite (W.ne (Sl.len m.Shadow) (Sl.len m.Mem)) (.ret false)
 (.opt (F_core_clean m.A) fun r1 =>
 .ret r1))))
noncomputable def F_core_right (m : TMach) : Option (Bool) := (T_core_right m).eval
/- cotterel/step.Copy -/
noncomputable def T_step_Copy (m : TMach) : Tree (TMach) :=
 .ret ({ m with Mem := m.Mem, Shadow := m.Shadow, Out := m.Out } : TMach)
noncomputable def F_step_Copy (m : TMach) : Option (TMach) := (T_step_Copy m).eval
/- cotterel/pht.clamp -/
noncomputable def T_pht_clamp (bits : W .i64) : Tree (W .i64) :=
 .ret (W.min (W.max bits (W.of .i64 0)) (W.of .i64 8))
noncomputable def F_pht_clamp (bits : W .i64) : Option (W .i64) := (T_pht_clamp bits).eval
/- math/bits.Mul64 -/
noncomputable def T_bits_Mul64 (x y : W .u64) : Tree (W .u64 × W .u64) :=
 .ret ((W.add (W.add (W.mul (W.shr x (W.of .u64 32)) (W.shr y (W.of .u64 32))) (W.shr (W.add (W.mul (W.shr x (W.of .u64 32)) (W.and y (W.of .u64 4294967295))) (W.shr (W.mul (W.and x (W.of .u64 4294967295)) (W.and y (W.of .u64 4294967295))) (W.of .u64 32))) (W.of .u64 32))) (W.shr (W.add (W.and (W.add (W.mul (W.shr x (W.of .u64 32)) (W.and y (W.of .u64 4294967295))) (W.shr (W.mul (W.and x (W.of .u64 4294967295)) (W.and y (W.of .u64 4294967295))) (W.of .u64 32))) (W.of .u64 4294967295)) (W.mul (W.and x (W.of .u64 4294967295)) (W.shr y (W.of .u64 32)))) (W.of .u64 32))), (W.mul x y))
noncomputable def F_bits_Mul64 (x y : W .u64) : Option (W .u64 × W .u64) := (T_bits_Mul64 x y).eval
/- math/bits.Mul -/
noncomputable def T_bits_Mul (x y : W .u64) : Tree (W .u64 × W .u64) :=
 .opt (F_bits_Mul64 x y) fun r1 =>
 .ret (r1.1, r1.2)
noncomputable def F_bits_Mul (x y : W .u64) : Option (W .u64 × W .u64) := (T_bits_Mul x y).eval
/- slices.Repeat[[]uint8,uint8] -/
noncomputable def B_slices_Repeat_uint8_17 (newslice : Sl 1 (W .u8)) (n_8 : W .i64) : Tree (Rnd (Sl 1 (W .u8) × W .i64 × Unit) (Sl 1 (W .u8) × Unit)) :=
 .ite (W.lt n_8 (Sl.len newslice)) (.opt (nat? n_8) fun n3 =>
 .opt (vw? (List.length newslice.l) (some n3) (none)) fun j4 =>
 .opt (nat? n_8) fun n5 =>
 .opt (vw? (List.length newslice.l) (none) (some n5)) fun j6 =>
 .ret (.next ((Sl.copy newslice n3 (Sl.cut newslice 0 n5)), (W.add n_8 (Sl.copyLen newslice n3 (Sl.cut newslice 0 n5))), ())))
 (.ret (.out (newslice, ())))
noncomputable def L_slices_Repeat_uint8_17 (a : Sl 1 (W .u8) × W .i64 × Unit) : Option (Sl 1 (W .u8) × Unit) := iter (fun a : Sl 1 (W .u8) × W .i64 × Unit => (B_slices_Repeat_uint8_17 a.1 a.2.1).eval) fuel a
noncomputable def T_slices_Repeat_uint8 (x : Sl 1 (W .u8)) (count : W .i64) : Tree (Sl 1 (W .u8)) :=
 .ite (W.lt count (W.of .i64 0)) (.fail)
 (.opt (F_bits_Mul (W.conv (.u64) (Sl.len x)) (W.conv (.u64) count)) fun r1 =>
 .ite (W.gt r1.1 (W.of .u64 0)) (.fail)
 (.ite (W.gt r1.2 (W.of .u64 9223372036854775807)) (.fail)
 (.opt (Sl.make? 1 (W.of .u8 0) (W.conv (.i64) r1.2) (W.conv (.i64) r1.2)) fun l2 =>
 .opt (L_slices_Repeat_uint8_17 (((Sl.copy l2 0 x), (Sl.copyLen l2 0 x), ()))) fun o7 =>
 .ret o7.1)))
noncomputable def F_slices_Repeat_uint8 (x : Sl 1 (W .u8)) (count : W .i64) : Option (Sl 1 (W .u8)) := (T_slices_Repeat_uint8 x count).eval
/- cotterel/pht.New -/
noncomputable def T_pht_New (bits : W .i64) : Tree (Sl 1 (W .u8)) :=
 .opt (F_pht_clamp bits) fun r1 =>
 .opt (W.shl? (W.of .i64 1) r1) fun z2 =>
 .opt (F_slices_Repeat_uint8 (Sl.lit 1 [(W.of .u8 1)] rfl : Sl 1 (W .u8)) z2) fun r3 =>
 .ret r3
noncomputable def F_pht_New (bits : W .i64) : Option (Sl 1 (W .u8)) := (T_pht_New bits).eval
/- cotterel/btb.New -/
noncomputable def T_btb_New (n_0 : W .i64) : Tree (Sl 16 (TBtb)) :=
 .opt (Sl.make? 16 (TBtb.mk (W.of .u32 0) (W.of .u32 0) (W.of .i64 0)) (W.min (W.max n_0 (W.of .i64 0)) (W.of .i64 16)) (W.min (W.max n_0 (W.of .i64 0)) (W.of .i64 16))) fun l1 =>
 .ret l1
noncomputable def F_btb_New (n_0 : W .i64) : Option (Sl 16 (TBtb)) := (T_btb_New n_0).eval
/- cotterel/ras.New -/
noncomputable def T_ras_New (n_0 : W .i64) : Tree (Sl 4 (W .u32)) :=
 .opt (Sl.make? 4 (W.of .u32 0) (W.min (W.max n_0 (W.of .i64 0)) (W.of .i64 16)) (W.min (W.max n_0 (W.of .i64 0)) (W.of .i64 16))) fun l1 =>
 .ret l1
noncomputable def F_ras_New (n_0 : W .i64) : Option (Sl 4 (W .u32)) := (T_ras_New n_0).eval
/- cotterel/pred.New -/
noncomputable def T_pred_New (c : TConf) : Tree (TPred) :=
 .opt (F_pht_New c.Hist) fun r1 =>
 .opt (F_btb_New c.Btb) fun r2 =>
 .opt (F_ras_New c.Ras) fun r3 =>
 .ret (TPred.mk (W.of .u32 0) r1 r2 (W.of .i64 0) r3 (W.of .i64 0))
noncomputable def F_pred_New (c : TConf) : Option (TPred) := (T_pred_New c).eval
/- cotterel/tlb.New -/
noncomputable def T_tlb_New (n_0 : W .i64) : Tree (Sl 24 (TTlb)) :=
 .opt (Sl.make? 24 (TTlb.mk false (W.of .u32 0) (TPte.mk (W.of .u32 0) (W.of .i64 0))) (W.min (W.max n_0 (W.of .i64 0)) (W.of .i64 8)) (W.min (W.max n_0 (W.of .i64 0)) (W.of .i64 8))) fun l1 =>
 .ret l1
noncomputable def F_tlb_New (n_0 : W .i64) : Option (Sl 24 (TTlb)) := (T_tlb_New n_0).eval
/- cotterel/dep.New -/
noncomputable def T_dep_New (n_0 : W .i64) : Tree (Sl 1 (W .u8)) :=
 .opt (Sl.make? 1 (W.of .u8 0) (W.min (W.max n_0 (W.of .i64 0)) (W.of .i64 16)) (W.min (W.max n_0 (W.of .i64 0)) (W.of .i64 16))) fun l1 =>
 .ret l1
noncomputable def F_dep_New (n_0 : W .i64) : Option (Sl 1 (W .u8)) := (T_dep_New n_0).eval
/- cotterel/rat.New -/
noncomputable def B_rat_New_7 (t_0 m : Arr 16 (W .i64)) (r : W .i64) : Tree (Rnd (Arr 16 (W .i64) × Arr 16 (W .i64) × W .i64 × Unit) (Arr 16 (W .i64) × Arr 16 (W .i64) × Unit)) :=
 .ite (W.lt r (W.of .i64 16)) (.opt (idx? 16 r) fun j1 =>
 .ret (.next (t_0, (Arr.set m j1 r), (W.add r (W.of .i64 1)), ())))
 (.ret (.out (t_0, m, ())))
noncomputable def L_rat_New_7 (a : Arr 16 (W .i64) × Arr 16 (W .i64) × W .i64 × Unit) : Option (Arr 16 (W .i64) × Arr 16 (W .i64) × Unit) := iter (fun a : Arr 16 (W .i64) × Arr 16 (W .i64) × W .i64 × Unit => (B_rat_New_7 a.1 a.2.1 a.2.2.1).eval) fuel a
noncomputable def T_rat_New  : Tree (Arr 16 (W .i64)) :=
 .opt (L_rat_New_7 (((Arr.rep 16 (W.of .i64 0) : Arr 16 (W .i64)), (Arr.lit 16 [(W.of .i64 (-1)), (W.of .i64 0), (W.of .i64 0), (W.of .i64 0), (W.of .i64 0), (W.of .i64 0), (W.of .i64 0), (W.of .i64 0), (W.of .i64 0), (W.of .i64 0), (W.of .i64 0), (W.of .i64 0), (W.of .i64 0), (W.of .i64 0), (W.of .i64 0), (W.of .i64 0)] rfl : Arr 16 (W .i64)), (W.of .i64 1), ()))) fun o2 =>
 .ret o2.2.1
noncomputable def F_rat_New  : Option (Arr 16 (W .i64)) := (T_rat_New).eval
/- cotterel/freel.New -/
noncomputable def B_freel_New_11 (used : W .i64) (t_4 f : TFree) (t_21 t_22 : W .i64) : Tree (Rnd (W .i64 × TFree × TFree × W .i64 × W .i64 × Unit) (TFree × TFree × Unit)) :=
 .ite (W.lt t_22 t_21) (.opt (idx? (List.length f.Ring.l) t_22) fun j2 =>
 .ret (.next (used, t_4, ({ f with Ring := (Sl.set f.Ring j2 (W.add used t_22)) } : TFree), t_21, (W.add t_22 (W.of .i64 1)), ())))
 (.ret (.out (t_4, f, ())))
noncomputable def L_freel_New_11 (a : W .i64 × TFree × TFree × W .i64 × W .i64 × Unit) : Option (TFree × TFree × Unit) := iter (fun a : W .i64 × TFree × TFree × W .i64 × W .i64 × Unit => (B_freel_New_11 a.1 a.2.1 a.2.2.1 a.2.2.2.1 a.2.2.2.2.1).eval) fuel a
noncomputable def T_freel_New (n_0 used : W .i64) : Tree (TFree) :=
 .opt (Sl.make? 8 (W.of .i64 0) (W.min (W.max n_0 (W.of .i64 0)) (W.of .i64 96)) (W.min (W.max n_0 (W.of .i64 0)) (W.of .i64 96))) fun l1 =>
 .opt (L_freel_New_11 (((W.min (W.max used (W.of .i64 0)) (W.min (W.max n_0 (W.of .i64 0)) (W.of .i64 96))), (TFree.mk (Sl.nil : Sl 8 (W .i64)) (W.of .i64 0) (W.of .i64 0)), (TFree.mk l1 (W.of .i64 0) (W.sub (W.min (W.max n_0 (W.of .i64 0)) (W.of .i64 96)) (W.min (W.max used (W.of .i64 0)) (W.min (W.max n_0 (W.of .i64 0)) (W.of .i64 96))))), (W.sub (W.min (W.max n_0 (W.of .i64 0)) (W.of .i64 96)) (W.min (W.max used (W.of .i64 0)) (W.min (W.max n_0 (W.of .i64 0)) (W.of .i64 96)))), (W.of .i64 0), ()))) fun o3 =>
 .ret o3.2.1
noncomputable def F_freel_New (n_0 used : W .i64) : Option (TFree) := (T_freel_New n_0 used).eval
/- cotterel/rename.New -/
noncomputable def T_rename_New (n_0 : W .i64) : Tree (TNames) :=
 .opt (F_rat_New) fun r1 =>
 .opt (F_rat_New) fun r2 =>
 .opt (F_freel_New n_0 (W.of .i64 16)) fun r3 =>
 .ret (TNames.mk r1 r2 r3 (W.of .u64 1))
noncomputable def F_rename_New (n_0 : W .i64) : Option (TNames) := (T_rename_New n_0).eval
/- slices.Repeat[[]bool,bool] -/
noncomputable def B_slices_Repeat_bool_17 (newslice : Sl 1 (Bool)) (n_8 : W .i64) : Tree (Rnd (Sl 1 (Bool) × W .i64 × Unit) (Sl 1 (Bool) × Unit)) :=
 .ite (W.lt n_8 (Sl.len newslice)) (.opt (nat? n_8) fun n3 =>
 .opt (vw? (List.length newslice.l) (some n3) (none)) fun j4 =>
 .opt (nat? n_8) fun n5 =>
 .opt (vw? (List.length newslice.l) (none) (some n5)) fun j6 =>
 .ret (.next ((Sl.copy newslice n3 (Sl.cut newslice 0 n5)), (W.add n_8 (Sl.copyLen newslice n3 (Sl.cut newslice 0 n5))), ())))
 (.ret (.out (newslice, ())))
noncomputable def L_slices_Repeat_bool_17 (a : Sl 1 (Bool) × W .i64 × Unit) : Option (Sl 1 (Bool) × Unit) := iter (fun a : Sl 1 (Bool) × W .i64 × Unit => (B_slices_Repeat_bool_17 a.1 a.2.1).eval) fuel a
noncomputable def T_slices_Repeat_bool (x : Sl 1 (Bool)) (count : W .i64) : Tree (Sl 1 (Bool)) :=
 .ite (W.lt count (W.of .i64 0)) (.fail)
 (.opt (F_bits_Mul (W.conv (.u64) (Sl.len x)) (W.conv (.u64) count)) fun r1 =>
 .ite (W.gt r1.1 (W.of .u64 0)) (.fail)
 (.ite (W.gt r1.2 (W.of .u64 9223372036854775807)) (.fail)
 (.opt (Sl.make? 1 false (W.conv (.i64) r1.2) (W.conv (.i64) r1.2)) fun l2 =>
 .opt (L_slices_Repeat_bool_17 (((Sl.copy l2 0 x), (Sl.copyLen l2 0 x), ()))) fun o7 =>
 .ret o7.1)))
noncomputable def F_slices_Repeat_bool (x : Sl 1 (Bool)) (count : W .i64) : Option (Sl 1 (Bool)) := (T_slices_Repeat_bool x count).eval
/- cotterel/prf.New -/
noncomputable def T_prf_New (n_0 : W .i64) : Tree (TPhys) :=
 .opt (Sl.make? 4 (W.of .u32 0) (W.min (W.max n_0 (W.of .i64 0)) (W.of .i64 96)) (W.min (W.max n_0 (W.of .i64 0)) (W.of .i64 96))) fun l1 =>
 .opt (F_slices_Repeat_bool (Sl.lit 1 [true] rfl : Sl 1 (Bool)) (W.min (W.max n_0 (W.of .i64 0)) (W.of .i64 96))) fun r2 =>
 .ret (TPhys.mk l1 r2)
noncomputable def F_prf_New (n_0 : W .i64) : Option (TPhys) := (T_prf_New n_0).eval
/- slices.Clone[[]uint32,uint32] -/
noncomputable def F_slices_Clone_uint32 (s : Sl 4 (W .u32)) : Option (Sl 4 (W .u32)) := some s
/- slices.Clone[[]bool,bool] -/
noncomputable def F_slices_Clone_bool (s : Sl 1 (Bool)) : Option (Sl 1 (Bool)) := some s
/- cotterel/prf.has -/
noncomputable def T_prf_has (f : TPhys) (p : W .i64) : Tree (Bool) :=
 .ite (W.ge p (W.of .i64 0)) (.ite (W.lt p (Sl.len f.Val)) (.ret (W.lt p (Sl.len f.Ready)))
 (.ret false))
 (.ret false)
noncomputable def F_prf_has (f : TPhys) (p : W .i64) : Option (Bool) := (T_prf_has f p).eval
/- cotterel/prf.Put -/
noncomputable def T_prf_Put (f : TPhys) (p : W .i64) (v : W .u32) : Tree (TPhys) :=
 .opt (F_slices_Clone_uint32 f.Val) fun r1 =>
 .opt (F_slices_Clone_bool f.Ready) fun r2 =>
 .opt (F_prf_has f p) fun r3 =>
 .ite r3 (.opt (idx? (List.length r1.l) p) fun j4 =>
 .opt (idx? (List.length r2.l) p) fun j5 =>
 .ret (TPhys.mk (Sl.set r1 j4 v) (Sl.set r2 j5 true)))
 (.ret (TPhys.mk r1 r2))
noncomputable def F_prf_Put (f : TPhys) (p : W .i64) (v : W .u32) : Option (TPhys) := (T_prf_Put f p v).eval
/- cotterel/core.New -/
noncomputable def B_core_New_27 (m : TMach) (t_4 k : TCore) (r : W .i64) : Tree (Rnd (TMach × TCore × TCore × W .i64 × Unit) (TCore × TCore × Unit)) :=
 .ite (W.lt r (W.of .i64 16)) (.opt (idx? 16 r) fun j9 =>
 .opt (F_prf_Put k.Phys r (Arr.get m.A.R j9)) fun r10 =>
 .ret (.next (m, t_4, ({ k with Phys := r10 } : TCore), (W.add r (W.of .i64 1)), ())))
 (.ret (.out (t_4, k, ())))
noncomputable def L_core_New_27 (a : TMach × TCore × TCore × W .i64 × Unit) : Option (TCore × TCore × Unit) := iter (fun a : TMach × TCore × TCore × W .i64 × Unit => (B_core_New_27 a.1 a.2.1 a.2.2.1 a.2.2.2.1).eval) fuel a
noncomputable def T_core_New (c : TConf) (m : TMach) : Tree (TCore × W .i64) :=
 .opt (F_core_Conf c) fun r1 =>
 .ite (W.ne r1 (W.of .i64 0)) (.ret ((TCore.mk (TConf.mk (W.of .i64 0) (W.of .i64 0) (W.of .i64 0) (W.of .i64 0) (W.of .i64 0) (W.of .i64 0) (W.of .i64 0) (W.of .i64 0) (W.of .i64 0) (W.of .i64 0) (W.of .i64 0) (W.of .i64 0) (W.of .i64 0) (W.of .i64 0) (W.of .i64 0) (W.of .i64 0) (W.of .i64 0) (W.of .i64 0) (W.of .i64 0) (W.of .i64 0) (W.of .i64 0) false) (TArch.mk (W.of .u32 0) (Arr.rep 16 (W.of .u32 0) : Arr 16 (W .u32)) (Arr.rep 12 (W.of .u32 0) : Arr 12 (W .u32)) false) (Sl.nil : Sl 1 (W .u8)) (Sl.nil : Sl 4 (W .u32)) (W.of .u32 0) false (TPred.mk (W.of .u32 0) (Sl.nil : Sl 1 (W .u8)) (Sl.nil : Sl 16 (TBtb)) (W.of .i64 0) (Sl.nil : Sl 4 (W .u32)) (W.of .i64 0)) (Sl.nil : Sl 24 (TTlb)) (W.of .i64 0) (Sl.nil : Sl 56 (TSlot)) (TNames.mk (Arr.rep 16 (W.of .i64 0) : Arr 16 (W .i64)) (Arr.rep 16 (W.of .i64 0) : Arr 16 (W .i64)) (TFree.mk (Sl.nil : Sl 8 (W .i64)) (W.of .i64 0) (W.of .i64 0)) (W.of .u64 0)) (TPhys.mk (Sl.nil : Sl 4 (W .u32)) (Sl.nil : Sl 1 (Bool))) (Sl.nil : Sl 248 (TRob)) (Sl.nil : Sl 224 (TIq)) (Sl.nil : Sl 48 (TLq)) (Sl.nil : Sl 32 (TSq)) (Sl.nil : Sl 16 (TSb)) (Sl.nil : Sl 256 (TFlight)) (Sl.nil : Sl 1 (W .u8)) (W.of .i64 0) (W.of .i64 0)), r1))
 (.opt (F_core_right m) fun r2 =>
 .ite (!r2) (.ret ((TCore.mk (TConf.mk (W.of .i64 0) (W.of .i64 0) (W.of .i64 0) (W.of .i64 0) (W.of .i64 0) (W.of .i64 0) (W.of .i64 0) (W.of .i64 0) (W.of .i64 0) (W.of .i64 0) (W.of .i64 0) (W.of .i64 0) (W.of .i64 0) (W.of .i64 0) (W.of .i64 0) (W.of .i64 0) (W.of .i64 0) (W.of .i64 0) (W.of .i64 0) (W.of .i64 0) (W.of .i64 0) false) (TArch.mk (W.of .u32 0) (Arr.rep 16 (W.of .u32 0) : Arr 16 (W .u32)) (Arr.rep 12 (W.of .u32 0) : Arr 12 (W .u32)) false) (Sl.nil : Sl 1 (W .u8)) (Sl.nil : Sl 4 (W .u32)) (W.of .u32 0) false (TPred.mk (W.of .u32 0) (Sl.nil : Sl 1 (W .u8)) (Sl.nil : Sl 16 (TBtb)) (W.of .i64 0) (Sl.nil : Sl 4 (W .u32)) (W.of .i64 0)) (Sl.nil : Sl 24 (TTlb)) (W.of .i64 0) (Sl.nil : Sl 56 (TSlot)) (TNames.mk (Arr.rep 16 (W.of .i64 0) : Arr 16 (W .i64)) (Arr.rep 16 (W.of .i64 0) : Arr 16 (W .i64)) (TFree.mk (Sl.nil : Sl 8 (W .i64)) (W.of .i64 0) (W.of .i64 0)) (W.of .u64 0)) (TPhys.mk (Sl.nil : Sl 4 (W .u32)) (Sl.nil : Sl 1 (Bool))) (Sl.nil : Sl 248 (TRob)) (Sl.nil : Sl 224 (TIq)) (Sl.nil : Sl 48 (TLq)) (Sl.nil : Sl 32 (TSq)) (Sl.nil : Sl 16 (TSb)) (Sl.nil : Sl 256 (TFlight)) (Sl.nil : Sl 1 (W .u8)) (W.of .i64 0) (W.of .i64 0)), (W.of .i64 1)))
 (.opt (F_step_Copy m) fun r3 =>
 .opt (F_pred_New c) fun r4 =>
 .opt (F_tlb_New c.Tlb) fun r5 =>
 .opt (F_dep_New c.Dep) fun r6 =>
 .opt (F_rename_New c.Phys) fun r7 =>
 .opt (F_prf_New c.Phys) fun r8 =>
 .opt (L_core_New_27 ((r3, (TCore.mk (TConf.mk (W.of .i64 0) (W.of .i64 0) (W.of .i64 0) (W.of .i64 0) (W.of .i64 0) (W.of .i64 0) (W.of .i64 0) (W.of .i64 0) (W.of .i64 0) (W.of .i64 0) (W.of .i64 0) (W.of .i64 0) (W.of .i64 0) (W.of .i64 0) (W.of .i64 0) (W.of .i64 0) (W.of .i64 0) (W.of .i64 0) (W.of .i64 0) (W.of .i64 0) (W.of .i64 0) false) (TArch.mk (W.of .u32 0) (Arr.rep 16 (W.of .u32 0) : Arr 16 (W .u32)) (Arr.rep 12 (W.of .u32 0) : Arr 12 (W .u32)) false) (Sl.nil : Sl 1 (W .u8)) (Sl.nil : Sl 4 (W .u32)) (W.of .u32 0) false (TPred.mk (W.of .u32 0) (Sl.nil : Sl 1 (W .u8)) (Sl.nil : Sl 16 (TBtb)) (W.of .i64 0) (Sl.nil : Sl 4 (W .u32)) (W.of .i64 0)) (Sl.nil : Sl 24 (TTlb)) (W.of .i64 0) (Sl.nil : Sl 56 (TSlot)) (TNames.mk (Arr.rep 16 (W.of .i64 0) : Arr 16 (W .i64)) (Arr.rep 16 (W.of .i64 0) : Arr 16 (W .i64)) (TFree.mk (Sl.nil : Sl 8 (W .i64)) (W.of .i64 0) (W.of .i64 0)) (W.of .u64 0)) (TPhys.mk (Sl.nil : Sl 4 (W .u32)) (Sl.nil : Sl 1 (Bool))) (Sl.nil : Sl 248 (TRob)) (Sl.nil : Sl 224 (TIq)) (Sl.nil : Sl 48 (TLq)) (Sl.nil : Sl 32 (TSq)) (Sl.nil : Sl 16 (TSb)) (Sl.nil : Sl 256 (TFlight)) (Sl.nil : Sl 1 (W .u8)) (W.of .i64 0) (W.of .i64 0)), (TCore.mk c r3.A r3.Shadow r3.Out r3.A.PC false r4 r5 (W.of .i64 0) (Sl.nil : Sl 56 (TSlot)) r7 r8 (Sl.nil : Sl 248 (TRob)) (Sl.nil : Sl 224 (TIq)) (Sl.nil : Sl 48 (TLq)) (Sl.nil : Sl 32 (TSq)) (Sl.nil : Sl 16 (TSb)) (Sl.nil : Sl 256 (TFlight)) r6 (W.of .i64 0) (W.of .i64 0)), (W.of .i64 1), ()))) fun o11 =>
 .ret (o11.2.1, (W.of .i64 0))))
noncomputable def F_core_New (c : TConf) (m : TMach) : Option (TCore × W .i64) := (T_core_New c m).eval
/- cotterel/core.Empty -/
noncomputable def T_core_Empty (c : TCore) : Tree (Bool) :=
 .ret (W.eq (W.add (W.add (W.add (W.add (W.add (W.add (Sl.len c.Queue) (Sl.len c.Rob)) (Sl.len c.Iq)) (Sl.len c.Lq)) (Sl.len c.Sq)) (Sl.len c.Sb)) (Sl.len c.Units)) (W.of .i64 0))
noncomputable def F_core_Empty (c : TCore) : Option (Bool) := (T_core_Empty c).eval
/- cotterel/core.rooms -/
noncomputable def T_core_rooms (c : TCore) : Tree (Bool) :=
 .opt (F_core_Conf c.Conf) fun r1 =>
 .ite (W.ne r1 (W.of .i64 0)) (.ret false)
 (.ite (W.gt (Sl.len c.Queue) c.Conf.Queue) (.ret false)
 (.ite (W.gt (Sl.len c.Rob) c.Conf.Rob) (.ret false)
 (.ite (W.gt (Sl.len c.Iq) c.Conf.Iq) (.ret false)
 (.ite (W.gt (Sl.len c.Lq) c.Conf.Lq) (.ret false)
 (.ite (W.gt (Sl.len c.Sq) c.Conf.Sq) (.ret false)
 (.ite (W.gt (Sl.len c.Sb) c.Conf.Sb) (.ret false)
 (.ite (W.eq (Sl.len c.Phys.Val) c.Conf.Phys) (.ite (W.eq (Sl.len c.Phys.Ready) c.Conf.Phys) (.ite (W.eq (Sl.len c.Tlb) c.Conf.Tlb) (.ret (W.eq (Sl.len c.Dep) c.Conf.Dep))
 (.ret false))
 (.ret false))
 (.ret false))))))))
noncomputable def F_core_rooms (c : TCore) : Option (Bool) := (T_core_rooms c).eval
/- cotterel/core.queued -/
noncomputable def B_core_queued_5 (c : TCore) (iq units : Sl 216 (TRen)) (t_9 : Sl 224 (TIq)) (t_10 t_11 : W .i64) : Tree (Rnd (TCore × Sl 216 (TRen) × Sl 216 (TRen) × Sl 224 (TIq) × W .i64 × W .i64 × Unit) (TCore × Sl 216 (TRen) × Sl 216 (TRen) × Unit)) :=
 .ite (W.lt t_11 t_10) (.opt (Sl.get? t_9 t_11) fun y1 =>
 .opt (Sl.app? iq (Sl.lit 216 [y1.Ren] rfl : Sl 216 (TRen))) fun l2 =>
 .ret (.next (c, l2, units, t_9, t_10, (W.add t_11 (W.of .i64 1)), ())))
 (.ret (.out (c, iq, units, ())))
noncomputable def L_core_queued_5 (a : TCore × Sl 216 (TRen) × Sl 216 (TRen) × Sl 224 (TIq) × W .i64 × W .i64 × Unit) : Option (TCore × Sl 216 (TRen) × Sl 216 (TRen) × Unit) := iter (fun a : TCore × Sl 216 (TRen) × Sl 216 (TRen) × Sl 224 (TIq) × W .i64 × W .i64 × Unit => (B_core_queued_5 a.1 a.2.1 a.2.2.1 a.2.2.2.1 a.2.2.2.2.1 a.2.2.2.2.2.1).eval) fuel a
noncomputable def B_core_queued_20 (iq units : Sl 216 (TRen)) (t_22 : Sl 256 (TFlight)) (t_23 t_24 : W .i64) : Tree (Rnd (Sl 216 (TRen) × Sl 216 (TRen) × Sl 256 (TFlight) × W .i64 × W .i64 × Unit) (Sl 216 (TRen) × Sl 216 (TRen) × Unit)) :=
 .ite (W.lt t_24 t_23) (.opt (Sl.get? t_22 t_24) fun y4 =>
 .opt (Sl.app? units (Sl.lit 216 [y4.Ren] rfl : Sl 216 (TRen))) fun l5 =>
 .ret (.next (iq, l5, t_22, t_23, (W.add t_24 (W.of .i64 1)), ())))
 (.ret (.out (iq, units, ())))
noncomputable def L_core_queued_20 (a : Sl 216 (TRen) × Sl 216 (TRen) × Sl 256 (TFlight) × W .i64 × W .i64 × Unit) : Option (Sl 216 (TRen) × Sl 216 (TRen) × Unit) := iter (fun a : Sl 216 (TRen) × Sl 216 (TRen) × Sl 256 (TFlight) × W .i64 × W .i64 × Unit => (B_core_queued_20 a.1 a.2.1 a.2.2.1 a.2.2.2.1 a.2.2.2.2.1).eval) fuel a
noncomputable def T_core_queued (c : TCore) : Tree (Sl 216 (TRen) × Sl 216 (TRen)) :=
 .opt (L_core_queued_5 ((c, (Sl.nil : Sl 216 (TRen)), (Sl.nil : Sl 216 (TRen)), c.Iq, (Sl.len c.Iq), (W.of .i64 0), ()))) fun o3 =>
 .opt (L_core_queued_20 ((o3.2.1, o3.2.2.1, o3.1.Units, (Sl.len o3.1.Units), (W.of .i64 0), ()))) fun o6 =>
 .ret (o6.1, o6.2.1)
noncomputable def F_core_queued (c : TCore) : Option (Sl 216 (TRen) × Sl 216 (TRen)) := (T_core_queued c).eval
/- cotterel/rob.Right -/
noncomputable def B_rob_Right_7 (last : W .u64) (part : W .i64) (t_7 : Sl 248 (TRob)) (t_8 t_9 : W .i64) : Tree (Rnd (W .u64 × W .i64 × Sl 248 (TRob) × W .i64 × W .i64 × Unit) ((Bool × W .i64 × Unit) ⊕ (Unit × W .i64 × Unit))) :=
 .ite (W.lt t_9 t_8) (.opt (Sl.get? t_7 t_9) fun y1 =>
 .ite (W.le y1.Ren.Seq last) (.ret (.out (.inl (false, part, ()))))
 (.ite (W.ne y1.Ren.Uop.Part part) (.ret (.out (.inl (false, part, ()))))
 (.ite y1.Ren.Uop.Last (.ret (.next (y1.Ren.Seq, (W.of .i64 0), t_7, t_8, (W.add t_9 (W.of .i64 1)), ())))
 (.ret (.next (y1.Ren.Seq, (W.add part (W.of .i64 1)), t_7, t_8, (W.add t_9 (W.of .i64 1)), ()))))))
 (.ret (.out (.inr ((), part, ()))))
noncomputable def L_rob_Right_7 (a : W .u64 × W .i64 × Sl 248 (TRob) × W .i64 × W .i64 × Unit) : Option ((Bool × W .i64 × Unit) ⊕ (Unit × W .i64 × Unit)) := iter (fun a : W .u64 × W .i64 × Sl 248 (TRob) × W .i64 × W .i64 × Unit => (B_rob_Right_7 a.1 a.2.1 a.2.2.1 a.2.2.2.1 a.2.2.2.2.1).eval) fuel a
noncomputable def T_rob_Right (l_0 : Sl 248 (TRob)) : Tree (Bool) :=
 .opt (L_rob_Right_7 (((W.of .u64 0), (W.of .i64 0), l_0, (Sl.len l_0), (W.of .i64 0), ()))) fun o2 =>
 .sum o2 (fun p3 =>
 .ret p3.1)
 (fun o4 =>
 .ret (W.eq o4.2.1 (W.of .i64 0)))
noncomputable def F_rob_Right (l_0 : Sl 248 (TRob)) : Option (Bool) := (T_rob_Right l_0).eval
/- cotterel/core.ordered -/
noncomputable def T_core_ordered (c : TCore) : Tree (Bool) :=
 .opt (F_rob_Right c.Rob) fun r1 =>
 .ite r1 (.ite (W.eq (Sl.len c.Rob) (W.of .i64 0)) (.ret true)
 (.opt (Sl.get? c.Rob (W.sub (Sl.len c.Rob) (W.of .i64 1))) fun y2 =>
 .ret (W.lt y2.Ren.Seq c.Names.Seq)))
 (.ret false)
noncomputable def F_core_ordered (c : TCore) : Option (Bool) := (T_core_ordered c).eval
/- cotterel/core.rens -/
noncomputable def B_core_rens_7 (l_3 : Sl 216 (TRen)) (t_7 : Sl 248 (TRob)) (t_8 t_9 : W .i64) : Tree (Rnd (Sl 216 (TRen) × Sl 248 (TRob) × W .i64 × W .i64 × Unit) (Sl 216 (TRen) × Unit)) :=
 .ite (W.lt t_9 t_8) (.opt (Sl.get? t_7 t_9) fun y1 =>
 .opt (Sl.app? l_3 (Sl.lit 216 [y1.Ren] rfl : Sl 216 (TRen))) fun l2 =>
 .ret (.next (l2, t_7, t_8, (W.add t_9 (W.of .i64 1)), ())))
 (.ret (.out (l_3, ())))
noncomputable def L_core_rens_7 (a : Sl 216 (TRen) × Sl 248 (TRob) × W .i64 × W .i64 × Unit) : Option (Sl 216 (TRen) × Unit) := iter (fun a : Sl 216 (TRen) × Sl 248 (TRob) × W .i64 × W .i64 × Unit => (B_core_rens_7 a.1 a.2.1 a.2.2.1 a.2.2.2.1).eval) fuel a
noncomputable def T_core_rens (c : TCore) : Tree (Sl 216 (TRen)) :=
 .opt (L_core_rens_7 (((Sl.nil : Sl 216 (TRen)), c.Rob, (Sl.len c.Rob), (W.of .i64 0), ()))) fun o3 =>
 .ret o3.1
noncomputable def F_core_rens (c : TCore) : Option (Sl 216 (TRen)) := (T_core_rens c).eval
/- cotterel/rat.Right -/
noncomputable def B_rat_Right_20 (n_1 : W .i64) (m : Arr 16 (W .i64)) (r q : W .i64) : Tree (Rnd (W .i64 × Arr 16 (W .i64) × W .i64 × W .i64 × Unit) ((W .i64 × Arr 16 (W .i64) × Bool × W .i64 × Unit) ⊕ (W .i64 × Arr 16 (W .i64) × Unit × W .i64 × Unit))) :=
 .ite (W.lt q r) (.opt (idx? 16 q) fun j1 =>
 .opt (idx? 16 r) fun j2 =>
 .ite (W.eq (Arr.get m j1) (Arr.get m j2)) (.ret (.out (.inl (n_1, m, false, r, ()))))
 (.ret (.next (n_1, m, r, (W.add q (W.of .i64 1)), ()))))
 (.ret (.out (.inr (n_1, m, (), r, ()))))
noncomputable def L_rat_Right_20 (a : W .i64 × Arr 16 (W .i64) × W .i64 × W .i64 × Unit) : Option ((W .i64 × Arr 16 (W .i64) × Bool × W .i64 × Unit) ⊕ (W .i64 × Arr 16 (W .i64) × Unit × W .i64 × Unit)) := iter (fun a : W .i64 × Arr 16 (W .i64) × W .i64 × W .i64 × Unit => (B_rat_Right_20 a.1 a.2.1 a.2.2.1 a.2.2.2.1).eval) fuel a
noncomputable def B_rat_Right_11 (n_1 : W .i64) (m : Arr 16 (W .i64)) (r : W .i64) : Tree (Rnd (W .i64 × Arr 16 (W .i64) × W .i64 × Unit) ((Bool × Unit) ⊕ (Unit × Unit))) :=
 .ite (W.lt r (W.of .i64 16)) (.opt (L_rat_Right_20 ((n_1, m, r, (W.of .i64 1), ()))) fun o3 =>
 .sum o3 (fun p4 =>
 .ret (.out (.inl (p4.2.2.1, ()))))
 (fun o5 =>
 .opt (idx? 16 o5.2.2.2.1) fun j6 =>
 .ite (W.lt (Arr.get o5.2.1 j6) (W.of .i64 1)) (.ret (.out (.inl (false, ()))))
 (.opt (idx? 16 o5.2.2.2.1) fun j7 =>
 .ite (W.ge (Arr.get o5.2.1 j7) o5.1) (.ret (.out (.inl (false, ()))))
 (.ret (.next (o5.1, o5.2.1, (W.add o5.2.2.2.1 (W.of .i64 1)), ()))))))
 (.ret (.out (.inr ((), ()))))
noncomputable def L_rat_Right_11 (a : W .i64 × Arr 16 (W .i64) × W .i64 × Unit) : Option ((Bool × Unit) ⊕ (Unit × Unit)) := iter (fun a : W .i64 × Arr 16 (W .i64) × W .i64 × Unit => (B_rat_Right_11 a.1 a.2.1 a.2.2.1).eval) fuel a
noncomputable def T_rat_Right (m : Arr 16 (W .i64)) (n_1 : W .i64) : Tree (Bool) :=
 .ite (W.ne (Arr.get m 0) (W.of .i64 (-1))) (.ret false)
 (.opt (L_rat_Right_11 ((n_1, m, (W.of .i64 1), ()))) fun o8 =>
 .sum o8 (fun p9 =>
 .ret p9.1)
 (fun o10 =>
 .ret true))
noncomputable def F_rat_Right (m : Arr 16 (W .i64)) (n_1 : W .i64) : Option (Bool) := (T_rat_Right m n_1).eval
/- (cotterel/freel.ring).sound -/
noncomputable def T_freel_ring_sound (f : TFree) : Tree (Bool) :=
 .ite (W.le (Sl.len f.Ring) (W.of .i64 96)) (.ite (W.ge f.Head (W.of .i64 0)) (.ite (W.lt f.Head (Sl.len f.Ring)) (.ite (W.ge f.N (W.of .i64 0)) (.ret (W.le f.N (Sl.len f.Ring)))
 (.ret false))
 (.ite (W.eq f.Head (W.of .i64 0)) (.ite (W.ge f.N (W.of .i64 0)) (.ret (W.le f.N (Sl.len f.Ring)))
 (.ret false))
 (.ret false)))
 (.ret false))
 (.ret false)
noncomputable def F_freel_ring_sound (f : TFree) : Option (Bool) := (T_freel_ring_sound f).eval
/- (cotterel/freel.ring).at -/
noncomputable def T_freel_ring_at (f : TFree) (k : W .i64) : Tree (W .i64) :=
 .opt (W.rem? (W.add f.Head k) (Sl.len f.Ring)) fun z1 =>
 .opt (W.rem? (W.add z1 (Sl.len f.Ring)) (Sl.len f.Ring)) fun z2 =>
 .ret z2
noncomputable def F_freel_ring_at (f : TFree) (k : W .i64) : Option (W .i64) := (T_freel_ring_at f k).eval
/- cotterel/freel.List -/
noncomputable def B_freel_List_15 (f placef0 : TFree) (out : Sl 8 (W .i64)) (t_12 t_13 : W .i64) : Tree (Rnd (TFree × ((TFree × Unit) × (Unit)) × Sl 8 (W .i64) × W .i64 × W .i64 × Unit) (Sl 8 (W .i64) × Unit)) :=
 .ite (W.lt t_13 t_12) (.opt (F_freel_ring_at placef0 t_13) fun r2 =>
 .opt (Sl.get? f.Ring r2) fun y3 =>
 .opt (Sl.app? out (Sl.lit 8 [y3] rfl : Sl 8 (W .i64))) fun l4 =>
 .ret (.next (f, ((placef0, ()), ()), l4, t_12, (W.add t_13 (W.of .i64 1)), ())))
 (.ret (.out (out, ())))
noncomputable def L_freel_List_15 (a : TFree × ((TFree × Unit) × (Unit)) × Sl 8 (W .i64) × W .i64 × W .i64 × Unit) : Option (Sl 8 (W .i64) × Unit) := iter (fun a : TFree × ((TFree × Unit) × (Unit)) × Sl 8 (W .i64) × W .i64 × W .i64 × Unit => (B_freel_List_15 a.1 a.2.1.1.1 a.2.2.1 a.2.2.2.1 a.2.2.2.2.1).eval) fuel a
noncomputable def T_freel_List (f : TFree) : Tree (Sl 8 (W .i64)) :=
 .opt (F_freel_ring_sound f) fun r1 =>
 .ite (!r1) (.ret (Sl.nil : Sl 8 (W .i64)))
 (.opt (L_freel_List_15 ((f, ((f, ()), ()), (Sl.nil : Sl 8 (W .i64)), f.N, (W.of .i64 0), ()))) fun o5 =>
 .ret o5.1)
noncomputable def F_freel_List (f : TFree) : Option (Sl 8 (W .i64)) := (T_freel_List f).eval
/- cotterel/freel.Right -/
noncomputable def B_freel_Right_13 (n_1 : W .i64) (seen : Arr 96 (Bool)) (t_19 : Sl 8 (W .i64)) (t_20 t_21 : W .i64) : Tree (Rnd (W .i64 × Arr 96 (Bool) × Sl 8 (W .i64) × W .i64 × W .i64 × Unit) ((Bool × Unit) ⊕ (Unit × Unit))) :=
 .ite (W.lt t_21 t_20) (.opt (Sl.get? t_19 t_21) fun y3 =>
 .ite (W.lt y3 (W.of .i64 0)) (.ret (.out (.inl (false, ()))))
 (.ite (W.ge y3 n_1) (.ret (.out (.inl (false, ()))))
 (.opt (idx? 96 y3) fun j4 =>
 .ite (Arr.get seen j4) (.ret (.out (.inl (false, ()))))
 (.opt (idx? 96 y3) fun j5 =>
 .ret (.next (n_1, (Arr.set seen j5 true), t_19, t_20, (W.add t_21 (W.of .i64 1)), ()))))))
 (.ret (.out (.inr ((), ()))))
noncomputable def L_freel_Right_13 (a : W .i64 × Arr 96 (Bool) × Sl 8 (W .i64) × W .i64 × W .i64 × Unit) : Option ((Bool × Unit) ⊕ (Unit × Unit)) := iter (fun a : W .i64 × Arr 96 (Bool) × Sl 8 (W .i64) × W .i64 × W .i64 × Unit => (B_freel_Right_13 a.1 a.2.1 a.2.2.1 a.2.2.2.1 a.2.2.2.2.1).eval) fuel a
noncomputable def T_freel_Right (f : TFree) (n_1 : W .i64) : Tree (Bool) :=
 .opt (F_freel_ring_sound f) fun r1 =>
 .ite (!r1) (.ret false)
 (.ite (W.ne (Sl.len f.Ring) n_1) (.ret false)
 (.opt (F_freel_List f) fun r2 =>
 .opt (L_freel_Right_13 ((n_1, (Arr.rep 96 false : Arr 96 (Bool)), r2, (Sl.len r2), (W.of .i64 0), ()))) fun o6 =>
 .sum o6 (fun p7 =>
 .ret p7.1)
 (fun o8 =>
 .ret true)))
noncomputable def F_freel_Right (f : TFree) (n_1 : W .i64) : Option (Bool) := (T_freel_Right f n_1).eval
/- cotterel/rename.Right$1 -/
noncomputable def T_rename_Right_1 (p a : W .i64) (a_2 : Bool) (a_3 : Arr 96 (W .i64)) : Tree (W .i64 × Bool × Arr 96 (W .i64)) :=
 .ite (W.lt p (W.of .i64 1)) (.ret (a, true, a_3))
 (.ite (W.ge p a) (.ret (a, true, a_3))
 (.opt (idx? 96 p) fun j1 =>
 .opt (idx? 96 p) fun j2 =>
 .ret (a, a_2, (Arr.set a_3 j2 (W.add (Arr.get a_3 j1) (W.of .i64 1))))))
noncomputable def F_rename_Right_1 (p a : W .i64) (a_2 : Bool) (a_3 : Arr 96 (W .i64)) : Option (W .i64 × Bool × Arr 96 (W .i64)) := (T_rename_Right_1 p a a_2 a_3).eval
/- cotterel/rename.writes -/
noncomputable def T_rename_writes (u : TUop) : Tree (Bool) :=
 .ite (W.ge u.Dst (W.of .i64 1)) (.ret (W.lt u.Dst (W.of .i64 16)))
 (.ret false)
noncomputable def F_rename_writes (u : TUop) : Option (Bool) := (T_rename_writes u).eval
/- cotterel/rat.is -/
noncomputable def T_rat_is (r : W .i64) : Tree (Bool) :=
 .ite (W.gt r (W.of .i64 0)) (.ret (W.lt r (W.of .i64 16)))
 (.ret false)
noncomputable def F_rat_is (r : W .i64) : Option (Bool) := (T_rat_is r).eval
/- cotterel/rat.Get -/
noncomputable def T_rat_Get (m : Arr 16 (W .i64)) (r : W .i64) : Tree (W .i64) :=
 .opt (F_rat_is r) fun r1 =>
 .ite (!r1) (.ret (W.of .i64 (-1)))
 (.opt (idx? 16 r) fun j2 =>
 .ret (Arr.get m j2))
noncomputable def F_rat_Get (m : Arr 16 (W .i64)) (r : W .i64) : Option (W .i64) := (T_rat_Get m r).eval
/- cotterel/rat.Set -/
noncomputable def T_rat_Set (m : Arr 16 (W .i64)) (r p : W .i64) : Tree (Arr 16 (W .i64)) :=
 .opt (F_rat_is r) fun r1 =>
 .ite r1 (.opt (idx? 16 r) fun j2 =>
 .ret (Arr.set m j2 p))
 (.ret m)
noncomputable def F_rat_Set (m : Arr 16 (W .i64)) (r p : W .i64) : Option (Arr 16 (W .i64)) := (T_rat_Set m r p).eval
/- cotterel/rename.steps -/
noncomputable def B_rename_steps_7 (s : TNames) (m : Arr 16 (W .i64)) (last : W .u64) (t_11 : Sl 216 (TRen)) (t_12 t_13 : W .i64) : Tree (Rnd (TNames × Arr 16 (W .i64) × W .u64 × Sl 216 (TRen) × W .i64 × W .i64 × Unit) ((TNames × Bool × Arr 16 (W .i64) × Unit) ⊕ (TNames × Unit × Arr 16 (W .i64) × Unit))) :=
 .ite (W.lt t_13 t_12) (.opt (Sl.get? t_11 t_13) fun y1 =>
 .ite (W.le y1.Seq last) (.ret (.out (.inl (s, false, m, ()))))
 (.ite (W.ge y1.Seq s.Seq) (.ret (.out (.inl (s, false, m, ()))))
 (.opt (F_rename_writes y1.Uop) fun r2 =>
 .ite (!r2) (.ite (W.ne y1.Out (W.of .i64 (-1))) (.ret (.out (.inl (s, false, m, ()))))
 (.ite (W.ne y1.Old (W.of .i64 (-1))) (.ret (.out (.inl (s, false, m, ()))))
 (.ret (.next (s, m, y1.Seq, t_11, t_12, (W.add t_13 (W.of .i64 1)), ())))))
 (.ite (W.eq y1.Out (W.of .i64 (-1))) (.ret (.out (.inl (s, false, m, ()))))
 (.opt (F_rat_Get m y1.Uop.Dst) fun r3 =>
 .ite (W.ne y1.Old r3) (.ret (.out (.inl (s, false, m, ()))))
 (.opt (F_rat_Set m y1.Uop.Dst y1.Out) fun r4 =>
 .ret (.next (s, r4, y1.Seq, t_11, t_12, (W.add t_13 (W.of .i64 1)), ()))))))))
 (.ret (.out (.inr (s, (), m, ()))))
noncomputable def L_rename_steps_7 (a : TNames × Arr 16 (W .i64) × W .u64 × Sl 216 (TRen) × W .i64 × W .i64 × Unit) : Option ((TNames × Bool × Arr 16 (W .i64) × Unit) ⊕ (TNames × Unit × Arr 16 (W .i64) × Unit)) := iter (fun a : TNames × Arr 16 (W .i64) × W .u64 × Sl 216 (TRen) × W .i64 × W .i64 × Unit => (B_rename_steps_7 a.1 a.2.1 a.2.2.1 a.2.2.2.1 a.2.2.2.2.1 a.2.2.2.2.2.1).eval) fuel a
noncomputable def T_rename_steps (s : TNames) (flying : Sl 216 (TRen)) : Tree (Bool) :=
 .opt (L_rename_steps_7 ((s, s.Done, (W.of .u64 0), flying, (Sl.len flying), (W.of .i64 0), ()))) fun o5 =>
 .sum o5 (fun p6 =>
 .ret p6.2.1)
 (fun o7 =>
 .ret (Tab.eq tab (.arr 16 (.int .i64)) o7.2.2.1 o7.1.Map))
noncomputable def F_rename_steps (s : TNames) (flying : Sl 216 (TRen)) : Option (Bool) := (T_rename_steps s flying).eval
/- cotterel/rename.Right$2 -/
noncomputable def B_rename_Right_2_3 (t_0 : Sl 216 (TRen)) (t_2 : W .i64) (t_3 : Bool) (t_4 : Arr 96 (W .i64)) (t_5 : Bool) (i : W .i64) : Tree (Rnd (Sl 216 (TRen) × ((Unit) × (Unit × Unit × Unit × Unit)) × W .i64 × Bool × Arr 96 (W .i64) × Bool × W .i64 × Unit) (Sl 216 (TRen) × W .i64 × Bool × Arr 96 (W .i64) × Bool × Unit)) :=
 .ite (W.ge i (W.of .i64 0)) (.opt (Sl.get? t_0 i) fun y1 =>
 .ite (W.ne y1.Out (W.of .i64 (-1))) (.opt (Sl.get? t_0 i) fun y2 =>
 .opt (F_rename_Right_1 y2.Out t_2 t_5 t_4) fun r3 =>
 .ret (.next (t_0, ((), ((), (), (), ())), r3.1, t_3, r3.2.2, r3.2.1, (W.sub i (W.of .i64 1)), ())))
 (.ret (.next (t_0, ((), ((), (), (), ())), t_2, t_3, t_4, t_5, (W.sub i (W.of .i64 1)), ()))))
 (.ret (.out (t_0, t_2, t_3, t_4, t_5, ())))
noncomputable def L_rename_Right_2_3 (a : Sl 216 (TRen) × ((Unit) × (Unit × Unit × Unit × Unit)) × W .i64 × Bool × Arr 96 (W .i64) × Bool × W .i64 × Unit) : Option (Sl 216 (TRen) × W .i64 × Bool × Arr 96 (W .i64) × Bool × Unit) := iter (fun a : Sl 216 (TRen) × ((Unit) × (Unit × Unit × Unit × Unit)) × W .i64 × Bool × Arr 96 (W .i64) × Bool × W .i64 × Unit => (B_rename_Right_2_3 a.1 a.2.2.1 a.2.2.2.1 a.2.2.2.2.1 a.2.2.2.2.2.1 a.2.2.2.2.2.2.1).eval) fuel a
noncomputable def B_rename_Right_2_18 (t_0 : Sl 216 (TRen)) (t_2 : W .i64) (t_3 : Bool) (t_4 : Arr 96 (W .i64)) (t_5 : Bool) (p : W .i64) : Tree (Rnd (Sl 216 (TRen) × W .i64 × Bool × Arr 96 (W .i64) × Bool × W .i64 × Unit) (Sl 216 (TRen) × W .i64 × Bool × Arr 96 (W .i64) × Bool × Unit)) :=
 .ite (W.lt p t_2) (.ite t_3 (.opt (idx? 96 p) fun j5 =>
 .ret (.next (t_0, t_2, (W.eq (Arr.get t_4 j5) (W.of .i64 1)), t_4, t_5, (W.add p (W.of .i64 1)), ())))
 (.ret (.next (t_0, t_2, false, t_4, t_5, (W.add p (W.of .i64 1)), ()))))
 (.ret (.out (t_0, t_2, t_3, t_4, t_5, ())))
noncomputable def L_rename_Right_2_18 (a : Sl 216 (TRen) × W .i64 × Bool × Arr 96 (W .i64) × Bool × W .i64 × Unit) : Option (Sl 216 (TRen) × W .i64 × Bool × Arr 96 (W .i64) × Bool × Unit) := iter (fun a : Sl 216 (TRen) × W .i64 × Bool × Arr 96 (W .i64) × Bool × W .i64 × Unit => (B_rename_Right_2_18 a.1 a.2.1 a.2.2.1 a.2.2.2.1 a.2.2.2.2.1 a.2.2.2.2.2.1).eval) fuel a
noncomputable def T_rename_Right_2 (a : Sl 216 (TRen)) (a_2 : W .i64) (a_3 : Bool) (a_4 : Arr 96 (W .i64)) (a_5 : Bool) : Tree (Sl 216 (TRen) × W .i64 × Bool × Arr 96 (W .i64) × Bool) :=
 .opt (L_rename_Right_2_3 ((a, ((), ((), (), (), ())), a_2, a_3, a_4, a_5, (W.sub (Sl.len a) (W.of .i64 1)), ()))) fun o4 =>
 .opt (L_rename_Right_2_18 ((o4.1, o4.2.1, o4.2.2.1, o4.2.2.2.1, o4.2.2.2.2.1, (W.of .i64 1), ()))) fun o6 =>
 .ite o6.2.2.1 (.ret (o6.1, o6.2.1, (!o6.2.2.2.2.1), o6.2.2.2.1, o6.2.2.2.2.1))
 (.ret (o6.1, o6.2.1, false, o6.2.2.2.1, o6.2.2.2.2.1))
noncomputable def F_rename_Right_2 (a : Sl 216 (TRen)) (a_2 : W .i64) (a_3 : Bool) (a_4 : Arr 96 (W .i64)) (a_5 : Bool) : Option (Sl 216 (TRen) × W .i64 × Bool × Arr 96 (W .i64) × Bool) := (T_rename_Right_2 a a_2 a_3 a_4 a_5).eval
/- cotterel/rename.Right -/
noncomputable def B_rename_Right_19 (s : TNames) (n_4 : W .i64) (flying : Sl 216 (TRen)) (ok : Bool) (times : Arr 96 (W .i64)) (strange : Bool) (t_44 : Sl 8 (W .i64)) (t_45 t_46 : W .i64) : Tree (Rnd (TNames × W .i64 × Sl 216 (TRen) × Bool × Arr 96 (W .i64) × Bool × ((Unit) × (Unit × Unit × Unit × Unit)) × ((Unit) × (Unit × ((Unit) × (Unit × Unit × Unit × Unit)) × Unit × Unit × Unit × Unit × Unit)) × Sl 8 (W .i64) × W .i64 × W .i64 × Unit) (TNames × W .i64 × Sl 216 (TRen) × Bool × Arr 96 (W .i64) × Bool × ((Unit) × (Unit × Unit × Unit × Unit)) × ((Unit) × (Unit × ((Unit) × (Unit × Unit × Unit × Unit)) × Unit × Unit × Unit × Unit × Unit)) × Unit)) :=
 .ite (W.lt t_46 t_45) (.opt (Sl.get? t_44 t_46) fun y5 =>
 .opt (F_rename_Right_1 y5 n_4 strange times) fun r6 =>
 .ret (.next (s, r6.1, flying, ok, r6.2.2, r6.2.1, ((), ((), (), (), ())), ((), ((), ((), ((), (), (), ())), (), (), (), (), ())), t_44, t_45, (W.add t_46 (W.of .i64 1)), ())))
 (.ret (.out (s, n_4, flying, ok, times, strange, ((), ((), (), (), ())), ((), ((), ((), ((), (), (), ())), (), (), (), (), ())), ())))
noncomputable def L_rename_Right_19 (a : TNames × W .i64 × Sl 216 (TRen) × Bool × Arr 96 (W .i64) × Bool × ((Unit) × (Unit × Unit × Unit × Unit)) × ((Unit) × (Unit × ((Unit) × (Unit × Unit × Unit × Unit)) × Unit × Unit × Unit × Unit × Unit)) × Sl 8 (W .i64) × W .i64 × W .i64 × Unit) : Option (TNames × W .i64 × Sl 216 (TRen) × Bool × Arr 96 (W .i64) × Bool × ((Unit) × (Unit × Unit × Unit × Unit)) × ((Unit) × (Unit × ((Unit) × (Unit × Unit × Unit × Unit)) × Unit × Unit × Unit × Unit × Unit)) × Unit) := iter (fun a : TNames × W .i64 × Sl 216 (TRen) × Bool × Arr 96 (W .i64) × Bool × ((Unit) × (Unit × Unit × Unit × Unit)) × ((Unit) × (Unit × ((Unit) × (Unit × Unit × Unit × Unit)) × Unit × Unit × Unit × Unit × Unit)) × Sl 8 (W .i64) × W .i64 × W .i64 × Unit => (B_rename_Right_19 a.1 a.2.1 a.2.2.1 a.2.2.2.1 a.2.2.2.2.1 a.2.2.2.2.2.1 a.2.2.2.2.2.2.2.2.1 a.2.2.2.2.2.2.2.2.2.1 a.2.2.2.2.2.2.2.2.2.2.1).eval) fuel a
noncomputable def B_rename_Right_34 (s : TNames) (n_4 : W .i64) (flying : Sl 216 (TRen)) (ok : Bool) (times : Arr 96 (W .i64)) (strange : Bool) (r : W .i64) : Tree (Rnd (TNames × W .i64 × Sl 216 (TRen) × Bool × Arr 96 (W .i64) × Bool × ((Unit) × (Unit × Unit × Unit × Unit)) × W .i64 × ((Unit) × (Unit × ((Unit) × (Unit × Unit × Unit × Unit)) × Unit × Unit × Unit × Unit × Unit)) × Unit) (TNames × W .i64 × Sl 216 (TRen) × Bool × Arr 96 (W .i64) × Bool × ((Unit) × (Unit × ((Unit) × (Unit × Unit × Unit × Unit)) × Unit × Unit × Unit × Unit × Unit)) × Unit)) :=
 .ite (W.lt r (W.of .i64 16)) (.opt (idx? 16 r) fun j8 =>
 .opt (F_rename_Right_1 (Arr.get s.Done j8) n_4 strange times) fun r9 =>
 .ret (.next (s, r9.1, flying, ok, r9.2.2, r9.2.1, ((), ((), (), (), ())), (W.add r (W.of .i64 1)), ((), ((), ((), ((), (), (), ())), (), (), (), (), ())), ())))
 (.ret (.out (s, n_4, flying, ok, times, strange, ((), ((), ((), ((), (), (), ())), (), (), (), (), ())), ())))
noncomputable def L_rename_Right_34 (a : TNames × W .i64 × Sl 216 (TRen) × Bool × Arr 96 (W .i64) × Bool × ((Unit) × (Unit × Unit × Unit × Unit)) × W .i64 × ((Unit) × (Unit × ((Unit) × (Unit × Unit × Unit × Unit)) × Unit × Unit × Unit × Unit × Unit)) × Unit) : Option (TNames × W .i64 × Sl 216 (TRen) × Bool × Arr 96 (W .i64) × Bool × ((Unit) × (Unit × ((Unit) × (Unit × Unit × Unit × Unit)) × Unit × Unit × Unit × Unit × Unit)) × Unit) := iter (fun a : TNames × W .i64 × Sl 216 (TRen) × Bool × Arr 96 (W .i64) × Bool × ((Unit) × (Unit × Unit × Unit × Unit)) × W .i64 × ((Unit) × (Unit × ((Unit) × (Unit × Unit × Unit × Unit)) × Unit × Unit × Unit × Unit × Unit)) × Unit => (B_rename_Right_34 a.1 a.2.1 a.2.2.1 a.2.2.2.1 a.2.2.2.2.1 a.2.2.2.2.2.1 a.2.2.2.2.2.2.2.1).eval) fuel a
noncomputable def T_rename_Right (s : TNames) (n_1 : W .i64) (flying : Sl 216 (TRen)) : Tree (Bool) :=
 .ite (W.le n_1 (W.of .i64 16)) (.ret false)
 (.ite (W.gt n_1 (W.of .i64 96)) (.ret false)
 (.opt (F_rat_Right s.Map n_1) fun r1 =>
 .ite (!r1) (.ret false)
 (.opt (F_rat_Right s.Done n_1) fun r2 =>
 .ite (!r2) (.ret false)
 (.opt (F_freel_Right s.Free n_1) fun r3 =>
 .ite (!r3) (.ret false)
 (.opt (F_freel_List s.Free) fun r4 =>
 .opt (L_rename_Right_19 ((s, n_1, flying, false, (Arr.rep 96 (W.of .i64 0) : Arr 96 (W .i64)), false, ((), ((), (), (), ())), ((), ((), ((), ((), (), (), ())), (), (), (), (), ())), r4, (Sl.len r4), (W.of .i64 0), ()))) fun o7 =>
 .opt (L_rename_Right_34 ((o7.1, o7.2.1, o7.2.2.1, o7.2.2.2.1, o7.2.2.2.2.1, o7.2.2.2.2.2.1, ((), ((), (), (), ())), (W.of .i64 1), ((), ((), ((), ((), (), (), ())), (), (), (), (), ())), ()))) fun o10 =>
 .opt (F_rename_steps o10.1 o10.2.2.1) fun r11 =>
 .opt (F_rename_Right_2 o10.2.2.1 o10.2.1 r11 o10.2.2.2.2.1 o10.2.2.2.2.2.1) fun r12 =>
 .ret r12.2.2.1)))))
noncomputable def F_rename_Right (s : TNames) (n_1 : W .i64) (flying : Sl 216 (TRen)) : Option (Bool) := (T_rename_Right s n_1 flying).eval
/- cotterel/core.waits$1 -/
noncomputable def T_core_waits_1 (e : TRob) (a : TRen) : Tree (Bool) :=
 .ite (Tab.eq tab (.named .TRen) e.Ren a) (.ret (!e.Done))
 (.ret false)
noncomputable def F_core_waits_1 (e : TRob) (a : TRen) : Option (Bool) := (T_core_waits_1 e a).eval
/- slices.IndexFunc[[]cotterel/api.Rob,cotterel/api.Rob] -/
noncomputable def B_slices_IndexFunc_Rob_5 (s : Sl 248 (TRob)) (fc0 : TRen) (t_7 t_8 : W .i64) : Tree (Rnd (Sl 248 (TRob) × ((Unit) × (TRen × Unit)) × W .i64 × W .i64 × Unit) ((W .i64 × Unit) ⊕ (Unit × Unit))) :=
 .ite (W.lt t_8 t_7) (.opt (Sl.get? s t_8) fun y1 =>
 .opt (F_core_waits_1 y1 fc0) fun r2 =>
 .ite r2 (.ret (.out (.inl (t_8, ()))))
 (.ret (.next (s, ((), (fc0, ())), t_7, (W.add t_8 (W.of .i64 1)), ()))))
 (.ret (.out (.inr ((), ()))))
noncomputable def L_slices_IndexFunc_Rob_5 (a : Sl 248 (TRob) × ((Unit) × (TRen × Unit)) × W .i64 × W .i64 × Unit) : Option ((W .i64 × Unit) ⊕ (Unit × Unit)) := iter (fun a : Sl 248 (TRob) × ((Unit) × (TRen × Unit)) × W .i64 × W .i64 × Unit => (B_slices_IndexFunc_Rob_5 a.1 a.2.1.2.1 a.2.2.1 a.2.2.2.1).eval) fuel a
noncomputable def T_slices_IndexFunc_Rob (s : Sl 248 (TRob)) (fc0 : TRen) : Tree (W .i64) :=
 .opt (L_slices_IndexFunc_Rob_5 ((s, ((), (fc0, ())), (Sl.len s), (W.of .i64 0), ()))) fun o3 =>
 .sum o3 (fun p4 =>
 .ret p4.1)
 (fun o5 =>
 .ret (W.of .i64 (-1)))
noncomputable def F_slices_IndexFunc_Rob (s : Sl 248 (TRob)) (fc0 : TRen) : Option (W .i64) := (T_slices_IndexFunc_Rob s fc0).eval
/- slices.ContainsFunc[[]cotterel/api.Rob,cotterel/api.Rob] -/
noncomputable def T_slices_ContainsFunc_Rob (s : Sl 248 (TRob)) (fc0 : TRen) : Tree (Bool) :=
 .opt (F_slices_IndexFunc_Rob s fc0) fun r1 =>
 .ret (W.ge r1 (W.of .i64 0))
noncomputable def F_slices_ContainsFunc_Rob (s : Sl 248 (TRob)) (fc0 : TRen) : Option (Bool) := (T_slices_ContainsFunc_Rob s fc0).eval
/- cotterel/core.waits -/
noncomputable def T_core_waits (c : TCore) (r : TRen) : Tree (Bool) :=
 .opt (F_slices_ContainsFunc_Rob c.Rob r) fun r1 =>
 .ret r1
noncomputable def F_core_waits (c : TCore) (r : TRen) : Option (Bool) := (T_core_waits c r).eval
/- cotterel/core.flying -/
noncomputable def B_core_flying_7 (c : TCore) (seen : List (W .u64 × W .i64)) (t_9 : Sl 216 (TRen)) (t_10 t_11 : W .i64) : Tree (Rnd (TCore × (List (W .u64 × W .i64)) × Sl 216 (TRen) × W .i64 × W .i64 × Unit) ((Bool × Unit) ⊕ (Unit × Unit))) :=
 .ite (W.lt t_11 t_10) (.opt (Sl.get? t_9 t_11) fun y1 =>
 .ite (W.gt (Option.getD (mGet (Tab.eq tab (.int .u64)) (mPut (Tab.eq tab (.int .u64)) seen y1.Seq (W.add (Option.getD (mGet (Tab.eq tab (.int .u64)) seen y1.Seq) (W.of .i64 0)) (W.of .i64 1))) y1.Seq) (W.of .i64 0)) (W.of .i64 1)) (.ret (.out (.inl (false, ()))))
 (.opt (F_core_waits c y1) fun r2 =>
 .ite (!r2) (.ret (.out (.inl (false, ()))))
 (.ret (.next (c, (mPut (Tab.eq tab (.int .u64)) seen y1.Seq (W.add (Option.getD (mGet (Tab.eq tab (.int .u64)) seen y1.Seq) (W.of .i64 0)) (W.of .i64 1))), t_9, t_10, (W.add t_11 (W.of .i64 1)), ())))))
 (.ret (.out (.inr ((), ()))))
noncomputable def L_core_flying_7 (a : TCore × (List (W .u64 × W .i64)) × Sl 216 (TRen) × W .i64 × W .i64 × Unit) : Option ((Bool × Unit) ⊕ (Unit × Unit)) := iter (fun a : TCore × (List (W .u64 × W .i64)) × Sl 216 (TRen) × W .i64 × W .i64 × Unit => (B_core_flying_7 a.1 a.2.1 a.2.2.1 a.2.2.2.1 a.2.2.2.2.1).eval) fuel a
noncomputable def T_core_flying (c : TCore) (l_1 : Sl 216 (TRen)) : Tree (Bool) :=
 .opt (L_core_flying_7 ((c, ([] : List (W .u64 × W .i64)), l_1, (Sl.len l_1), (W.of .i64 0), ()))) fun o3 =>
 .sum o3 (fun p4 =>
 .ret p4.1)
 (fun o5 =>
 .ret true)
noncomputable def F_core_flying (c : TCore) (l_1 : Sl 216 (TRen)) : Option (Bool) := (T_core_flying c l_1).eval
/- cotterel/core.apart$1$1 -/
noncomputable def T_core_apart_1_1 (s a : TRen) : Tree (Bool) :=
 .ret (W.eq a.Seq s.Seq)
noncomputable def F_core_apart_1_1 (s a : TRen) : Option (Bool) := (T_core_apart_1_1 s a).eval
/- slices.IndexFunc[[]cotterel/api.Ren,cotterel/api.Ren] -/
noncomputable def B_slices_IndexFunc_Ren_v1_5 (s : Sl 216 (TRen)) (fc0 : TRen) (t_7 t_8 : W .i64) : Tree (Rnd (Sl 216 (TRen) × ((Unit) × (TRen × Unit)) × W .i64 × W .i64 × Unit) ((W .i64 × Unit) ⊕ (Unit × Unit))) :=
 .ite (W.lt t_8 t_7) (.opt (Sl.get? s t_8) fun y1 =>
 .opt (F_core_apart_1_1 y1 fc0) fun r2 =>
 .ite r2 (.ret (.out (.inl (t_8, ()))))
 (.ret (.next (s, ((), (fc0, ())), t_7, (W.add t_8 (W.of .i64 1)), ()))))
 (.ret (.out (.inr ((), ()))))
noncomputable def L_slices_IndexFunc_Ren_v1_5 (a : Sl 216 (TRen) × ((Unit) × (TRen × Unit)) × W .i64 × W .i64 × Unit) : Option ((W .i64 × Unit) ⊕ (Unit × Unit)) := iter (fun a : Sl 216 (TRen) × ((Unit) × (TRen × Unit)) × W .i64 × W .i64 × Unit => (B_slices_IndexFunc_Ren_v1_5 a.1 a.2.1.2.1 a.2.2.1 a.2.2.2.1).eval) fuel a
noncomputable def T_slices_IndexFunc_Ren_v1 (s : Sl 216 (TRen)) (fc0 : TRen) : Tree (W .i64) :=
 .opt (L_slices_IndexFunc_Ren_v1_5 ((s, ((), (fc0, ())), (Sl.len s), (W.of .i64 0), ()))) fun o3 =>
 .sum o3 (fun p4 =>
 .ret p4.1)
 (fun o5 =>
 .ret (W.of .i64 (-1)))
noncomputable def F_slices_IndexFunc_Ren_v1 (s : Sl 216 (TRen)) (fc0 : TRen) : Option (W .i64) := (T_slices_IndexFunc_Ren_v1 s fc0).eval
/- slices.ContainsFunc[[]cotterel/api.Ren,cotterel/api.Ren] -/
noncomputable def T_slices_ContainsFunc_Ren_v1 (s : Sl 216 (TRen)) (fc0 : TRen) : Tree (Bool) :=
 .opt (F_slices_IndexFunc_Ren_v1 s fc0) fun r1 =>
 .ret (W.ge r1 (W.of .i64 0))
noncomputable def F_slices_ContainsFunc_Ren_v1 (s : Sl 216 (TRen)) (fc0 : TRen) : Option (Bool) := (T_slices_ContainsFunc_Ren_v1 s fc0).eval
/- cotterel/core.apart$1 -/
noncomputable def T_core_apart_1 (r : TRen) (a : Sl 216 (TRen)) : Tree (Bool) :=
 .opt (F_slices_ContainsFunc_Ren_v1 a r) fun r1 =>
 .ret r1
noncomputable def F_core_apart_1 (r : TRen) (a : Sl 216 (TRen)) : Option (Bool) := (T_core_apart_1 r a).eval
/- slices.IndexFunc[[]cotterel/api.Ren,cotterel/api.Ren] -/
noncomputable def B_slices_IndexFunc_Ren_5 (s fc0 : Sl 216 (TRen)) (t_7 t_8 : W .i64) : Tree (Rnd (Sl 216 (TRen) × ((Unit) × (Sl 216 (TRen) × Unit)) × W .i64 × W .i64 × Unit) ((W .i64 × Unit) ⊕ (Unit × Unit))) :=
 .ite (W.lt t_8 t_7) (.opt (Sl.get? s t_8) fun y1 =>
 .opt (F_core_apart_1 y1 fc0) fun r2 =>
 .ite r2 (.ret (.out (.inl (t_8, ()))))
 (.ret (.next (s, ((), (fc0, ())), t_7, (W.add t_8 (W.of .i64 1)), ()))))
 (.ret (.out (.inr ((), ()))))
noncomputable def L_slices_IndexFunc_Ren_5 (a : Sl 216 (TRen) × ((Unit) × (Sl 216 (TRen) × Unit)) × W .i64 × W .i64 × Unit) : Option ((W .i64 × Unit) ⊕ (Unit × Unit)) := iter (fun a : Sl 216 (TRen) × ((Unit) × (Sl 216 (TRen) × Unit)) × W .i64 × W .i64 × Unit => (B_slices_IndexFunc_Ren_5 a.1 a.2.1.2.1 a.2.2.1 a.2.2.2.1).eval) fuel a
noncomputable def T_slices_IndexFunc_Ren (s fc0 : Sl 216 (TRen)) : Tree (W .i64) :=
 .opt (L_slices_IndexFunc_Ren_5 ((s, ((), (fc0, ())), (Sl.len s), (W.of .i64 0), ()))) fun o3 =>
 .sum o3 (fun p4 =>
 .ret p4.1)
 (fun o5 =>
 .ret (W.of .i64 (-1)))
noncomputable def F_slices_IndexFunc_Ren (s fc0 : Sl 216 (TRen)) : Option (W .i64) := (T_slices_IndexFunc_Ren s fc0).eval
/- slices.ContainsFunc[[]cotterel/api.Ren,cotterel/api.Ren] -/
noncomputable def T_slices_ContainsFunc_Ren (s fc0 : Sl 216 (TRen)) : Tree (Bool) :=
 .opt (F_slices_IndexFunc_Ren s fc0) fun r1 =>
 .ret (W.ge r1 (W.of .i64 0))
noncomputable def F_slices_ContainsFunc_Ren (s fc0 : Sl 216 (TRen)) : Option (Bool) := (T_slices_ContainsFunc_Ren s fc0).eval
/- cotterel/core.apart -/
noncomputable def T_core_apart (a b : Sl 216 (TRen)) : Tree (Bool) :=
 .opt (F_slices_ContainsFunc_Ren a b) fun r1 =>
 .ret (!r1)
noncomputable def F_core_apart (a b : Sl 216 (TRen)) : Option (Bool) := (T_core_apart a b).eval
/- cotterel/core.seqs -/
noncomputable def B_core_seqs_7 (unit : W .i64) (l_5 : Sl 8 (W .u64)) (t_9 : Sl 248 (TRob)) (t_10 t_11 : W .i64) : Tree (Rnd (W .i64 × Sl 8 (W .u64) × Sl 248 (TRob) × W .i64 × W .i64 × Unit) (Sl 8 (W .u64) × Unit)) :=
 .ite (W.lt t_11 t_10) (.opt (Sl.get? t_9 t_11) fun y1 =>
 .ite (W.eq y1.Ren.Uop.Unit unit) (.opt (Sl.app? l_5 (Sl.lit 8 [y1.Ren.Seq] rfl : Sl 8 (W .u64))) fun l2 =>
 .ret (.next (unit, l2, t_9, t_10, (W.add t_11 (W.of .i64 1)), ())))
 (.ret (.next (unit, l_5, t_9, t_10, (W.add t_11 (W.of .i64 1)), ()))))
 (.ret (.out (l_5, ())))
noncomputable def L_core_seqs_7 (a : W .i64 × Sl 8 (W .u64) × Sl 248 (TRob) × W .i64 × W .i64 × Unit) : Option (Sl 8 (W .u64) × Unit) := iter (fun a : W .i64 × Sl 8 (W .u64) × Sl 248 (TRob) × W .i64 × W .i64 × Unit => (B_core_seqs_7 a.1 a.2.1 a.2.2.1 a.2.2.2.1 a.2.2.2.2.1).eval) fuel a
noncomputable def T_core_seqs (c : TCore) (unit : W .i64) : Tree (Sl 8 (W .u64)) :=
 .opt (L_core_seqs_7 ((unit, (Sl.nil : Sl 8 (W .u64)), c.Rob, (Sl.len c.Rob), (W.of .i64 0), ()))) fun o3 =>
 .ret o3.1
noncomputable def F_core_seqs (c : TCore) (unit : W .i64) : Option (Sl 8 (W .u64)) := (T_core_seqs c unit).eval
/- cotterel/core.memory$1 -/
noncomputable def T_core_memory_1 (e : TLq) (n_1 : W .u64) : Tree (Bool) :=
 .ret (W.eq e.Seq n_1)
noncomputable def F_core_memory_1 (e : TLq) (n_1 : W .u64) : Option (Bool) := (T_core_memory_1 e n_1).eval
/- slices.EqualFunc[[]cotterel/api.Lq,[]uint64,cotterel/api.Lq,uint64] -/
noncomputable def B_slices_EqualFunc_uint64_11 (s2 : Sl 8 (W .u64)) (t_15 : Sl 48 (TLq)) (t_16 t_17 : W .i64) : Tree (Rnd (Sl 8 (W .u64) × ((Unit) × (Unit)) × Sl 48 (TLq) × W .i64 × W .i64 × Unit) ((Bool × Unit) ⊕ (Unit × Unit))) :=
 .ite (W.lt t_17 t_16) (.opt (Sl.get? t_15 t_17) fun y1 =>
 .opt (Sl.get? s2 t_17) fun y2 =>
 .opt (F_core_memory_1 y1 y2) fun r3 =>
 .ite (!r3) (.ret (.out (.inl (false, ()))))
 (.ret (.next (s2, ((), ()), t_15, t_16, (W.add t_17 (W.of .i64 1)), ()))))
 (.ret (.out (.inr ((), ()))))
noncomputable def L_slices_EqualFunc_uint64_11 (a : Sl 8 (W .u64) × ((Unit) × (Unit)) × Sl 48 (TLq) × W .i64 × W .i64 × Unit) : Option ((Bool × Unit) ⊕ (Unit × Unit)) := iter (fun a : Sl 8 (W .u64) × ((Unit) × (Unit)) × Sl 48 (TLq) × W .i64 × W .i64 × Unit => (B_slices_EqualFunc_uint64_11 a.1 a.2.2.1 a.2.2.2.1 a.2.2.2.2.1).eval) fuel a
noncomputable def T_slices_EqualFunc_uint64 (s1 : Sl 48 (TLq)) (s2 : Sl 8 (W .u64)) : Tree (Bool) :=
 .ite (W.ne (Sl.len s1) (Sl.len s2)) (.ret false)
 (.opt (L_slices_EqualFunc_uint64_11 ((s2, ((), ()), s1, (Sl.len s1), (W.of .i64 0), ()))) fun o4 =>
 .sum o4 (fun p5 =>
 .ret p5.1)
 (fun o6 =>
 .ret true))
noncomputable def F_slices_EqualFunc_uint64 (s1 : Sl 48 (TLq)) (s2 : Sl 8 (W .u64)) : Option (Bool) := (T_slices_EqualFunc_uint64 s1 s2).eval
/- cotterel/core.memory$2 -/
noncomputable def T_core_memory_2 (e : TSq) (n_1 : W .u64) : Tree (Bool) :=
 .ret (W.eq e.Seq n_1)
noncomputable def F_core_memory_2 (e : TSq) (n_1 : W .u64) : Option (Bool) := (T_core_memory_2 e n_1).eval
/- slices.EqualFunc[[]cotterel/api.Sq,[]uint64,cotterel/api.Sq,uint64] -/
noncomputable def B_slices_EqualFunc_uint64_70_11 (s2 : Sl 8 (W .u64)) (t_15 : Sl 32 (TSq)) (t_16 t_17 : W .i64) : Tree (Rnd (Sl 8 (W .u64) × ((Unit) × (Unit)) × Sl 32 (TSq) × W .i64 × W .i64 × Unit) ((Bool × Unit) ⊕ (Unit × Unit))) :=
 .ite (W.lt t_17 t_16) (.opt (Sl.get? t_15 t_17) fun y1 =>
 .opt (Sl.get? s2 t_17) fun y2 =>
 .opt (F_core_memory_2 y1 y2) fun r3 =>
 .ite (!r3) (.ret (.out (.inl (false, ()))))
 (.ret (.next (s2, ((), ()), t_15, t_16, (W.add t_17 (W.of .i64 1)), ()))))
 (.ret (.out (.inr ((), ()))))
noncomputable def L_slices_EqualFunc_uint64_70_11 (a : Sl 8 (W .u64) × ((Unit) × (Unit)) × Sl 32 (TSq) × W .i64 × W .i64 × Unit) : Option ((Bool × Unit) ⊕ (Unit × Unit)) := iter (fun a : Sl 8 (W .u64) × ((Unit) × (Unit)) × Sl 32 (TSq) × W .i64 × W .i64 × Unit => (B_slices_EqualFunc_uint64_70_11 a.1 a.2.2.1 a.2.2.2.1 a.2.2.2.2.1).eval) fuel a
noncomputable def T_slices_EqualFunc_uint64_70 (s1 : Sl 32 (TSq)) (s2 : Sl 8 (W .u64)) : Tree (Bool) :=
 .ite (W.ne (Sl.len s1) (Sl.len s2)) (.ret false)
 (.opt (L_slices_EqualFunc_uint64_70_11 ((s2, ((), ()), s1, (Sl.len s1), (W.of .i64 0), ()))) fun o4 =>
 .sum o4 (fun p5 =>
 .ret p5.1)
 (fun o6 =>
 .ret true))
noncomputable def F_slices_EqualFunc_uint64_70 (s1 : Sl 32 (TSq)) (s2 : Sl 8 (W .u64)) : Option (Bool) := (T_slices_EqualFunc_uint64_70 s1 s2).eval
/- cotterel/core.memory -/
noncomputable def T_core_memory (c : TCore) : Tree (Bool) :=
 .opt (F_core_seqs c (W.of .i64 5)) fun r1 =>
 .opt (F_slices_EqualFunc_uint64 c.Lq r1) fun r2 =>
 .ite r2 (.opt (F_core_seqs c (W.of .i64 6)) fun r3 =>
 .opt (F_slices_EqualFunc_uint64_70 c.Sq r3) fun r4 =>
 .ret r4)
 (.ret false)
noncomputable def F_core_memory (c : TCore) : Option (Bool) := (T_core_memory c).eval
/- cotterel/prf.Get -/
noncomputable def T_prf_Get (f : TPhys) (p : W .i64) : Tree (W .u32 × Bool) :=
 .opt (F_prf_has f p) fun r1 =>
 .ite (!r1) (.ret ((W.of .u32 0), true))
 (.opt (Sl.get? f.Ready p) fun y2 =>
 .ite (!y2) (.ret ((W.of .u32 0), false))
 (.opt (Sl.get? f.Val p) fun y3 =>
 .ret (y3, true)))
noncomputable def F_prf_Get (f : TPhys) (p : W .i64) : Option (W .u32 × Bool) := (T_prf_Get f p).eval
/- cotterel/prf.View -/
noncomputable def B_prf_View_7 (f : TPhys) (m : Arr 16 (W .i64)) (t_4 out : Arr 16 (W .u32)) (r : W .i64) : Tree (Rnd (TPhys × Arr 16 (W .i64) × Arr 16 (W .u32) × Arr 16 (W .u32) × W .i64 × Unit) (Arr 16 (W .u32) × Arr 16 (W .u32) × Unit)) :=
 .ite (W.lt r (W.of .i64 16)) (.opt (idx? 16 r) fun j1 =>
 .opt (F_prf_Get f (Arr.get m j1)) fun r2 =>
 .opt (idx? 16 r) fun j3 =>
 .ret (.next (f, m, t_4, (Arr.set out j3 r2.1), (W.add r (W.of .i64 1)), ())))
 (.ret (.out (t_4, out, ())))
noncomputable def L_prf_View_7 (a : TPhys × Arr 16 (W .i64) × Arr 16 (W .u32) × Arr 16 (W .u32) × W .i64 × Unit) : Option (Arr 16 (W .u32) × Arr 16 (W .u32) × Unit) := iter (fun a : TPhys × Arr 16 (W .i64) × Arr 16 (W .u32) × Arr 16 (W .u32) × W .i64 × Unit => (B_prf_View_7 a.1 a.2.1 a.2.2.1 a.2.2.2.1 a.2.2.2.2.1).eval) fuel a
noncomputable def T_prf_View (f : TPhys) (m : Arr 16 (W .i64)) : Tree (Arr 16 (W .u32)) :=
 .opt (L_prf_View_7 ((f, m, (Arr.rep 16 (W.of .u32 0) : Arr 16 (W .u32)), (Arr.rep 16 (W.of .u32 0) : Arr 16 (W .u32)), (W.of .i64 1), ()))) fun o4 =>
 .ret o4.2.1
noncomputable def F_prf_View (f : TPhys) (m : Arr 16 (W .i64)) : Option (Arr 16 (W .u32)) := (T_prf_View f m).eval
/- cotterel/core.valued$1 -/
noncomputable def T_core_valued_1 (e : TRob) (a : TCore) : Tree (Bool) :=
 .opt (F_prf_Get a.Phys e.Ren.Out) fun r1 =>
 .ite e.Done (.ite (W.eq e.Cause (W.of .i64 0)) (.ite (W.ne e.Ren.Out (W.of .i64 (-1))) (.ite (!r1.2) (.ret true)
 (.ret (W.ne r1.1 e.Val)))
 (.ret false))
 (.ret false))
 (.ret false)
noncomputable def F_core_valued_1 (e : TRob) (a : TCore) : Option (Bool) := (T_core_valued_1 e a).eval
/- slices.IndexFunc[[]cotterel/api.Rob,cotterel/api.Rob] -/
noncomputable def B_slices_IndexFunc_Rob_v1_5 (s : Sl 248 (TRob)) (fc0 : TCore) (t_7 t_8 : W .i64) : Tree (Rnd (Sl 248 (TRob) × ((Unit) × (TCore × Unit)) × W .i64 × W .i64 × Unit) ((W .i64 × Unit) ⊕ (Unit × Unit))) :=
 .ite (W.lt t_8 t_7) (.opt (Sl.get? s t_8) fun y1 =>
 .opt (F_core_valued_1 y1 fc0) fun r2 =>
 .ite r2 (.ret (.out (.inl (t_8, ()))))
 (.ret (.next (s, ((), (fc0, ())), t_7, (W.add t_8 (W.of .i64 1)), ()))))
 (.ret (.out (.inr ((), ()))))
noncomputable def L_slices_IndexFunc_Rob_v1_5 (a : Sl 248 (TRob) × ((Unit) × (TCore × Unit)) × W .i64 × W .i64 × Unit) : Option ((W .i64 × Unit) ⊕ (Unit × Unit)) := iter (fun a : Sl 248 (TRob) × ((Unit) × (TCore × Unit)) × W .i64 × W .i64 × Unit => (B_slices_IndexFunc_Rob_v1_5 a.1 a.2.1.2.1 a.2.2.1 a.2.2.2.1).eval) fuel a
noncomputable def T_slices_IndexFunc_Rob_v1 (s : Sl 248 (TRob)) (fc0 : TCore) : Tree (W .i64) :=
 .opt (L_slices_IndexFunc_Rob_v1_5 ((s, ((), (fc0, ())), (Sl.len s), (W.of .i64 0), ()))) fun o3 =>
 .sum o3 (fun p4 =>
 .ret p4.1)
 (fun o5 =>
 .ret (W.of .i64 (-1)))
noncomputable def F_slices_IndexFunc_Rob_v1 (s : Sl 248 (TRob)) (fc0 : TCore) : Option (W .i64) := (T_slices_IndexFunc_Rob_v1 s fc0).eval
/- slices.ContainsFunc[[]cotterel/api.Rob,cotterel/api.Rob] -/
noncomputable def T_slices_ContainsFunc_Rob_v1 (s : Sl 248 (TRob)) (fc0 : TCore) : Tree (Bool) :=
 .opt (F_slices_IndexFunc_Rob_v1 s fc0) fun r1 =>
 .ret (W.ge r1 (W.of .i64 0))
noncomputable def F_slices_ContainsFunc_Rob_v1 (s : Sl 248 (TRob)) (fc0 : TCore) : Option (Bool) := (T_slices_ContainsFunc_Rob_v1 s fc0).eval
/- cotterel/core.valued -/
noncomputable def T_core_valued (c : TCore) : Tree (Bool) :=
 .opt (F_slices_ContainsFunc_Rob_v1 c.Rob c) fun r1 =>
 .ret (!r1)
noncomputable def F_core_valued (c : TCore) : Option (Bool) := (T_core_valued c).eval
/- cotterel/core.Broken -/
noncomputable def B_core_Broken_15 (l_5 : Sl 8 (W .i64)) (t_55 : Sl 1 (Bool)) (t_56 t_57 : W .i64) : Tree (Rnd (Sl 8 (W .i64) × Sl 1 (Bool) × W .i64 × W .i64 × Unit) (Sl 8 (W .i64) × Unit)) :=
 .ite (W.lt t_57 t_56) (.opt (idx? (List.length t_55.l) t_57) fun j13 =>
 .ite (!(List.getD t_55.l j13 false)) (.opt (Sl.app? l_5 (Sl.lit 8 [(W.add t_57 (W.of .i64 2))] rfl : Sl 8 (W .i64))) fun l14 =>
 .ret (.next (l14, t_55, t_56, (W.add t_57 (W.of .i64 1)), ())))
 (.ret (.next (l_5, t_55, t_56, (W.add t_57 (W.of .i64 1)), ()))))
 (.ret (.out (l_5, ())))
noncomputable def L_core_Broken_15 (a : Sl 8 (W .i64) × Sl 1 (Bool) × W .i64 × W .i64 × Unit) : Option (Sl 8 (W .i64) × Unit) := iter (fun a : Sl 8 (W .i64) × Sl 1 (Bool) × W .i64 × W .i64 × Unit => (B_core_Broken_15 a.1 a.2.1 a.2.2.1 a.2.2.2.1).eval) fuel a
noncomputable def T_core_Broken (c : TCore) : Tree (Sl 8 (W .i64)) :=
 .opt (F_core_rooms c) fun r1 =>
 .ite (!r1) (.ret (Sl.lit 8 [(W.of .i64 1)] rfl : Sl 8 (W .i64)))
 (.opt (F_core_queued c) fun r2 =>
 .opt (F_core_ordered c) fun r3 =>
 .opt (F_core_rens c) fun r4 =>
 .opt (F_rename_Right c.Names c.Conf.Phys r4) fun r5 =>
 .opt (F_core_flying c r2.1) fun r6 =>
 .opt (F_core_flying c r2.2) fun r7 =>
 .ite r7 (.opt (F_core_apart r2.1 r2.2) fun r8 =>
 .opt (F_core_memory c) fun r9 =>
 .opt (F_prf_View c.Phys c.Names.Done) fun r10 =>
 .opt (F_core_clean c.A) fun r11 =>
 .opt (F_core_valued c) fun r12 =>
 .opt (L_core_Broken_15 (((Sl.nil : Sl 8 (W .i64)), (Sl.lit 1 [r3, r5, r6, r8, r9, (Tab.eq tab (.arr 16 (.int .u32)) r10 c.A.R), r11, r12] rfl : Sl 1 (Bool)), (W.of .i64 8), (W.of .i64 0), ()))) fun o15 =>
 .ret o15.1)
 (.opt (F_core_memory c) fun r16 =>
 .opt (F_prf_View c.Phys c.Names.Done) fun r17 =>
 .opt (F_core_clean c.A) fun r18 =>
 .opt (F_core_valued c) fun r19 =>
 .opt (L_core_Broken_15 (((Sl.nil : Sl 8 (W .i64)), (Sl.lit 1 [r3, r5, r6, false, r16, (Tab.eq tab (.arr 16 (.int .u32)) r17 c.A.R), r18, r19] rfl : Sl 1 (Bool)), (W.of .i64 8), (W.of .i64 0), ()))) fun o20 =>
 .ret o20.1))
noncomputable def F_core_Broken (c : TCore) : Option (Sl 8 (W .i64)) := (T_core_Broken c).eval
/- cotterel/core.Arch -/
noncomputable def T_core_Arch (c : TCore) : Tree (TArch) :=
 .ret c.A
noncomputable def F_core_Arch (c : TCore) : Option (TArch) := (T_core_Arch c).eval
/- cotterel/cotterellaw42.awake -/
noncomputable def T_law42_awake  : Tree (Bool) :=
 .opt (Sl.make? 1 (W.of .u8 0) (W.of .i64 64) (W.of .i64 64)) fun l1 =>
 .opt (Sl.make? 1 (W.of .u8 0) (W.of .i64 64) (W.of .i64 64)) fun l2 =>
 .opt (F_core_Plain) fun r3 =>
 .opt (F_core_New r3 (TMach.mk (TArch.mk (W.of .u32 0) (Arr.set (Arr.rep 16 (W.of .u32 0) : Arr 16 (W .u32)) 3 (W.of .u32 7)) (Arr.rep 12 (W.of .u32 0) : Arr 12 (W .u32)) false) l1 l2 (Sl.nil : Sl 4 (W .u32)))) fun r4 =>
 .opt (F_core_Plain) fun r5 =>
 .ite (W.eq r4.2 (W.of .i64 0)) (.opt (F_core_Empty r4.1) fun r6 =>
 .ite r6 (.opt (F_core_Broken r4.1) fun r7 =>
 .ite (W.eq (Sl.len r7) (W.of .i64 0)) (.opt (F_core_Arch r4.1) fun r8 =>
 .ite (W.eq (Arr.get r8.R 3) (W.of .u32 7)) (.ite (W.eq (Sl.len r4.1.Phys.Val) (W.of .i64 32)) (.opt (Sl.get? r4.1.Phys.Val (W.of .i64 3)) fun y9 =>
 .ite (W.eq y9 (W.of .u32 7)) (.opt (F_core_Conf ({ r5 with Rob := (W.of .i64 1) } : TConf)) fun r10 =>
 .ret (W.eq r10 (W.of .i64 3)))
 (.ret false))
 (.ret false))
 (.ret false))
 (.ret false))
 (.ret false))
 (.ret false)
noncomputable def F_law42_awake  : Option (Bool) := (T_law42_awake).eval
/- cotterel/cotterellaw42.CoreConfs -/
noncomputable def T_law42_CoreConfs (c : TConf) : Tree (Bool) :=
 .opt (F_core_Conf c) fun r1 =>
 .opt (F_ref42_Conf c) fun r2 =>
 .ite (W.eq r1 r2) (.opt (F_core_Plain) fun r3 =>
 .opt (F_ref42_Plain) fun r4 =>
 .ite (Tab.eq tab (.named .TConf) r3 r4) (.opt (F_core_Plain) fun r5 =>
 .opt (F_core_Conf r5) fun r6 =>
 .ite (W.eq r6 (W.of .i64 0)) (.opt (F_law42_awake) fun r7 =>
 .ret r7)
 (.ret false))
 (.ret false))
 (.ret false)
noncomputable def F_law42_CoreConfs (c : TConf) : Option (Bool) := (T_law42_CoreConfs c).eval
/- cotterel/cotterellaw42.Light -/
noncomputable def T_law42_Light (c : TCore) : Tree (Bool) :=
 .ite (W.le (Sl.len c.Queue) (W.of .i64 20)) (.ite (W.le (Sl.len c.Rob) (W.of .i64 70)) (.ite (W.le (Sl.len c.Iq) (W.of .i64 40)) (.ite (W.le (Sl.len c.Lq) (W.of .i64 20)) (.ite (W.le (Sl.len c.Sq) (W.of .i64 20)) (.ite (W.le (Sl.len c.Sb) (W.of .i64 10)) (.ite (W.le (Sl.len c.Units) (W.of .i64 80)) (.ite (W.le (Sl.len c.Phys.Val) (W.of .i64 100)) (.ite (W.le (Sl.len c.Phys.Ready) (W.of .i64 100)) (.ite (W.le (Sl.len c.Names.Free.Ring) (W.of .i64 100)) (.ite (W.le (Sl.len c.Shadow) (W.of .i64 2048)) (.ite (W.le (Sl.len c.Out) (W.of .i64 100)) (.ite (W.le (Sl.len c.Tlb) (W.of .i64 10)) (.ite (W.le (Sl.len c.Dep) (W.of .i64 20)) (.ite (W.le (Sl.len c.Pred.Table) (W.of .i64 300)) (.ite (W.le (Sl.len c.Pred.Btb) (W.of .i64 20)) (.ret (W.le (Sl.len c.Pred.Ras) (W.of .i64 20)))
 (.ret false))
 (.ret false))
 (.ret false))
 (.ret false))
 (.ret false))
 (.ret false))
 (.ret false))
 (.ret false))
 (.ret false))
 (.ret false))
 (.ret false))
 (.ret false))
 (.ret false))
 (.ret false))
 (.ret false))
 (.ret false)
noncomputable def F_law42_Light (c : TCore) : Option (Bool) := (T_law42_Light c).eval
/- cotterel/cotterelref42.rooms -/
noncomputable def T_ref42_rooms (c : TCore) : Tree (Bool) :=
 .opt (F_ref42_Conf c.Conf) fun r1 =>
 .ite (W.eq r1 (W.of .i64 0)) (.ite (W.le (Sl.len c.Queue) c.Conf.Queue) (.ite (W.le (Sl.len c.Rob) c.Conf.Rob) (.ite (W.le (Sl.len c.Iq) c.Conf.Iq) (.ite (W.le (Sl.len c.Lq) c.Conf.Lq) (.ite (W.le (Sl.len c.Sq) c.Conf.Sq) (.ite (W.le (Sl.len c.Sb) c.Conf.Sb) (.ite (W.eq (Sl.len c.Phys.Val) c.Conf.Phys) (.ite (W.eq (Sl.len c.Phys.Ready) c.Conf.Phys) (.ite (W.eq (Sl.len c.Tlb) c.Conf.Tlb) (.ret (W.eq (Sl.len c.Dep) c.Conf.Dep))
 (.ret false))
 (.ret false))
 (.ret false))
 (.ret false))
 (.ret false))
 (.ret false))
 (.ret false))
 (.ret false))
 (.ret false))
 (.ret false)
noncomputable def F_ref42_rooms (c : TCore) : Option (Bool) := (T_ref42_rooms c).eval
/- cotterel/cotterelref29.Right -/
noncomputable def B_ref29_Right_5 (l_0 : Sl 248 (TRob)) (i : W .i64) : Tree (Rnd (Sl 248 (TRob) × W .i64 × Unit) ((Sl 248 (TRob) × Bool × Unit) ⊕ (Sl 248 (TRob) × Unit × Unit))) :=
 .ite (W.lt i (Sl.len l_0)) (.opt (Sl.get? l_0 i) fun y1 =>
 .ite (W.lt y1.Ren.Seq (W.of .u64 1)) (.ret (.out (.inl (l_0, false, ()))))
 (.ite (W.gt i (W.of .i64 0)) (.opt (Sl.get? l_0 i) fun y2 =>
 .opt (Sl.get? l_0 (W.sub i (W.of .i64 1))) fun y3 =>
 .ite (W.le y2.Ren.Seq y3.Ren.Seq) (.ret (.out (.inl (l_0, false, ()))))
 (.ite (W.gt i (W.of .i64 0)) (.opt (Sl.get? l_0 (W.sub i (W.of .i64 1))) fun y4 =>
 .ite (!y4.Ren.Uop.Last) (.opt (Sl.get? l_0 (W.sub i (W.of .i64 1))) fun y5 =>
 .opt (Sl.get? l_0 i) fun y6 =>
 .ite (W.ne y6.Ren.Uop.Part (W.add y5.Ren.Uop.Part (W.of .i64 1))) (.ret (.out (.inl (l_0, false, ()))))
 (.ret (.next (l_0, (W.add i (W.of .i64 1)), ()))))
 (.opt (Sl.get? l_0 i) fun y7 =>
 .ite (W.ne y7.Ren.Uop.Part (W.of .i64 0)) (.ret (.out (.inl (l_0, false, ()))))
 (.ret (.next (l_0, (W.add i (W.of .i64 1)), ())))))
 (.opt (Sl.get? l_0 i) fun y8 =>
 .ite (W.ne y8.Ren.Uop.Part (W.of .i64 0)) (.ret (.out (.inl (l_0, false, ()))))
 (.ret (.next (l_0, (W.add i (W.of .i64 1)), ()))))))
 (.ite (W.gt i (W.of .i64 0)) (.opt (Sl.get? l_0 (W.sub i (W.of .i64 1))) fun y9 =>
 .ite (!y9.Ren.Uop.Last) (.opt (Sl.get? l_0 (W.sub i (W.of .i64 1))) fun y10 =>
 .opt (Sl.get? l_0 i) fun y11 =>
 .ite (W.ne y11.Ren.Uop.Part (W.add y10.Ren.Uop.Part (W.of .i64 1))) (.ret (.out (.inl (l_0, false, ()))))
 (.ret (.next (l_0, (W.add i (W.of .i64 1)), ()))))
 (.opt (Sl.get? l_0 i) fun y12 =>
 .ite (W.ne y12.Ren.Uop.Part (W.of .i64 0)) (.ret (.out (.inl (l_0, false, ()))))
 (.ret (.next (l_0, (W.add i (W.of .i64 1)), ())))))
 (.opt (Sl.get? l_0 i) fun y13 =>
 .ite (W.ne y13.Ren.Uop.Part (W.of .i64 0)) (.ret (.out (.inl (l_0, false, ()))))
 (.ret (.next (l_0, (W.add i (W.of .i64 1)), ())))))))
 (.ret (.out (.inr (l_0, (), ()))))
noncomputable def L_ref29_Right_5 (a : Sl 248 (TRob) × W .i64 × Unit) : Option ((Sl 248 (TRob) × Bool × Unit) ⊕ (Sl 248 (TRob) × Unit × Unit)) := iter (fun a : Sl 248 (TRob) × W .i64 × Unit => (B_ref29_Right_5 a.1 a.2.1).eval) fuel a
noncomputable def T_ref29_Right (l_0 : Sl 248 (TRob)) : Tree (Bool) :=
 .opt (L_ref29_Right_5 ((l_0, (W.of .i64 0), ()))) fun o14 =>
 .sum o14 (fun p15 =>
 .ret p15.2.1)
 (fun o16 =>
 .ite (W.eq (Sl.len o16.1) (W.of .i64 0)) (.ret true)
 (.opt (Sl.get? o16.1 (W.sub (Sl.len o16.1) (W.of .i64 1))) fun y17 =>
 .ret y17.Ren.Uop.Last))
noncomputable def F_ref29_Right (l_0 : Sl 248 (TRob)) : Option (Bool) := (T_ref29_Right l_0).eval
/- cotterel/cotterelref26.Right -/
noncomputable def B_ref26_Right_26 (n_1 : W .i64) (m : Arr 16 (W .i64)) (r k : W .i64) : Tree (Rnd (W .i64 × Arr 16 (W .i64) × W .i64 × W .i64 × Unit) ((W .i64 × Arr 16 (W .i64) × Bool × W .i64 × Unit) ⊕ (W .i64 × Arr 16 (W .i64) × Unit × W .i64 × Unit))) :=
 .ite (W.lt k r) (.opt (idx? 16 k) fun j3 =>
 .opt (idx? 16 r) fun j4 =>
 .ite (W.eq (Arr.get m j3) (Arr.get m j4)) (.ret (.out (.inl (n_1, m, false, r, ()))))
 (.ret (.next (n_1, m, r, (W.add k (W.of .i64 1)), ()))))
 (.ret (.out (.inr (n_1, m, (), r, ()))))
noncomputable def L_ref26_Right_26 (a : W .i64 × Arr 16 (W .i64) × W .i64 × W .i64 × Unit) : Option ((W .i64 × Arr 16 (W .i64) × Bool × W .i64 × Unit) ⊕ (W .i64 × Arr 16 (W .i64) × Unit × W .i64 × Unit)) := iter (fun a : W .i64 × Arr 16 (W .i64) × W .i64 × W .i64 × Unit => (B_ref26_Right_26 a.1 a.2.1 a.2.2.1 a.2.2.2.1).eval) fuel a
noncomputable def B_ref26_Right_11 (n_1 : W .i64) (m : Arr 16 (W .i64)) (r : W .i64) : Tree (Rnd (W .i64 × Arr 16 (W .i64) × W .i64 × Unit) ((Bool × Unit) ⊕ (Unit × Unit))) :=
 .ite (W.lt r (W.of .i64 16)) (.opt (idx? 16 r) fun j1 =>
 .ite (W.lt (Arr.get m j1) (W.of .i64 1)) (.ret (.out (.inl (false, ()))))
 (.opt (idx? 16 r) fun j2 =>
 .ite (W.ge (Arr.get m j2) n_1) (.ret (.out (.inl (false, ()))))
 (.opt (L_ref26_Right_26 ((n_1, m, r, (W.of .i64 1), ()))) fun o5 =>
 .sum o5 (fun p6 =>
 .ret (.out (.inl (p6.2.2.1, ()))))
 (fun o7 =>
 .ret (.next (o7.1, o7.2.1, (W.add o7.2.2.2.1 (W.of .i64 1)), ()))))))
 (.ret (.out (.inr ((), ()))))
noncomputable def L_ref26_Right_11 (a : W .i64 × Arr 16 (W .i64) × W .i64 × Unit) : Option ((Bool × Unit) ⊕ (Unit × Unit)) := iter (fun a : W .i64 × Arr 16 (W .i64) × W .i64 × Unit => (B_ref26_Right_11 a.1 a.2.1 a.2.2.1).eval) fuel a
noncomputable def T_ref26_Right (m : Arr 16 (W .i64)) (n_1 : W .i64) : Tree (Bool) :=
 .ite (W.ne (Arr.get m 0) (W.of .i64 (-1))) (.ret false)
 (.opt (L_ref26_Right_11 ((n_1, m, (W.of .i64 1), ()))) fun o8 =>
 .sum o8 (fun p9 =>
 .ret p9.1)
 (fun o10 =>
 .ret true))
noncomputable def F_ref26_Right (m : Arr 16 (W .i64)) (n_1 : W .i64) : Option (Bool) := (T_ref26_Right m n_1).eval
/- cotterel/cotterelref25.Is -/
noncomputable def T_ref25_Is (f : TFree) : Tree (Bool) :=
 .ite (W.gt (Sl.len f.Ring) (W.of .i64 96)) (.ret false)
 (.ite (W.lt f.N (W.of .i64 0)) (.ret false)
 (.ite (W.gt f.N (Sl.len f.Ring)) (.ret false)
 (.ite (W.ge f.Head (W.of .i64 0)) (.ite (W.lt f.Head (Sl.len f.Ring)) (.ret true)
 (.ite (W.eq (Sl.len f.Ring) (W.of .i64 0)) (.ret (W.eq f.Head (W.of .i64 0)))
 (.ret false)))
 (.ite (W.eq (Sl.len f.Ring) (W.of .i64 0)) (.ret (W.eq f.Head (W.of .i64 0)))
 (.ret false)))))
noncomputable def F_ref25_Is (f : TFree) : Option (Bool) := (T_ref25_Is f).eval
/- cotterel/cotterelref25.List -/
noncomputable def B_ref25_List_13 (f : TFree) (out : Sl 8 (W .i64)) (i : W .i64) : Tree (Rnd (TFree × Sl 8 (W .i64) × W .i64 × Unit) (Sl 8 (W .i64) × Unit)) :=
 .ite (W.lt i f.N) (.opt (W.rem? (W.add f.Head i) (Sl.len f.Ring)) fun z2 =>
 .opt (Sl.get? f.Ring z2) fun y3 =>
 .opt (Sl.app? out (Sl.lit 8 [y3] rfl : Sl 8 (W .i64))) fun l4 =>
 .ret (.next (f, l4, (W.add i (W.of .i64 1)), ())))
 (.ret (.out (out, ())))
noncomputable def L_ref25_List_13 (a : TFree × Sl 8 (W .i64) × W .i64 × Unit) : Option (Sl 8 (W .i64) × Unit) := iter (fun a : TFree × Sl 8 (W .i64) × W .i64 × Unit => (B_ref25_List_13 a.1 a.2.1 a.2.2.1).eval) fuel a
noncomputable def T_ref25_List (f : TFree) : Tree (Sl 8 (W .i64)) :=
 .opt (F_ref25_Is f) fun r1 =>
 .ite (!r1) (.ret (Sl.lit 8 [] rfl : Sl 8 (W .i64)))
 (.opt (L_ref25_List_13 ((f, (Sl.lit 8 [] rfl : Sl 8 (W .i64)), (W.of .i64 0), ()))) fun o5 =>
 .ret o5.1)
noncomputable def F_ref25_List (f : TFree) : Option (Sl 8 (W .i64)) := (T_ref25_List f).eval
/- cotterel/cotterelref25.Right -/
noncomputable def B_ref25_Right_28 (n_1 : W .i64) (l_5 : Sl 8 (W .i64)) (i k : W .i64) : Tree (Rnd (W .i64 × Sl 8 (W .i64) × W .i64 × W .i64 × Unit) ((W .i64 × Bool × Sl 8 (W .i64) × W .i64 × Unit) ⊕ (W .i64 × Unit × Sl 8 (W .i64) × W .i64 × Unit))) :=
 .ite (W.lt k i) (.opt (idx? (List.length l_5.l) k) fun j5 =>
 .opt (idx? (List.length l_5.l) i) fun j6 =>
 .ite (W.eq (List.getD l_5.l j5 (W.of .i64 0)) (List.getD l_5.l j6 (W.of .i64 0))) (.ret (.out (.inl (n_1, false, l_5, i, ()))))
 (.ret (.next (n_1, l_5, i, (W.add k (W.of .i64 1)), ()))))
 (.ret (.out (.inr (n_1, (), l_5, i, ()))))
noncomputable def L_ref25_Right_28 (a : W .i64 × Sl 8 (W .i64) × W .i64 × W .i64 × Unit) : Option ((W .i64 × Bool × Sl 8 (W .i64) × W .i64 × Unit) ⊕ (W .i64 × Unit × Sl 8 (W .i64) × W .i64 × Unit)) := iter (fun a : W .i64 × Sl 8 (W .i64) × W .i64 × W .i64 × Unit => (B_ref25_Right_28 a.1 a.2.1 a.2.2.1 a.2.2.2.1).eval) fuel a
noncomputable def B_ref25_Right_13 (n_1 : W .i64) (l_5 : Sl 8 (W .i64)) (i : W .i64) : Tree (Rnd (W .i64 × Sl 8 (W .i64) × W .i64 × Unit) ((Bool × Unit) ⊕ (Unit × Unit))) :=
 .ite (W.lt i (Sl.len l_5)) (.opt (idx? (List.length l_5.l) i) fun j3 =>
 .ite (W.lt (List.getD l_5.l j3 (W.of .i64 0)) (W.of .i64 0)) (.ret (.out (.inl (false, ()))))
 (.opt (idx? (List.length l_5.l) i) fun j4 =>
 .ite (W.ge (List.getD l_5.l j4 (W.of .i64 0)) n_1) (.ret (.out (.inl (false, ()))))
 (.opt (L_ref25_Right_28 ((n_1, l_5, i, (W.of .i64 0), ()))) fun o7 =>
 .sum o7 (fun p8 =>
 .ret (.out (.inl (p8.2.1, ()))))
 (fun o9 =>
 .ret (.next (o9.1, o9.2.2.1, (W.add o9.2.2.2.1 (W.of .i64 1)), ()))))))
 (.ret (.out (.inr ((), ()))))
noncomputable def L_ref25_Right_13 (a : W .i64 × Sl 8 (W .i64) × W .i64 × Unit) : Option ((Bool × Unit) ⊕ (Unit × Unit)) := iter (fun a : W .i64 × Sl 8 (W .i64) × W .i64 × Unit => (B_ref25_Right_13 a.1 a.2.1 a.2.2.1).eval) fuel a
noncomputable def T_ref25_Right (f : TFree) (n_1 : W .i64) : Tree (Bool) :=
 .opt (F_ref25_Is f) fun r1 =>
 .ite (!r1) (.ret false)
 (.ite (W.ne (Sl.len f.Ring) n_1) (.ret false)
 (.opt (F_ref25_List f) fun r2 =>
 .opt (L_ref25_Right_13 ((n_1, r2, (W.of .i64 0), ()))) fun o10 =>
 .sum o10 (fun p11 =>
 .ret p11.1)
 (fun o12 =>
 .ret true)))
noncomputable def F_ref25_Right (f : TFree) (n_1 : W .i64) : Option (Bool) := (T_ref25_Right f n_1).eval
/- cotterel/cotterelref28.Writes -/
noncomputable def T_ref28_Writes (u : TUop) : Tree (Bool) :=
 .ite (W.ge u.Dst (W.of .i64 1)) (.ret (W.le u.Dst (W.of .i64 15)))
 (.ret false)
noncomputable def F_ref28_Writes (u : TUop) : Option (Bool) := (T_ref28_Writes u).eval
/- cotterel/cotterelref28.times -/
noncomputable def B_ref28_times_7 (l_0 : Sl 8 (W .i64)) (p n_5 i : W .i64) : Tree (Rnd (Sl 8 (W .i64) × W .i64 × W .i64 × W .i64 × Unit) (W .i64 × Unit)) :=
 .ite (W.lt i (Sl.len l_0)) (.opt (Sl.get? l_0 i) fun y1 =>
 .ite (W.eq y1 p) (.ret (.next (l_0, p, (W.add n_5 (W.of .i64 1)), (W.add i (W.of .i64 1)), ())))
 (.ret (.next (l_0, p, n_5, (W.add i (W.of .i64 1)), ()))))
 (.ret (.out (n_5, ())))
noncomputable def L_ref28_times_7 (a : Sl 8 (W .i64) × W .i64 × W .i64 × W .i64 × Unit) : Option (W .i64 × Unit) := iter (fun a : Sl 8 (W .i64) × W .i64 × W .i64 × W .i64 × Unit => (B_ref28_times_7 a.1 a.2.1 a.2.2.1 a.2.2.2.1).eval) fuel a
noncomputable def T_ref28_times (l_0 : Sl 8 (W .i64)) (p : W .i64) : Tree (W .i64) :=
 .opt (L_ref28_times_7 ((l_0, p, (W.of .i64 0), (W.of .i64 0), ()))) fun o2 =>
 .ret o2.1
noncomputable def F_ref28_times (l_0 : Sl 8 (W .i64)) (p : W .i64) : Option (W .i64) := (T_ref28_times l_0 p).eval
/- cotterel/cotterelref28.parted -/
noncomputable def B_ref28_parted_7 (n_1 : W .i64) (flying : Sl 216 (TRen)) (s : TNames) (all : Sl 8 (W .i64)) (k : W .i64) : Tree (Rnd (W .i64 × Sl 216 (TRen) × TNames × Sl 8 (W .i64) × W .i64 × Unit) (W .i64 × Sl 216 (TRen) × Sl 8 (W .i64) × Unit)) :=
 .ite (W.lt k (W.of .i64 16)) (.opt (idx? 16 k) fun j2 =>
 .opt (Sl.app? all (Sl.lit 8 [(Arr.get s.Done j2)] rfl : Sl 8 (W .i64))) fun l3 =>
 .ret (.next (n_1, flying, s, l3, (W.add k (W.of .i64 1)), ())))
 (.ret (.out (n_1, flying, all, ())))
noncomputable def L_ref28_parted_7 (a : W .i64 × Sl 216 (TRen) × TNames × Sl 8 (W .i64) × W .i64 × Unit) : Option (W .i64 × Sl 216 (TRen) × Sl 8 (W .i64) × Unit) := iter (fun a : W .i64 × Sl 216 (TRen) × TNames × Sl 8 (W .i64) × W .i64 × Unit => (B_ref28_parted_7 a.1 a.2.1 a.2.2.1 a.2.2.2.1 a.2.2.2.2.1).eval) fuel a
noncomputable def B_ref28_parted_20 (n_1 : W .i64) (flying : Sl 216 (TRen)) (all : Sl 8 (W .i64)) (i : W .i64) : Tree (Rnd (W .i64 × Sl 216 (TRen) × Sl 8 (W .i64) × W .i64 × Unit) (W .i64 × Sl 8 (W .i64) × Unit)) :=
 .ite (W.lt i (Sl.len flying)) (.opt (Sl.get? flying i) fun y5 =>
 .ite (W.ne y5.Out (W.of .i64 (-1))) (.opt (Sl.get? flying i) fun y6 =>
 .opt (Sl.app? all (Sl.lit 8 [y6.Out] rfl : Sl 8 (W .i64))) fun l7 =>
 .ret (.next (n_1, flying, l7, (W.add i (W.of .i64 1)), ())))
 (.ret (.next (n_1, flying, all, (W.add i (W.of .i64 1)), ()))))
 (.ret (.out (n_1, all, ())))
noncomputable def L_ref28_parted_20 (a : W .i64 × Sl 216 (TRen) × Sl 8 (W .i64) × W .i64 × Unit) : Option (W .i64 × Sl 8 (W .i64) × Unit) := iter (fun a : W .i64 × Sl 216 (TRen) × Sl 8 (W .i64) × W .i64 × Unit => (B_ref28_parted_20 a.1 a.2.1 a.2.2.1 a.2.2.2.1).eval) fuel a
noncomputable def B_ref28_parted_35 (n_1 : W .i64) (all : Sl 8 (W .i64)) (p : W .i64) : Tree (Rnd (W .i64 × Sl 8 (W .i64) × W .i64 × Unit) ((W .i64 × Bool × Sl 8 (W .i64) × Unit) ⊕ (W .i64 × Unit × Sl 8 (W .i64) × Unit))) :=
 .ite (W.lt p n_1) (.opt (F_ref28_times all p) fun r9 =>
 .ite (W.ne r9 (W.of .i64 1)) (.ret (.out (.inl (n_1, false, all, ()))))
 (.ret (.next (n_1, all, (W.add p (W.of .i64 1)), ()))))
 (.ret (.out (.inr (n_1, (), all, ()))))
noncomputable def L_ref28_parted_35 (a : W .i64 × Sl 8 (W .i64) × W .i64 × Unit) : Option ((W .i64 × Bool × Sl 8 (W .i64) × Unit) ⊕ (W .i64 × Unit × Sl 8 (W .i64) × Unit)) := iter (fun a : W .i64 × Sl 8 (W .i64) × W .i64 × Unit => (B_ref28_parted_35 a.1 a.2.1 a.2.2.1).eval) fuel a
noncomputable def T_ref28_parted (s : TNames) (n_1 : W .i64) (flying : Sl 216 (TRen)) : Tree (Bool) :=
 .opt (F_ref25_List s.Free) fun r1 =>
 .opt (L_ref28_parted_7 ((n_1, flying, s, r1, (W.of .i64 1), ()))) fun o4 =>
 .opt (L_ref28_parted_20 ((o4.1, o4.2.1, o4.2.2.1, (W.of .i64 0), ()))) fun o8 =>
 .opt (L_ref28_parted_35 ((o8.1, o8.2.1, (W.of .i64 1), ()))) fun o10 =>
 .sum o10 (fun p11 =>
 .ret p11.2.1)
 (fun o12 =>
 .ret (W.eq (Sl.len o12.2.2.1) (W.sub o12.1 (W.of .i64 1))))
noncomputable def F_ref28_parted (s : TNames) (n_1 : W .i64) (flying : Sl 216 (TRen)) : Option (Bool) := (T_ref28_parted s n_1 flying).eval
/- cotterel/cotterelref28.Right -/
noncomputable def B_ref28_Right_15 (n_1 : W .i64) (flying : Sl 216 (TRen)) (s : TNames) (m : Arr 16 (W .i64)) (last : W .u64) (i : W .i64) : Tree (Rnd (W .i64 × Sl 216 (TRen) × TNames × Arr 16 (W .i64) × W .u64 × W .i64 × Unit) ((W .i64 × Sl 216 (TRen) × TNames × Bool × Arr 16 (W .i64) × Unit) ⊕ (W .i64 × Sl 216 (TRen) × TNames × Unit × Arr 16 (W .i64) × Unit))) :=
 .ite (W.lt i (Sl.len flying)) (.opt (Sl.get? flying i) fun y4 =>
 .ite (W.le y4.Seq last) (.ret (.out (.inl (n_1, flying, s, false, m, ()))))
 (.ite (W.ge y4.Seq s.Seq) (.ret (.out (.inl (n_1, flying, s, false, m, ()))))
 (.opt (F_ref28_Writes y4.Uop) fun r5 =>
 .ite (!r5) (.ite (W.ne y4.Out (W.of .i64 (-1))) (.ret (.out (.inl (n_1, flying, s, false, m, ()))))
 (.ite (W.ne y4.Old (W.of .i64 (-1))) (.ret (.out (.inl (n_1, flying, s, false, m, ()))))
 (.ret (.next (n_1, flying, s, m, y4.Seq, (W.add i (W.of .i64 1)), ())))))
 (.ite (W.lt y4.Out (W.of .i64 0)) (.ret (.out (.inl (n_1, flying, s, false, m, ()))))
 (.opt (idx? 16 y4.Uop.Dst) fun j6 =>
 .ite (W.ne y4.Old (Arr.get m j6)) (.ret (.out (.inl (n_1, flying, s, false, m, ()))))
 (.opt (idx? 16 y4.Uop.Dst) fun j7 =>
 .ret (.next (n_1, flying, s, (Arr.set m j7 y4.Out), y4.Seq, (W.add i (W.of .i64 1)), ()))))))))
 (.ret (.out (.inr (n_1, flying, s, (), m, ()))))
noncomputable def L_ref28_Right_15 (a : W .i64 × Sl 216 (TRen) × TNames × Arr 16 (W .i64) × W .u64 × W .i64 × Unit) : Option ((W .i64 × Sl 216 (TRen) × TNames × Bool × Arr 16 (W .i64) × Unit) ⊕ (W .i64 × Sl 216 (TRen) × TNames × Unit × Arr 16 (W .i64) × Unit)) := iter (fun a : W .i64 × Sl 216 (TRen) × TNames × Arr 16 (W .i64) × W .u64 × W .i64 × Unit => (B_ref28_Right_15 a.1 a.2.1 a.2.2.1 a.2.2.2.1 a.2.2.2.2.1 a.2.2.2.2.2.1).eval) fuel a
noncomputable def T_ref28_Right (s : TNames) (n_1 : W .i64) (flying : Sl 216 (TRen)) : Tree (Bool) :=
 .ite (W.lt n_1 (W.of .i64 17)) (.ret false)
 (.ite (W.gt n_1 (W.of .i64 96)) (.ret false)
 (.opt (F_ref26_Right s.Map n_1) fun r1 =>
 .ite (!r1) (.ret false)
 (.opt (F_ref26_Right s.Done n_1) fun r2 =>
 .ite (!r2) (.ret false)
 (.opt (F_ref25_Right s.Free n_1) fun r3 =>
 .ite (!r3) (.ret false)
 (.opt (L_ref28_Right_15 ((n_1, flying, s, s.Done, (W.of .u64 0), (W.of .i64 0), ()))) fun o8 =>
 .sum o8 (fun p9 =>
 .ret p9.2.2.2.1)
 (fun o10 =>
 .ite (Tab.eq tab (.arr 16 (.int .i64)) o10.2.2.2.2.1 o10.2.2.1.Map) (.opt (F_ref28_parted o10.2.2.1 o10.1 o10.2.1) fun r11 =>
 .ret r11)
 (.ret false)))))))
noncomputable def F_ref28_Right (s : TNames) (n_1 : W .i64) (flying : Sl 216 (TRen)) : Option (Bool) := (T_ref28_Right s n_1 flying).eval
/- cotterel/cotterelref42.waits -/
noncomputable def B_ref42_waits_5 (c : TCore) (r : TRen) (i : W .i64) : Tree (Rnd (TCore × TRen × W .i64 × Unit) ((Bool × Unit) ⊕ (Unit × Unit))) :=
 .ite (W.lt i (Sl.len c.Rob)) (.opt (Sl.get? c.Rob i) fun y1 =>
 .ite (Tab.eq tab (.named .TRen) y1.Ren r) (.opt (Sl.get? c.Rob i) fun y2 =>
 .ite (!y2.Done) (.ret (.out (.inl (true, ()))))
 (.ret (.next (c, r, (W.add i (W.of .i64 1)), ()))))
 (.ret (.next (c, r, (W.add i (W.of .i64 1)), ()))))
 (.ret (.out (.inr ((), ()))))
noncomputable def L_ref42_waits_5 (a : TCore × TRen × W .i64 × Unit) : Option ((Bool × Unit) ⊕ (Unit × Unit)) := iter (fun a : TCore × TRen × W .i64 × Unit => (B_ref42_waits_5 a.1 a.2.1 a.2.2.1).eval) fuel a
noncomputable def T_ref42_waits (c : TCore) (r : TRen) : Tree (Bool) :=
 .opt (L_ref42_waits_5 ((c, r, (W.of .i64 0), ()))) fun o3 =>
 .sum o3 (fun p4 =>
 .ret p4.1)
 (fun o5 =>
 .ret false)
noncomputable def F_ref42_waits (c : TCore) (r : TRen) : Option (Bool) := (T_ref42_waits c r).eval
/- cotterel/cotterelref42.queued -/
noncomputable def B_ref42_queued_20 (c : TCore) (i k : W .i64) : Tree (Rnd (TCore × W .i64 × W .i64 × Unit) ((TCore × Bool × W .i64 × Unit) ⊕ (TCore × Unit × W .i64 × Unit))) :=
 .ite (W.lt k i) (.opt (Sl.get? c.Iq k) fun y3 =>
 .opt (Sl.get? c.Iq i) fun y4 =>
 .ite (W.eq y3.Ren.Seq y4.Ren.Seq) (.ret (.out (.inl (c, false, i, ()))))
 (.ret (.next (c, i, (W.add k (W.of .i64 1)), ()))))
 (.ret (.out (.inr (c, (), i, ()))))
noncomputable def L_ref42_queued_20 (a : TCore × W .i64 × W .i64 × Unit) : Option ((TCore × Bool × W .i64 × Unit) ⊕ (TCore × Unit × W .i64 × Unit)) := iter (fun a : TCore × W .i64 × W .i64 × Unit => (B_ref42_queued_20 a.1 a.2.1 a.2.2.1).eval) fuel a
noncomputable def B_ref42_queued_5 (c : TCore) (i : W .i64) : Tree (Rnd (TCore × W .i64 × Unit) ((Bool × Unit) ⊕ (Unit × Unit))) :=
 .ite (W.lt i (Sl.len c.Iq)) (.opt (Sl.get? c.Iq i) fun y1 =>
 .opt (F_ref42_waits c y1.Ren) fun r2 =>
 .ite (!r2) (.ret (.out (.inl (false, ()))))
 (.opt (L_ref42_queued_20 ((c, i, (W.of .i64 0), ()))) fun o5 =>
 .sum o5 (fun p6 =>
 .ret (.out (.inl (p6.2.1, ()))))
 (fun o7 =>
 .ret (.next (o7.1, (W.add o7.2.2.1 (W.of .i64 1)), ())))))
 (.ret (.out (.inr ((), ()))))
noncomputable def L_ref42_queued_5 (a : TCore × W .i64 × Unit) : Option ((Bool × Unit) ⊕ (Unit × Unit)) := iter (fun a : TCore × W .i64 × Unit => (B_ref42_queued_5 a.1 a.2.1).eval) fuel a
noncomputable def T_ref42_queued (c : TCore) : Tree (Bool) :=
 .opt (L_ref42_queued_5 ((c, (W.of .i64 0), ()))) fun o8 =>
 .sum o8 (fun p9 =>
 .ret p9.1)
 (fun o10 =>
 .ret true)
noncomputable def F_ref42_queued (c : TCore) : Option (Bool) := (T_ref42_queued c).eval
/- cotterel/cotterelref42.flying -/
noncomputable def B_ref42_flying_22 (c : TCore) (i : W .i64) (r : TRen) (k : W .i64) : Tree (Rnd (TCore × W .i64 × TRen × W .i64 × Unit) ((TCore × Bool × W .i64 × TRen × Unit) ⊕ (TCore × Unit × W .i64 × TRen × Unit))) :=
 .ite (W.lt k i) (.opt (Sl.get? c.Units k) fun y3 =>
 .ite (W.eq y3.Ren.Seq r.Seq) (.ret (.out (.inl (c, false, i, r, ()))))
 (.ret (.next (c, i, r, (W.add k (W.of .i64 1)), ()))))
 (.ret (.out (.inr (c, (), i, r, ()))))
noncomputable def L_ref42_flying_22 (a : TCore × W .i64 × TRen × W .i64 × Unit) : Option ((TCore × Bool × W .i64 × TRen × Unit) ⊕ (TCore × Unit × W .i64 × TRen × Unit)) := iter (fun a : TCore × W .i64 × TRen × W .i64 × Unit => (B_ref42_flying_22 a.1 a.2.1 a.2.2.1 a.2.2.2.1).eval) fuel a
noncomputable def B_ref42_flying_39 (c : TCore) (i : W .i64) (r : TRen) (k : W .i64) : Tree (Rnd (TCore × W .i64 × TRen × W .i64 × Unit) ((TCore × Bool × W .i64 × Unit) ⊕ (TCore × Unit × W .i64 × Unit))) :=
 .ite (W.lt k (Sl.len c.Iq)) (.opt (Sl.get? c.Iq k) fun y7 =>
 .ite (W.eq y7.Ren.Seq r.Seq) (.ret (.out (.inl (c, false, i, ()))))
 (.ret (.next (c, i, r, (W.add k (W.of .i64 1)), ()))))
 (.ret (.out (.inr (c, (), i, ()))))
noncomputable def L_ref42_flying_39 (a : TCore × W .i64 × TRen × W .i64 × Unit) : Option ((TCore × Bool × W .i64 × Unit) ⊕ (TCore × Unit × W .i64 × Unit)) := iter (fun a : TCore × W .i64 × TRen × W .i64 × Unit => (B_ref42_flying_39 a.1 a.2.1 a.2.2.1 a.2.2.2.1).eval) fuel a
noncomputable def B_ref42_flying_5 (c : TCore) (i : W .i64) : Tree (Rnd (TCore × W .i64 × Unit) ((Bool × Unit) ⊕ (Unit × Unit))) :=
 .ite (W.lt i (Sl.len c.Units)) (.opt (Sl.get? c.Units i) fun y1 =>
 .opt (F_ref42_waits c y1.Ren) fun r2 =>
 .ite (!r2) (.ret (.out (.inl (false, ()))))
 (.opt (L_ref42_flying_22 ((c, i, y1.Ren, (W.of .i64 0), ()))) fun o4 =>
 .sum o4 (fun p5 =>
 .ret (.out (.inl (p5.2.1, ()))))
 (fun o6 =>
 .opt (L_ref42_flying_39 ((o6.1, o6.2.2.1, o6.2.2.2.1, (W.of .i64 0), ()))) fun o8 =>
 .sum o8 (fun p9 =>
 .ret (.out (.inl (p9.2.1, ()))))
 (fun o10 =>
 .ret (.next (o10.1, (W.add o10.2.2.1 (W.of .i64 1)), ()))))))
 (.ret (.out (.inr ((), ()))))
noncomputable def L_ref42_flying_5 (a : TCore × W .i64 × Unit) : Option ((Bool × Unit) ⊕ (Unit × Unit)) := iter (fun a : TCore × W .i64 × Unit => (B_ref42_flying_5 a.1 a.2.1).eval) fuel a
noncomputable def T_ref42_flying (c : TCore) : Tree (Bool) :=
 .opt (L_ref42_flying_5 ((c, (W.of .i64 0), ()))) fun o11 =>
 .sum o11 (fun p12 =>
 .ret p12.1)
 (fun o13 =>
 .ret true)
noncomputable def F_ref42_flying (c : TCore) : Option (Bool) := (T_ref42_flying c).eval
/- cotterel/cotterelref42.seqs -/
noncomputable def B_ref42_seqs_7 (unit : W .i64) (c : TCore) (out : Sl 8 (W .u64)) (i : W .i64) : Tree (Rnd (W .i64 × TCore × Sl 8 (W .u64) × W .i64 × Unit) (Sl 8 (W .u64) × Unit)) :=
 .ite (W.lt i (Sl.len c.Rob)) (.opt (Sl.get? c.Rob i) fun y1 =>
 .ite (W.eq y1.Ren.Uop.Unit unit) (.opt (Sl.get? c.Rob i) fun y2 =>
 .opt (Sl.app? out (Sl.lit 8 [y2.Ren.Seq] rfl : Sl 8 (W .u64))) fun l3 =>
 .ret (.next (unit, c, l3, (W.add i (W.of .i64 1)), ())))
 (.ret (.next (unit, c, out, (W.add i (W.of .i64 1)), ()))))
 (.ret (.out (out, ())))
noncomputable def L_ref42_seqs_7 (a : W .i64 × TCore × Sl 8 (W .u64) × W .i64 × Unit) : Option (Sl 8 (W .u64) × Unit) := iter (fun a : W .i64 × TCore × Sl 8 (W .u64) × W .i64 × Unit => (B_ref42_seqs_7 a.1 a.2.1 a.2.2.1 a.2.2.2.1).eval) fuel a
noncomputable def T_ref42_seqs (c : TCore) (unit : W .i64) : Tree (Sl 8 (W .u64)) :=
 .opt (L_ref42_seqs_7 ((unit, c, (Sl.lit 8 [] rfl : Sl 8 (W .u64)), (W.of .i64 0), ()))) fun o4 =>
 .ret o4.1
noncomputable def F_ref42_seqs (c : TCore) (unit : W .i64) : Option (Sl 8 (W .u64)) := (T_ref42_seqs c unit).eval
/- cotterel/cotterelref42.memory -/
noncomputable def B_ref42_memory_13 (c : TCore) (l_3 s : Sl 8 (W .u64)) (i : W .i64) : Tree (Rnd (TCore × Sl 8 (W .u64) × Sl 8 (W .u64) × W .i64 × Unit) ((TCore × Bool × Sl 8 (W .u64) × Unit) ⊕ (TCore × Unit × Sl 8 (W .u64) × Unit))) :=
 .ite (W.lt i (Sl.len l_3)) (.ite (W.lt i (Sl.len c.Lq)) (.opt (Sl.get? c.Lq i) fun y3 =>
 .opt (Sl.get? l_3 i) fun y4 =>
 .ite (W.ne y3.Seq y4) (.ret (.out (.inl (c, false, s, ()))))
 (.ret (.next (c, l_3, s, (W.add i (W.of .i64 1)), ()))))
 (.ret (.out (.inr (c, (), s, ())))))
 (.ret (.out (.inr (c, (), s, ()))))
noncomputable def L_ref42_memory_13 (a : TCore × Sl 8 (W .u64) × Sl 8 (W .u64) × W .i64 × Unit) : Option ((TCore × Bool × Sl 8 (W .u64) × Unit) ⊕ (TCore × Unit × Sl 8 (W .u64) × Unit)) := iter (fun a : TCore × Sl 8 (W .u64) × Sl 8 (W .u64) × W .i64 × Unit => (B_ref42_memory_13 a.1 a.2.1 a.2.2.1 a.2.2.2.1).eval) fuel a
noncomputable def B_ref42_memory_30 (c : TCore) (s : Sl 8 (W .u64)) (i : W .i64) : Tree (Rnd (TCore × Sl 8 (W .u64) × W .i64 × Unit) ((Bool × Unit) ⊕ (Unit × Unit))) :=
 .ite (W.lt i (Sl.len s)) (.ite (W.lt i (Sl.len c.Sq)) (.opt (Sl.get? c.Sq i) fun y8 =>
 .opt (Sl.get? s i) fun y9 =>
 .ite (W.ne y8.Seq y9) (.ret (.out (.inl (false, ()))))
 (.ret (.next (c, s, (W.add i (W.of .i64 1)), ()))))
 (.ret (.out (.inr ((), ())))))
 (.ret (.out (.inr ((), ()))))
noncomputable def L_ref42_memory_30 (a : TCore × Sl 8 (W .u64) × W .i64 × Unit) : Option ((Bool × Unit) ⊕ (Unit × Unit)) := iter (fun a : TCore × Sl 8 (W .u64) × W .i64 × Unit => (B_ref42_memory_30 a.1 a.2.1 a.2.2.1).eval) fuel a
noncomputable def T_ref42_memory (c : TCore) : Tree (Bool) :=
 .opt (F_ref42_seqs c (W.of .i64 5)) fun r1 =>
 .opt (F_ref42_seqs c (W.of .i64 6)) fun r2 =>
 .ite (W.ne (Sl.len r1) (Sl.len c.Lq)) (.ret false)
 (.ite (W.ne (Sl.len r2) (Sl.len c.Sq)) (.ret false)
 (.opt (L_ref42_memory_13 ((c, r1, r2, (W.of .i64 0), ()))) fun o5 =>
 .sum o5 (fun p6 =>
 .ret p6.2.1)
 (fun o7 =>
 .opt (L_ref42_memory_30 ((o7.1, o7.2.2.1, (W.of .i64 0), ()))) fun o10 =>
 .sum o10 (fun p11 =>
 .ret p11.1)
 (fun o12 =>
 .ret true))))
noncomputable def F_ref42_memory (c : TCore) : Option (Bool) := (T_ref42_memory c).eval
/- cotterel/cotterelref27.is -/
noncomputable def T_ref27_is (f : TPhys) (p : W .i64) : Tree (Bool) :=
 .ite (W.ge p (W.of .i64 0)) (.ite (W.lt p (Sl.len f.Val)) (.ret (W.lt p (Sl.len f.Ready)))
 (.ret false))
 (.ret false)
noncomputable def F_ref27_is (f : TPhys) (p : W .i64) : Option (Bool) := (T_ref27_is f p).eval
/- cotterel/cotterelref27.Get -/
noncomputable def T_ref27_Get (f : TPhys) (p : W .i64) : Tree (W .u32 × Bool) :=
 .opt (F_ref27_is f p) fun r1 =>
 .ite (!r1) (.ret ((W.of .u32 0), true))
 (.opt (Sl.get? f.Ready p) fun y2 =>
 .ite (!y2) (.ret ((W.of .u32 0), false))
 (.opt (Sl.get? f.Val p) fun y3 =>
 .ret (y3, true)))
noncomputable def F_ref27_Get (f : TPhys) (p : W .i64) : Option (W .u32 × Bool) := (T_ref27_Get f p).eval
/- cotterel/cotterelref27.View -/
noncomputable def B_ref27_View_7 (f : TPhys) (m : Arr 16 (W .i64)) (t_4 out : Arr 16 (W .u32)) (r : W .i64) : Tree (Rnd (TPhys × Arr 16 (W .i64) × Arr 16 (W .u32) × Arr 16 (W .u32) × W .i64 × Unit) (Arr 16 (W .u32) × Arr 16 (W .u32) × Unit)) :=
 .ite (W.lt r (W.of .i64 16)) (.opt (idx? 16 r) fun j1 =>
 .opt (F_ref27_Get f (Arr.get m j1)) fun r2 =>
 .opt (idx? 16 r) fun j3 =>
 .ret (.next (f, m, t_4, (Arr.set out j3 r2.1), (W.add r (W.of .i64 1)), ())))
 (.ret (.out (t_4, out, ())))
noncomputable def L_ref27_View_7 (a : TPhys × Arr 16 (W .i64) × Arr 16 (W .u32) × Arr 16 (W .u32) × W .i64 × Unit) : Option (Arr 16 (W .u32) × Arr 16 (W .u32) × Unit) := iter (fun a : TPhys × Arr 16 (W .i64) × Arr 16 (W .u32) × Arr 16 (W .u32) × W .i64 × Unit => (B_ref27_View_7 a.1 a.2.1 a.2.2.1 a.2.2.2.1 a.2.2.2.2.1).eval) fuel a
noncomputable def T_ref27_View (f : TPhys) (m : Arr 16 (W .i64)) : Tree (Arr 16 (W .u32)) :=
 .opt (L_ref27_View_7 ((f, m, (Arr.rep 16 (W.of .u32 0) : Arr 16 (W .u32)), (Arr.rep 16 (W.of .u32 0) : Arr 16 (W .u32)), (W.of .i64 1), ()))) fun o4 =>
 .ret o4.2.1
noncomputable def F_ref27_View (f : TPhys) (m : Arr 16 (W .i64)) : Option (Arr 16 (W .u32)) := (T_ref27_View f m).eval
/- cotterel/cotterelref11.Masked -/
noncomputable def T_ref11_Masked (n_0 : W .i64) : Tree (W .u32) :=
 .ite (W.eq n_0 (W.of .i64 0)) (.ret (W.of .u32 63))
 (.ite (W.eq n_0 (W.of .i64 1)) (.ret (W.of .u32 31))
 (.ite (W.eq n_0 (W.of .i64 9)) (.ret (W.of .u32 7))
 (.ite (W.eq n_0 (W.of .i64 10)) (.ret (W.of .u32 7))
 (.ite (W.eq n_0 (W.of .i64 5)) (.ret (W.of .u32 4294967232))
 (.ite (W.lt n_0 (W.of .i64 0)) (.ret (W.of .u32 0))
 (.ite (W.gt n_0 (W.of .i64 11)) (.ret (W.of .u32 0))
 (.ret (W.of .u32 4294967295))))))))
noncomputable def F_ref11_Masked (n_0 : W .i64) : Option (W .u32) := (T_ref11_Masked n_0).eval
/- cotterel/cotterelref42.control -/
noncomputable def B_ref42_control_5 (a : TArch) (i : W .i64) : Tree (Rnd (TArch × W .i64 × Unit) ((TArch × Bool × Unit) ⊕ (TArch × Unit × Unit))) :=
 .ite (W.lt i (W.of .i64 12)) (.opt (idx? 12 i) fun j1 =>
 .opt (F_ref11_Masked i) fun r2 =>
 .opt (idx? 12 i) fun j3 =>
 .ite (W.ne (W.and (Arr.get a.C j1) r2) (Arr.get a.C j3)) (.ret (.out (.inl (a, false, ()))))
 (.ret (.next (a, (W.add i (W.of .i64 1)), ()))))
 (.ret (.out (.inr (a, (), ()))))
noncomputable def L_ref42_control_5 (a : TArch × W .i64 × Unit) : Option ((TArch × Bool × Unit) ⊕ (TArch × Unit × Unit)) := iter (fun a : TArch × W .i64 × Unit => (B_ref42_control_5 a.1 a.2.1).eval) fuel a
noncomputable def T_ref42_control (a : TArch) : Tree (Bool) :=
 .opt (L_ref42_control_5 ((a, (W.of .i64 0), ()))) fun o4 =>
 .sum o4 (fun p5 =>
 .ret p5.2.1)
 (fun o6 =>
 .ret (W.eq (Arr.get o6.1.R 0) (W.of .u32 0)))
noncomputable def F_ref42_control (a : TArch) : Option (Bool) := (T_ref42_control a).eval
/- cotterel/cotterelref42.there -/
noncomputable def B_ref42_there_5 (c : TCore) (i : W .i64) : Tree (Rnd (TCore × W .i64 × Unit) ((Bool × Unit) ⊕ (Unit × Unit))) :=
 .ite (W.lt i (Sl.len c.Rob)) (.opt (Sl.get? c.Rob i) fun y1 =>
 .ite (!y1.Done) (.ret (.next (c, (W.add i (W.of .i64 1)), ())))
 (.ite (W.ne y1.Cause (W.of .i64 0)) (.ret (.next (c, (W.add i (W.of .i64 1)), ())))
 (.ite (W.eq y1.Ren.Out (W.of .i64 (-1))) (.ret (.next (c, (W.add i (W.of .i64 1)), ())))
 (.opt (F_ref27_Get c.Phys y1.Ren.Out) fun r2 =>
 .ite (!r2.2) (.ret (.out (.inl (false, ()))))
 (.ite (W.ne r2.1 y1.Val) (.ret (.out (.inl (false, ()))))
 (.ret (.next (c, (W.add i (W.of .i64 1)), ()))))))))
 (.ret (.out (.inr ((), ()))))
noncomputable def L_ref42_there_5 (a : TCore × W .i64 × Unit) : Option ((Bool × Unit) ⊕ (Unit × Unit)) := iter (fun a : TCore × W .i64 × Unit => (B_ref42_there_5 a.1 a.2.1).eval) fuel a
noncomputable def T_ref42_there (c : TCore) : Tree (Bool) :=
 .opt (L_ref42_there_5 ((c, (W.of .i64 0), ()))) fun o3 =>
 .sum o3 (fun p4 =>
 .ret p4.1)
 (fun o5 =>
 .ret true)
noncomputable def F_ref42_there (c : TCore) : Option (Bool) := (T_ref42_there c).eval
/- cotterel/cotterelref42.Broken -/
noncomputable def B_ref42_Broken_15 (c : TCore) (out : Sl 8 (W .i64)) (rens : Sl 216 (TRen)) (i : W .i64) : Tree (Rnd (TCore × Sl 8 (W .i64) × Sl 216 (TRen) × W .i64 × Unit) (TCore × Sl 8 (W .i64) × Sl 216 (TRen) × Unit)) :=
 .ite (W.lt i (Sl.len c.Rob)) (.opt (Sl.get? c.Rob i) fun y2 =>
 .opt (Sl.app? rens (Sl.lit 216 [y2.Ren] rfl : Sl 216 (TRen))) fun l3 =>
 .ret (.next (c, out, l3, (W.add i (W.of .i64 1)), ())))
 (.ret (.out (c, out, rens, ())))
noncomputable def L_ref42_Broken_15 (a : TCore × Sl 8 (W .i64) × Sl 216 (TRen) × W .i64 × Unit) : Option (TCore × Sl 8 (W .i64) × Sl 216 (TRen) × Unit) := iter (fun a : TCore × Sl 8 (W .i64) × Sl 216 (TRen) × W .i64 × Unit => (B_ref42_Broken_15 a.1 a.2.1 a.2.2.1 a.2.2.2.1).eval) fuel a
noncomputable def T_ref42_Broken (c : TCore) : Tree (Sl 8 (W .i64)) :=
 .opt (F_ref42_rooms c) fun r1 =>
 .ite (!r1) (.ret (Sl.lit 8 [(W.of .i64 1)] rfl : Sl 8 (W .i64)))
 (.opt (L_ref42_Broken_15 ((c, (Sl.lit 8 [] rfl : Sl 8 (W .i64)), (Sl.lit 216 [] rfl : Sl 216 (TRen)), (W.of .i64 0), ()))) fun o4 =>
 .opt (F_ref29_Right o4.1.Rob) fun r5 =>
 .ite (!r5) (.opt (Sl.app? o4.2.1 (Sl.lit 8 [(W.of .i64 2)] rfl : Sl 8 (W .i64))) fun l6 =>
 .opt (F_ref28_Right o4.1.Names o4.1.Conf.Phys o4.2.2.1) fun r7 =>
 .ite (!r7) (.opt (Sl.app? l6 (Sl.lit 8 [(W.of .i64 3)] rfl : Sl 8 (W .i64))) fun l8 =>
 .opt (F_ref42_queued o4.1) fun r9 =>
 .ite (!r9) (.opt (Sl.app? l8 (Sl.lit 8 [(W.of .i64 4)] rfl : Sl 8 (W .i64))) fun l10 =>
 .opt (F_ref42_flying o4.1) fun r11 =>
 .ite (!r11) (.opt (Sl.app? l10 (Sl.lit 8 [(W.of .i64 5)] rfl : Sl 8 (W .i64))) fun l12 =>
 .opt (F_ref42_memory o4.1) fun r13 =>
 .ite (!r13) (.opt (Sl.app? l12 (Sl.lit 8 [(W.of .i64 6)] rfl : Sl 8 (W .i64))) fun l14 =>
 .opt (F_ref27_View o4.1.Phys o4.1.Names.Done) fun r15 =>
 .ite (!(Tab.eq tab (.arr 16 (.int .u32)) r15 o4.1.A.R)) (.opt (Sl.app? l14 (Sl.lit 8 [(W.of .i64 7)] rfl : Sl 8 (W .i64))) fun l16 =>
 .opt (F_ref42_control o4.1.A) fun r17 =>
 .ite (!r17) (.opt (Sl.app? l16 (Sl.lit 8 [(W.of .i64 8)] rfl : Sl 8 (W .i64))) fun l18 =>
 .opt (F_ref42_there o4.1) fun r19 =>
 .ite (!r19) (.opt (Sl.app? l18 (Sl.lit 8 [(W.of .i64 9)] rfl : Sl 8 (W .i64))) fun l20 =>
 .ret l20)
 (.ret l18))
 (.opt (F_ref42_there o4.1) fun r21 =>
 .ite (!r21) (.opt (Sl.app? l16 (Sl.lit 8 [(W.of .i64 9)] rfl : Sl 8 (W .i64))) fun l22 =>
 .ret l22)
 (.ret l16)))
 (.opt (F_ref42_control o4.1.A) fun r23 =>
 .ite (!r23) (.opt (Sl.app? l14 (Sl.lit 8 [(W.of .i64 8)] rfl : Sl 8 (W .i64))) fun l24 =>
 .opt (F_ref42_there o4.1) fun r25 =>
 .ite (!r25) (.opt (Sl.app? l24 (Sl.lit 8 [(W.of .i64 9)] rfl : Sl 8 (W .i64))) fun l26 =>
 .ret l26)
 (.ret l24))
 (.opt (F_ref42_there o4.1) fun r27 =>
 .ite (!r27) (.opt (Sl.app? l14 (Sl.lit 8 [(W.of .i64 9)] rfl : Sl 8 (W .i64))) fun l28 =>
 .ret l28)
 (.ret l14))))
 (.opt (F_ref27_View o4.1.Phys o4.1.Names.Done) fun r29 =>
 .ite (!(Tab.eq tab (.arr 16 (.int .u32)) r29 o4.1.A.R)) (.opt (Sl.app? l12 (Sl.lit 8 [(W.of .i64 7)] rfl : Sl 8 (W .i64))) fun l30 =>
 .opt (F_ref42_control o4.1.A) fun r31 =>
 .ite (!r31) (.opt (Sl.app? l30 (Sl.lit 8 [(W.of .i64 8)] rfl : Sl 8 (W .i64))) fun l32 =>
 .opt (F_ref42_there o4.1) fun r33 =>
 .ite (!r33) (.opt (Sl.app? l32 (Sl.lit 8 [(W.of .i64 9)] rfl : Sl 8 (W .i64))) fun l34 =>
 .ret l34)
 (.ret l32))
 (.opt (F_ref42_there o4.1) fun r35 =>
 .ite (!r35) (.opt (Sl.app? l30 (Sl.lit 8 [(W.of .i64 9)] rfl : Sl 8 (W .i64))) fun l36 =>
 .ret l36)
 (.ret l30)))
 (.opt (F_ref42_control o4.1.A) fun r37 =>
 .ite (!r37) (.opt (Sl.app? l12 (Sl.lit 8 [(W.of .i64 8)] rfl : Sl 8 (W .i64))) fun l38 =>
 .opt (F_ref42_there o4.1) fun r39 =>
 .ite (!r39) (.opt (Sl.app? l38 (Sl.lit 8 [(W.of .i64 9)] rfl : Sl 8 (W .i64))) fun l40 =>
 .ret l40)
 (.ret l38))
 (.opt (F_ref42_there o4.1) fun r41 =>
 .ite (!r41) (.opt (Sl.app? l12 (Sl.lit 8 [(W.of .i64 9)] rfl : Sl 8 (W .i64))) fun l42 =>
 .ret l42)
 (.ret l12)))))
 (.opt (F_ref42_memory o4.1) fun r43 =>
 .ite (!r43) (.opt (Sl.app? l10 (Sl.lit 8 [(W.of .i64 6)] rfl : Sl 8 (W .i64))) fun l44 =>
 .opt (F_ref27_View o4.1.Phys o4.1.Names.Done) fun r45 =>
 .ite (!(Tab.eq tab (.arr 16 (.int .u32)) r45 o4.1.A.R)) (.opt (Sl.app? l44 (Sl.lit 8 [(W.of .i64 7)] rfl : Sl 8 (W .i64))) fun l46 =>
 .opt (F_ref42_control o4.1.A) fun r47 =>
 .ite (!r47) (.opt (Sl.app? l46 (Sl.lit 8 [(W.of .i64 8)] rfl : Sl 8 (W .i64))) fun l48 =>
 .opt (F_ref42_there o4.1) fun r49 =>
 .ite (!r49) (.opt (Sl.app? l48 (Sl.lit 8 [(W.of .i64 9)] rfl : Sl 8 (W .i64))) fun l50 =>
 .ret l50)
 (.ret l48))
 (.opt (F_ref42_there o4.1) fun r51 =>
 .ite (!r51) (.opt (Sl.app? l46 (Sl.lit 8 [(W.of .i64 9)] rfl : Sl 8 (W .i64))) fun l52 =>
 .ret l52)
 (.ret l46)))
 (.opt (F_ref42_control o4.1.A) fun r53 =>
 .ite (!r53) (.opt (Sl.app? l44 (Sl.lit 8 [(W.of .i64 8)] rfl : Sl 8 (W .i64))) fun l54 =>
 .opt (F_ref42_there o4.1) fun r55 =>
 .ite (!r55) (.opt (Sl.app? l54 (Sl.lit 8 [(W.of .i64 9)] rfl : Sl 8 (W .i64))) fun l56 =>
 .ret l56)
 (.ret l54))
 (.opt (F_ref42_there o4.1) fun r57 =>
 .ite (!r57) (.opt (Sl.app? l44 (Sl.lit 8 [(W.of .i64 9)] rfl : Sl 8 (W .i64))) fun l58 =>
 .ret l58)
 (.ret l44))))
 (.opt (F_ref27_View o4.1.Phys o4.1.Names.Done) fun r59 =>
 .ite (!(Tab.eq tab (.arr 16 (.int .u32)) r59 o4.1.A.R)) (.opt (Sl.app? l10 (Sl.lit 8 [(W.of .i64 7)] rfl : Sl 8 (W .i64))) fun l60 =>
 .opt (F_ref42_control o4.1.A) fun r61 =>
 .ite (!r61) (.opt (Sl.app? l60 (Sl.lit 8 [(W.of .i64 8)] rfl : Sl 8 (W .i64))) fun l62 =>
 .opt (F_ref42_there o4.1) fun r63 =>
 .ite (!r63) (.opt (Sl.app? l62 (Sl.lit 8 [(W.of .i64 9)] rfl : Sl 8 (W .i64))) fun l64 =>
 .ret l64)
 (.ret l62))
 (.opt (F_ref42_there o4.1) fun r65 =>
 .ite (!r65) (.opt (Sl.app? l60 (Sl.lit 8 [(W.of .i64 9)] rfl : Sl 8 (W .i64))) fun l66 =>
 .ret l66)
 (.ret l60)))
 (.opt (F_ref42_control o4.1.A) fun r67 =>
 .ite (!r67) (.opt (Sl.app? l10 (Sl.lit 8 [(W.of .i64 8)] rfl : Sl 8 (W .i64))) fun l68 =>
 .opt (F_ref42_there o4.1) fun r69 =>
 .ite (!r69) (.opt (Sl.app? l68 (Sl.lit 8 [(W.of .i64 9)] rfl : Sl 8 (W .i64))) fun l70 =>
 .ret l70)
 (.ret l68))
 (.opt (F_ref42_there o4.1) fun r71 =>
 .ite (!r71) (.opt (Sl.app? l10 (Sl.lit 8 [(W.of .i64 9)] rfl : Sl 8 (W .i64))) fun l72 =>
 .ret l72)
 (.ret l10))))))
 (.opt (F_ref42_flying o4.1) fun r73 =>
 .ite (!r73) (.opt (Sl.app? l8 (Sl.lit 8 [(W.of .i64 5)] rfl : Sl 8 (W .i64))) fun l74 =>
 .opt (F_ref42_memory o4.1) fun r75 =>
 .ite (!r75) (.opt (Sl.app? l74 (Sl.lit 8 [(W.of .i64 6)] rfl : Sl 8 (W .i64))) fun l76 =>
 .opt (F_ref27_View o4.1.Phys o4.1.Names.Done) fun r77 =>
 .ite (!(Tab.eq tab (.arr 16 (.int .u32)) r77 o4.1.A.R)) (.opt (Sl.app? l76 (Sl.lit 8 [(W.of .i64 7)] rfl : Sl 8 (W .i64))) fun l78 =>
 .opt (F_ref42_control o4.1.A) fun r79 =>
 .ite (!r79) (.opt (Sl.app? l78 (Sl.lit 8 [(W.of .i64 8)] rfl : Sl 8 (W .i64))) fun l80 =>
 .opt (F_ref42_there o4.1) fun r81 =>
 .ite (!r81) (.opt (Sl.app? l80 (Sl.lit 8 [(W.of .i64 9)] rfl : Sl 8 (W .i64))) fun l82 =>
 .ret l82)
 (.ret l80))
 (.opt (F_ref42_there o4.1) fun r83 =>
 .ite (!r83) (.opt (Sl.app? l78 (Sl.lit 8 [(W.of .i64 9)] rfl : Sl 8 (W .i64))) fun l84 =>
 .ret l84)
 (.ret l78)))
 (.opt (F_ref42_control o4.1.A) fun r85 =>
 .ite (!r85) (.opt (Sl.app? l76 (Sl.lit 8 [(W.of .i64 8)] rfl : Sl 8 (W .i64))) fun l86 =>
 .opt (F_ref42_there o4.1) fun r87 =>
 .ite (!r87) (.opt (Sl.app? l86 (Sl.lit 8 [(W.of .i64 9)] rfl : Sl 8 (W .i64))) fun l88 =>
 .ret l88)
 (.ret l86))
 (.opt (F_ref42_there o4.1) fun r89 =>
 .ite (!r89) (.opt (Sl.app? l76 (Sl.lit 8 [(W.of .i64 9)] rfl : Sl 8 (W .i64))) fun l90 =>
 .ret l90)
 (.ret l76))))
 (.opt (F_ref27_View o4.1.Phys o4.1.Names.Done) fun r91 =>
 .ite (!(Tab.eq tab (.arr 16 (.int .u32)) r91 o4.1.A.R)) (.opt (Sl.app? l74 (Sl.lit 8 [(W.of .i64 7)] rfl : Sl 8 (W .i64))) fun l92 =>
 .opt (F_ref42_control o4.1.A) fun r93 =>
 .ite (!r93) (.opt (Sl.app? l92 (Sl.lit 8 [(W.of .i64 8)] rfl : Sl 8 (W .i64))) fun l94 =>
 .opt (F_ref42_there o4.1) fun r95 =>
 .ite (!r95) (.opt (Sl.app? l94 (Sl.lit 8 [(W.of .i64 9)] rfl : Sl 8 (W .i64))) fun l96 =>
 .ret l96)
 (.ret l94))
 (.opt (F_ref42_there o4.1) fun r97 =>
 .ite (!r97) (.opt (Sl.app? l92 (Sl.lit 8 [(W.of .i64 9)] rfl : Sl 8 (W .i64))) fun l98 =>
 .ret l98)
 (.ret l92)))
 (.opt (F_ref42_control o4.1.A) fun r99 =>
 .ite (!r99) (.opt (Sl.app? l74 (Sl.lit 8 [(W.of .i64 8)] rfl : Sl 8 (W .i64))) fun l100 =>
 .opt (F_ref42_there o4.1) fun r101 =>
 .ite (!r101) (.opt (Sl.app? l100 (Sl.lit 8 [(W.of .i64 9)] rfl : Sl 8 (W .i64))) fun l102 =>
 .ret l102)
 (.ret l100))
 (.opt (F_ref42_there o4.1) fun r103 =>
 .ite (!r103) (.opt (Sl.app? l74 (Sl.lit 8 [(W.of .i64 9)] rfl : Sl 8 (W .i64))) fun l104 =>
 .ret l104)
 (.ret l74)))))
 (.opt (F_ref42_memory o4.1) fun r105 =>
 .ite (!r105) (.opt (Sl.app? l8 (Sl.lit 8 [(W.of .i64 6)] rfl : Sl 8 (W .i64))) fun l106 =>
 .opt (F_ref27_View o4.1.Phys o4.1.Names.Done) fun r107 =>
 .ite (!(Tab.eq tab (.arr 16 (.int .u32)) r107 o4.1.A.R)) (.opt (Sl.app? l106 (Sl.lit 8 [(W.of .i64 7)] rfl : Sl 8 (W .i64))) fun l108 =>
 .opt (F_ref42_control o4.1.A) fun r109 =>
 .ite (!r109) (.opt (Sl.app? l108 (Sl.lit 8 [(W.of .i64 8)] rfl : Sl 8 (W .i64))) fun l110 =>
 .opt (F_ref42_there o4.1) fun r111 =>
 .ite (!r111) (.opt (Sl.app? l110 (Sl.lit 8 [(W.of .i64 9)] rfl : Sl 8 (W .i64))) fun l112 =>
 .ret l112)
 (.ret l110))
 (.opt (F_ref42_there o4.1) fun r113 =>
 .ite (!r113) (.opt (Sl.app? l108 (Sl.lit 8 [(W.of .i64 9)] rfl : Sl 8 (W .i64))) fun l114 =>
 .ret l114)
 (.ret l108)))
 (.opt (F_ref42_control o4.1.A) fun r115 =>
 .ite (!r115) (.opt (Sl.app? l106 (Sl.lit 8 [(W.of .i64 8)] rfl : Sl 8 (W .i64))) fun l116 =>
 .opt (F_ref42_there o4.1) fun r117 =>
 .ite (!r117) (.opt (Sl.app? l116 (Sl.lit 8 [(W.of .i64 9)] rfl : Sl 8 (W .i64))) fun l118 =>
 .ret l118)
 (.ret l116))
 (.opt (F_ref42_there o4.1) fun r119 =>
 .ite (!r119) (.opt (Sl.app? l106 (Sl.lit 8 [(W.of .i64 9)] rfl : Sl 8 (W .i64))) fun l120 =>
 .ret l120)
 (.ret l106))))
 (.opt (F_ref27_View o4.1.Phys o4.1.Names.Done) fun r121 =>
 .ite (!(Tab.eq tab (.arr 16 (.int .u32)) r121 o4.1.A.R)) (.opt (Sl.app? l8 (Sl.lit 8 [(W.of .i64 7)] rfl : Sl 8 (W .i64))) fun l122 =>
 .opt (F_ref42_control o4.1.A) fun r123 =>
 .ite (!r123) (.opt (Sl.app? l122 (Sl.lit 8 [(W.of .i64 8)] rfl : Sl 8 (W .i64))) fun l124 =>
 .opt (F_ref42_there o4.1) fun r125 =>
 .ite (!r125) (.opt (Sl.app? l124 (Sl.lit 8 [(W.of .i64 9)] rfl : Sl 8 (W .i64))) fun l126 =>
 .ret l126)
 (.ret l124))
 (.opt (F_ref42_there o4.1) fun r127 =>
 .ite (!r127) (.opt (Sl.app? l122 (Sl.lit 8 [(W.of .i64 9)] rfl : Sl 8 (W .i64))) fun l128 =>
 .ret l128)
 (.ret l122)))
 (.opt (F_ref42_control o4.1.A) fun r129 =>
 .ite (!r129) (.opt (Sl.app? l8 (Sl.lit 8 [(W.of .i64 8)] rfl : Sl 8 (W .i64))) fun l130 =>
 .opt (F_ref42_there o4.1) fun r131 =>
 .ite (!r131) (.opt (Sl.app? l130 (Sl.lit 8 [(W.of .i64 9)] rfl : Sl 8 (W .i64))) fun l132 =>
 .ret l132)
 (.ret l130))
 (.opt (F_ref42_there o4.1) fun r133 =>
 .ite (!r133) (.opt (Sl.app? l8 (Sl.lit 8 [(W.of .i64 9)] rfl : Sl 8 (W .i64))) fun l134 =>
 .ret l134)
 (.ret l8)))))))
 (.opt (F_ref42_queued o4.1) fun r135 =>
 .ite (!r135) (.opt (Sl.app? l6 (Sl.lit 8 [(W.of .i64 4)] rfl : Sl 8 (W .i64))) fun l136 =>
 .opt (F_ref42_flying o4.1) fun r137 =>
 .ite (!r137) (.opt (Sl.app? l136 (Sl.lit 8 [(W.of .i64 5)] rfl : Sl 8 (W .i64))) fun l138 =>
 .opt (F_ref42_memory o4.1) fun r139 =>
 .ite (!r139) (.opt (Sl.app? l138 (Sl.lit 8 [(W.of .i64 6)] rfl : Sl 8 (W .i64))) fun l140 =>
 .opt (F_ref27_View o4.1.Phys o4.1.Names.Done) fun r141 =>
 .ite (!(Tab.eq tab (.arr 16 (.int .u32)) r141 o4.1.A.R)) (.opt (Sl.app? l140 (Sl.lit 8 [(W.of .i64 7)] rfl : Sl 8 (W .i64))) fun l142 =>
 .opt (F_ref42_control o4.1.A) fun r143 =>
 .ite (!r143) (.opt (Sl.app? l142 (Sl.lit 8 [(W.of .i64 8)] rfl : Sl 8 (W .i64))) fun l144 =>
 .opt (F_ref42_there o4.1) fun r145 =>
 .ite (!r145) (.opt (Sl.app? l144 (Sl.lit 8 [(W.of .i64 9)] rfl : Sl 8 (W .i64))) fun l146 =>
 .ret l146)
 (.ret l144))
 (.opt (F_ref42_there o4.1) fun r147 =>
 .ite (!r147) (.opt (Sl.app? l142 (Sl.lit 8 [(W.of .i64 9)] rfl : Sl 8 (W .i64))) fun l148 =>
 .ret l148)
 (.ret l142)))
 (.opt (F_ref42_control o4.1.A) fun r149 =>
 .ite (!r149) (.opt (Sl.app? l140 (Sl.lit 8 [(W.of .i64 8)] rfl : Sl 8 (W .i64))) fun l150 =>
 .opt (F_ref42_there o4.1) fun r151 =>
 .ite (!r151) (.opt (Sl.app? l150 (Sl.lit 8 [(W.of .i64 9)] rfl : Sl 8 (W .i64))) fun l152 =>
 .ret l152)
 (.ret l150))
 (.opt (F_ref42_there o4.1) fun r153 =>
 .ite (!r153) (.opt (Sl.app? l140 (Sl.lit 8 [(W.of .i64 9)] rfl : Sl 8 (W .i64))) fun l154 =>
 .ret l154)
 (.ret l140))))
 (.opt (F_ref27_View o4.1.Phys o4.1.Names.Done) fun r155 =>
 .ite (!(Tab.eq tab (.arr 16 (.int .u32)) r155 o4.1.A.R)) (.opt (Sl.app? l138 (Sl.lit 8 [(W.of .i64 7)] rfl : Sl 8 (W .i64))) fun l156 =>
 .opt (F_ref42_control o4.1.A) fun r157 =>
 .ite (!r157) (.opt (Sl.app? l156 (Sl.lit 8 [(W.of .i64 8)] rfl : Sl 8 (W .i64))) fun l158 =>
 .opt (F_ref42_there o4.1) fun r159 =>
 .ite (!r159) (.opt (Sl.app? l158 (Sl.lit 8 [(W.of .i64 9)] rfl : Sl 8 (W .i64))) fun l160 =>
 .ret l160)
 (.ret l158))
 (.opt (F_ref42_there o4.1) fun r161 =>
 .ite (!r161) (.opt (Sl.app? l156 (Sl.lit 8 [(W.of .i64 9)] rfl : Sl 8 (W .i64))) fun l162 =>
 .ret l162)
 (.ret l156)))
 (.opt (F_ref42_control o4.1.A) fun r163 =>
 .ite (!r163) (.opt (Sl.app? l138 (Sl.lit 8 [(W.of .i64 8)] rfl : Sl 8 (W .i64))) fun l164 =>
 .opt (F_ref42_there o4.1) fun r165 =>
 .ite (!r165) (.opt (Sl.app? l164 (Sl.lit 8 [(W.of .i64 9)] rfl : Sl 8 (W .i64))) fun l166 =>
 .ret l166)
 (.ret l164))
 (.opt (F_ref42_there o4.1) fun r167 =>
 .ite (!r167) (.opt (Sl.app? l138 (Sl.lit 8 [(W.of .i64 9)] rfl : Sl 8 (W .i64))) fun l168 =>
 .ret l168)
 (.ret l138)))))
 (.opt (F_ref42_memory o4.1) fun r169 =>
 .ite (!r169) (.opt (Sl.app? l136 (Sl.lit 8 [(W.of .i64 6)] rfl : Sl 8 (W .i64))) fun l170 =>
 .opt (F_ref27_View o4.1.Phys o4.1.Names.Done) fun r171 =>
 .ite (!(Tab.eq tab (.arr 16 (.int .u32)) r171 o4.1.A.R)) (.opt (Sl.app? l170 (Sl.lit 8 [(W.of .i64 7)] rfl : Sl 8 (W .i64))) fun l172 =>
 .opt (F_ref42_control o4.1.A) fun r173 =>
 .ite (!r173) (.opt (Sl.app? l172 (Sl.lit 8 [(W.of .i64 8)] rfl : Sl 8 (W .i64))) fun l174 =>
 .opt (F_ref42_there o4.1) fun r175 =>
 .ite (!r175) (.opt (Sl.app? l174 (Sl.lit 8 [(W.of .i64 9)] rfl : Sl 8 (W .i64))) fun l176 =>
 .ret l176)
 (.ret l174))
 (.opt (F_ref42_there o4.1) fun r177 =>
 .ite (!r177) (.opt (Sl.app? l172 (Sl.lit 8 [(W.of .i64 9)] rfl : Sl 8 (W .i64))) fun l178 =>
 .ret l178)
 (.ret l172)))
 (.opt (F_ref42_control o4.1.A) fun r179 =>
 .ite (!r179) (.opt (Sl.app? l170 (Sl.lit 8 [(W.of .i64 8)] rfl : Sl 8 (W .i64))) fun l180 =>
 .opt (F_ref42_there o4.1) fun r181 =>
 .ite (!r181) (.opt (Sl.app? l180 (Sl.lit 8 [(W.of .i64 9)] rfl : Sl 8 (W .i64))) fun l182 =>
 .ret l182)
 (.ret l180))
 (.opt (F_ref42_there o4.1) fun r183 =>
 .ite (!r183) (.opt (Sl.app? l170 (Sl.lit 8 [(W.of .i64 9)] rfl : Sl 8 (W .i64))) fun l184 =>
 .ret l184)
 (.ret l170))))
 (.opt (F_ref27_View o4.1.Phys o4.1.Names.Done) fun r185 =>
 .ite (!(Tab.eq tab (.arr 16 (.int .u32)) r185 o4.1.A.R)) (.opt (Sl.app? l136 (Sl.lit 8 [(W.of .i64 7)] rfl : Sl 8 (W .i64))) fun l186 =>
 .opt (F_ref42_control o4.1.A) fun r187 =>
 .ite (!r187) (.opt (Sl.app? l186 (Sl.lit 8 [(W.of .i64 8)] rfl : Sl 8 (W .i64))) fun l188 =>
 .opt (F_ref42_there o4.1) fun r189 =>
 .ite (!r189) (.opt (Sl.app? l188 (Sl.lit 8 [(W.of .i64 9)] rfl : Sl 8 (W .i64))) fun l190 =>
 .ret l190)
 (.ret l188))
 (.opt (F_ref42_there o4.1) fun r191 =>
 .ite (!r191) (.opt (Sl.app? l186 (Sl.lit 8 [(W.of .i64 9)] rfl : Sl 8 (W .i64))) fun l192 =>
 .ret l192)
 (.ret l186)))
 (.opt (F_ref42_control o4.1.A) fun r193 =>
 .ite (!r193) (.opt (Sl.app? l136 (Sl.lit 8 [(W.of .i64 8)] rfl : Sl 8 (W .i64))) fun l194 =>
 .opt (F_ref42_there o4.1) fun r195 =>
 .ite (!r195) (.opt (Sl.app? l194 (Sl.lit 8 [(W.of .i64 9)] rfl : Sl 8 (W .i64))) fun l196 =>
 .ret l196)
 (.ret l194))
 (.opt (F_ref42_there o4.1) fun r197 =>
 .ite (!r197) (.opt (Sl.app? l136 (Sl.lit 8 [(W.of .i64 9)] rfl : Sl 8 (W .i64))) fun l198 =>
 .ret l198)
 (.ret l136))))))
 (.opt (F_ref42_flying o4.1) fun r199 =>
 .ite (!r199) (.opt (Sl.app? l6 (Sl.lit 8 [(W.of .i64 5)] rfl : Sl 8 (W .i64))) fun l200 =>
 .opt (F_ref42_memory o4.1) fun r201 =>
 .ite (!r201) (.opt (Sl.app? l200 (Sl.lit 8 [(W.of .i64 6)] rfl : Sl 8 (W .i64))) fun l202 =>
 .opt (F_ref27_View o4.1.Phys o4.1.Names.Done) fun r203 =>
 .ite (!(Tab.eq tab (.arr 16 (.int .u32)) r203 o4.1.A.R)) (.opt (Sl.app? l202 (Sl.lit 8 [(W.of .i64 7)] rfl : Sl 8 (W .i64))) fun l204 =>
 .opt (F_ref42_control o4.1.A) fun r205 =>
 .ite (!r205) (.opt (Sl.app? l204 (Sl.lit 8 [(W.of .i64 8)] rfl : Sl 8 (W .i64))) fun l206 =>
 .opt (F_ref42_there o4.1) fun r207 =>
 .ite (!r207) (.opt (Sl.app? l206 (Sl.lit 8 [(W.of .i64 9)] rfl : Sl 8 (W .i64))) fun l208 =>
 .ret l208)
 (.ret l206))
 (.opt (F_ref42_there o4.1) fun r209 =>
 .ite (!r209) (.opt (Sl.app? l204 (Sl.lit 8 [(W.of .i64 9)] rfl : Sl 8 (W .i64))) fun l210 =>
 .ret l210)
 (.ret l204)))
 (.opt (F_ref42_control o4.1.A) fun r211 =>
 .ite (!r211) (.opt (Sl.app? l202 (Sl.lit 8 [(W.of .i64 8)] rfl : Sl 8 (W .i64))) fun l212 =>
 .opt (F_ref42_there o4.1) fun r213 =>
 .ite (!r213) (.opt (Sl.app? l212 (Sl.lit 8 [(W.of .i64 9)] rfl : Sl 8 (W .i64))) fun l214 =>
 .ret l214)
 (.ret l212))
 (.opt (F_ref42_there o4.1) fun r215 =>
 .ite (!r215) (.opt (Sl.app? l202 (Sl.lit 8 [(W.of .i64 9)] rfl : Sl 8 (W .i64))) fun l216 =>
 .ret l216)
 (.ret l202))))
 (.opt (F_ref27_View o4.1.Phys o4.1.Names.Done) fun r217 =>
 .ite (!(Tab.eq tab (.arr 16 (.int .u32)) r217 o4.1.A.R)) (.opt (Sl.app? l200 (Sl.lit 8 [(W.of .i64 7)] rfl : Sl 8 (W .i64))) fun l218 =>
 .opt (F_ref42_control o4.1.A) fun r219 =>
 .ite (!r219) (.opt (Sl.app? l218 (Sl.lit 8 [(W.of .i64 8)] rfl : Sl 8 (W .i64))) fun l220 =>
 .opt (F_ref42_there o4.1) fun r221 =>
 .ite (!r221) (.opt (Sl.app? l220 (Sl.lit 8 [(W.of .i64 9)] rfl : Sl 8 (W .i64))) fun l222 =>
 .ret l222)
 (.ret l220))
 (.opt (F_ref42_there o4.1) fun r223 =>
 .ite (!r223) (.opt (Sl.app? l218 (Sl.lit 8 [(W.of .i64 9)] rfl : Sl 8 (W .i64))) fun l224 =>
 .ret l224)
 (.ret l218)))
 (.opt (F_ref42_control o4.1.A) fun r225 =>
 .ite (!r225) (.opt (Sl.app? l200 (Sl.lit 8 [(W.of .i64 8)] rfl : Sl 8 (W .i64))) fun l226 =>
 .opt (F_ref42_there o4.1) fun r227 =>
 .ite (!r227) (.opt (Sl.app? l226 (Sl.lit 8 [(W.of .i64 9)] rfl : Sl 8 (W .i64))) fun l228 =>
 .ret l228)
 (.ret l226))
 (.opt (F_ref42_there o4.1) fun r229 =>
 .ite (!r229) (.opt (Sl.app? l200 (Sl.lit 8 [(W.of .i64 9)] rfl : Sl 8 (W .i64))) fun l230 =>
 .ret l230)
 (.ret l200)))))
 (.opt (F_ref42_memory o4.1) fun r231 =>
 .ite (!r231) (.opt (Sl.app? l6 (Sl.lit 8 [(W.of .i64 6)] rfl : Sl 8 (W .i64))) fun l232 =>
 .opt (F_ref27_View o4.1.Phys o4.1.Names.Done) fun r233 =>
 .ite (!(Tab.eq tab (.arr 16 (.int .u32)) r233 o4.1.A.R)) (.opt (Sl.app? l232 (Sl.lit 8 [(W.of .i64 7)] rfl : Sl 8 (W .i64))) fun l234 =>
 .opt (F_ref42_control o4.1.A) fun r235 =>
 .ite (!r235) (.opt (Sl.app? l234 (Sl.lit 8 [(W.of .i64 8)] rfl : Sl 8 (W .i64))) fun l236 =>
 .opt (F_ref42_there o4.1) fun r237 =>
 .ite (!r237) (.opt (Sl.app? l236 (Sl.lit 8 [(W.of .i64 9)] rfl : Sl 8 (W .i64))) fun l238 =>
 .ret l238)
 (.ret l236))
 (.opt (F_ref42_there o4.1) fun r239 =>
 .ite (!r239) (.opt (Sl.app? l234 (Sl.lit 8 [(W.of .i64 9)] rfl : Sl 8 (W .i64))) fun l240 =>
 .ret l240)
 (.ret l234)))
 (.opt (F_ref42_control o4.1.A) fun r241 =>
 .ite (!r241) (.opt (Sl.app? l232 (Sl.lit 8 [(W.of .i64 8)] rfl : Sl 8 (W .i64))) fun l242 =>
 .opt (F_ref42_there o4.1) fun r243 =>
 .ite (!r243) (.opt (Sl.app? l242 (Sl.lit 8 [(W.of .i64 9)] rfl : Sl 8 (W .i64))) fun l244 =>
 .ret l244)
 (.ret l242))
 (.opt (F_ref42_there o4.1) fun r245 =>
 .ite (!r245) (.opt (Sl.app? l232 (Sl.lit 8 [(W.of .i64 9)] rfl : Sl 8 (W .i64))) fun l246 =>
 .ret l246)
 (.ret l232))))
 (.opt (F_ref27_View o4.1.Phys o4.1.Names.Done) fun r247 =>
 .ite (!(Tab.eq tab (.arr 16 (.int .u32)) r247 o4.1.A.R)) (.opt (Sl.app? l6 (Sl.lit 8 [(W.of .i64 7)] rfl : Sl 8 (W .i64))) fun l248 =>
 .opt (F_ref42_control o4.1.A) fun r249 =>
 .ite (!r249) (.opt (Sl.app? l248 (Sl.lit 8 [(W.of .i64 8)] rfl : Sl 8 (W .i64))) fun l250 =>
 .opt (F_ref42_there o4.1) fun r251 =>
 .ite (!r251) (.opt (Sl.app? l250 (Sl.lit 8 [(W.of .i64 9)] rfl : Sl 8 (W .i64))) fun l252 =>
 .ret l252)
 (.ret l250))
 (.opt (F_ref42_there o4.1) fun r253 =>
 .ite (!r253) (.opt (Sl.app? l248 (Sl.lit 8 [(W.of .i64 9)] rfl : Sl 8 (W .i64))) fun l254 =>
 .ret l254)
 (.ret l248)))
 (.opt (F_ref42_control o4.1.A) fun r255 =>
 .ite (!r255) (.opt (Sl.app? l6 (Sl.lit 8 [(W.of .i64 8)] rfl : Sl 8 (W .i64))) fun l256 =>
 .opt (F_ref42_there o4.1) fun r257 =>
 .ite (!r257) (.opt (Sl.app? l256 (Sl.lit 8 [(W.of .i64 9)] rfl : Sl 8 (W .i64))) fun l258 =>
 .ret l258)
 (.ret l256))
 (.opt (F_ref42_there o4.1) fun r259 =>
 .ite (!r259) (.opt (Sl.app? l6 (Sl.lit 8 [(W.of .i64 9)] rfl : Sl 8 (W .i64))) fun l260 =>
 .ret l260)
 (.ret l6))))))))
 (.ite (W.gt (Sl.len o4.1.Rob) (W.of .i64 0)) (.opt (Sl.get? o4.1.Rob (W.sub (Sl.len o4.1.Rob) (W.of .i64 1))) fun y261 =>
 .ite (W.ge y261.Ren.Seq o4.1.Names.Seq) (.opt (Sl.app? o4.2.1 (Sl.lit 8 [(W.of .i64 2)] rfl : Sl 8 (W .i64))) fun l262 =>
 .opt (F_ref28_Right o4.1.Names o4.1.Conf.Phys o4.2.2.1) fun r263 =>
 .ite (!r263) (.opt (Sl.app? l262 (Sl.lit 8 [(W.of .i64 3)] rfl : Sl 8 (W .i64))) fun l264 =>
 .opt (F_ref42_queued o4.1) fun r265 =>
 .ite (!r265) (.opt (Sl.app? l264 (Sl.lit 8 [(W.of .i64 4)] rfl : Sl 8 (W .i64))) fun l266 =>
 .opt (F_ref42_flying o4.1) fun r267 =>
 .ite (!r267) (.opt (Sl.app? l266 (Sl.lit 8 [(W.of .i64 5)] rfl : Sl 8 (W .i64))) fun l268 =>
 .opt (F_ref42_memory o4.1) fun r269 =>
 .ite (!r269) (.opt (Sl.app? l268 (Sl.lit 8 [(W.of .i64 6)] rfl : Sl 8 (W .i64))) fun l270 =>
 .opt (F_ref27_View o4.1.Phys o4.1.Names.Done) fun r271 =>
 .ite (!(Tab.eq tab (.arr 16 (.int .u32)) r271 o4.1.A.R)) (.opt (Sl.app? l270 (Sl.lit 8 [(W.of .i64 7)] rfl : Sl 8 (W .i64))) fun l272 =>
 .opt (F_ref42_control o4.1.A) fun r273 =>
 .ite (!r273) (.opt (Sl.app? l272 (Sl.lit 8 [(W.of .i64 8)] rfl : Sl 8 (W .i64))) fun l274 =>
 .opt (F_ref42_there o4.1) fun r275 =>
 .ite (!r275) (.opt (Sl.app? l274 (Sl.lit 8 [(W.of .i64 9)] rfl : Sl 8 (W .i64))) fun l276 =>
 .ret l276)
 (.ret l274))
 (.opt (F_ref42_there o4.1) fun r277 =>
 .ite (!r277) (.opt (Sl.app? l272 (Sl.lit 8 [(W.of .i64 9)] rfl : Sl 8 (W .i64))) fun l278 =>
 .ret l278)
 (.ret l272)))
 (.opt (F_ref42_control o4.1.A) fun r279 =>
 .ite (!r279) (.opt (Sl.app? l270 (Sl.lit 8 [(W.of .i64 8)] rfl : Sl 8 (W .i64))) fun l280 =>
 .opt (F_ref42_there o4.1) fun r281 =>
 .ite (!r281) (.opt (Sl.app? l280 (Sl.lit 8 [(W.of .i64 9)] rfl : Sl 8 (W .i64))) fun l282 =>
 .ret l282)
 (.ret l280))
 (.opt (F_ref42_there o4.1) fun r283 =>
 .ite (!r283) (.opt (Sl.app? l270 (Sl.lit 8 [(W.of .i64 9)] rfl : Sl 8 (W .i64))) fun l284 =>
 .ret l284)
 (.ret l270))))
 (.opt (F_ref27_View o4.1.Phys o4.1.Names.Done) fun r285 =>
 .ite (!(Tab.eq tab (.arr 16 (.int .u32)) r285 o4.1.A.R)) (.opt (Sl.app? l268 (Sl.lit 8 [(W.of .i64 7)] rfl : Sl 8 (W .i64))) fun l286 =>
 .opt (F_ref42_control o4.1.A) fun r287 =>
 .ite (!r287) (.opt (Sl.app? l286 (Sl.lit 8 [(W.of .i64 8)] rfl : Sl 8 (W .i64))) fun l288 =>
 .opt (F_ref42_there o4.1) fun r289 =>
 .ite (!r289) (.opt (Sl.app? l288 (Sl.lit 8 [(W.of .i64 9)] rfl : Sl 8 (W .i64))) fun l290 =>
 .ret l290)
 (.ret l288))
 (.opt (F_ref42_there o4.1) fun r291 =>
 .ite (!r291) (.opt (Sl.app? l286 (Sl.lit 8 [(W.of .i64 9)] rfl : Sl 8 (W .i64))) fun l292 =>
 .ret l292)
 (.ret l286)))
 (.opt (F_ref42_control o4.1.A) fun r293 =>
 .ite (!r293) (.opt (Sl.app? l268 (Sl.lit 8 [(W.of .i64 8)] rfl : Sl 8 (W .i64))) fun l294 =>
 .opt (F_ref42_there o4.1) fun r295 =>
 .ite (!r295) (.opt (Sl.app? l294 (Sl.lit 8 [(W.of .i64 9)] rfl : Sl 8 (W .i64))) fun l296 =>
 .ret l296)
 (.ret l294))
 (.opt (F_ref42_there o4.1) fun r297 =>
 .ite (!r297) (.opt (Sl.app? l268 (Sl.lit 8 [(W.of .i64 9)] rfl : Sl 8 (W .i64))) fun l298 =>
 .ret l298)
 (.ret l268)))))
 (.opt (F_ref42_memory o4.1) fun r299 =>
 .ite (!r299) (.opt (Sl.app? l266 (Sl.lit 8 [(W.of .i64 6)] rfl : Sl 8 (W .i64))) fun l300 =>
 .opt (F_ref27_View o4.1.Phys o4.1.Names.Done) fun r301 =>
 .ite (!(Tab.eq tab (.arr 16 (.int .u32)) r301 o4.1.A.R)) (.opt (Sl.app? l300 (Sl.lit 8 [(W.of .i64 7)] rfl : Sl 8 (W .i64))) fun l302 =>
 .opt (F_ref42_control o4.1.A) fun r303 =>
 .ite (!r303) (.opt (Sl.app? l302 (Sl.lit 8 [(W.of .i64 8)] rfl : Sl 8 (W .i64))) fun l304 =>
 .opt (F_ref42_there o4.1) fun r305 =>
 .ite (!r305) (.opt (Sl.app? l304 (Sl.lit 8 [(W.of .i64 9)] rfl : Sl 8 (W .i64))) fun l306 =>
 .ret l306)
 (.ret l304))
 (.opt (F_ref42_there o4.1) fun r307 =>
 .ite (!r307) (.opt (Sl.app? l302 (Sl.lit 8 [(W.of .i64 9)] rfl : Sl 8 (W .i64))) fun l308 =>
 .ret l308)
 (.ret l302)))
 (.opt (F_ref42_control o4.1.A) fun r309 =>
 .ite (!r309) (.opt (Sl.app? l300 (Sl.lit 8 [(W.of .i64 8)] rfl : Sl 8 (W .i64))) fun l310 =>
 .opt (F_ref42_there o4.1) fun r311 =>
 .ite (!r311) (.opt (Sl.app? l310 (Sl.lit 8 [(W.of .i64 9)] rfl : Sl 8 (W .i64))) fun l312 =>
 .ret l312)
 (.ret l310))
 (.opt (F_ref42_there o4.1) fun r313 =>
 .ite (!r313) (.opt (Sl.app? l300 (Sl.lit 8 [(W.of .i64 9)] rfl : Sl 8 (W .i64))) fun l314 =>
 .ret l314)
 (.ret l300))))
 (.opt (F_ref27_View o4.1.Phys o4.1.Names.Done) fun r315 =>
 .ite (!(Tab.eq tab (.arr 16 (.int .u32)) r315 o4.1.A.R)) (.opt (Sl.app? l266 (Sl.lit 8 [(W.of .i64 7)] rfl : Sl 8 (W .i64))) fun l316 =>
 .opt (F_ref42_control o4.1.A) fun r317 =>
 .ite (!r317) (.opt (Sl.app? l316 (Sl.lit 8 [(W.of .i64 8)] rfl : Sl 8 (W .i64))) fun l318 =>
 .opt (F_ref42_there o4.1) fun r319 =>
 .ite (!r319) (.opt (Sl.app? l318 (Sl.lit 8 [(W.of .i64 9)] rfl : Sl 8 (W .i64))) fun l320 =>
 .ret l320)
 (.ret l318))
 (.opt (F_ref42_there o4.1) fun r321 =>
 .ite (!r321) (.opt (Sl.app? l316 (Sl.lit 8 [(W.of .i64 9)] rfl : Sl 8 (W .i64))) fun l322 =>
 .ret l322)
 (.ret l316)))
 (.opt (F_ref42_control o4.1.A) fun r323 =>
 .ite (!r323) (.opt (Sl.app? l266 (Sl.lit 8 [(W.of .i64 8)] rfl : Sl 8 (W .i64))) fun l324 =>
 .opt (F_ref42_there o4.1) fun r325 =>
 .ite (!r325) (.opt (Sl.app? l324 (Sl.lit 8 [(W.of .i64 9)] rfl : Sl 8 (W .i64))) fun l326 =>
 .ret l326)
 (.ret l324))
 (.opt (F_ref42_there o4.1) fun r327 =>
 .ite (!r327) (.opt (Sl.app? l266 (Sl.lit 8 [(W.of .i64 9)] rfl : Sl 8 (W .i64))) fun l328 =>
 .ret l328)
 (.ret l266))))))
 (.opt (F_ref42_flying o4.1) fun r329 =>
 .ite (!r329) (.opt (Sl.app? l264 (Sl.lit 8 [(W.of .i64 5)] rfl : Sl 8 (W .i64))) fun l330 =>
 .opt (F_ref42_memory o4.1) fun r331 =>
 .ite (!r331) (.opt (Sl.app? l330 (Sl.lit 8 [(W.of .i64 6)] rfl : Sl 8 (W .i64))) fun l332 =>
 .opt (F_ref27_View o4.1.Phys o4.1.Names.Done) fun r333 =>
 .ite (!(Tab.eq tab (.arr 16 (.int .u32)) r333 o4.1.A.R)) (.opt (Sl.app? l332 (Sl.lit 8 [(W.of .i64 7)] rfl : Sl 8 (W .i64))) fun l334 =>
 .opt (F_ref42_control o4.1.A) fun r335 =>
 .ite (!r335) (.opt (Sl.app? l334 (Sl.lit 8 [(W.of .i64 8)] rfl : Sl 8 (W .i64))) fun l336 =>
 .opt (F_ref42_there o4.1) fun r337 =>
 .ite (!r337) (.opt (Sl.app? l336 (Sl.lit 8 [(W.of .i64 9)] rfl : Sl 8 (W .i64))) fun l338 =>
 .ret l338)
 (.ret l336))
 (.opt (F_ref42_there o4.1) fun r339 =>
 .ite (!r339) (.opt (Sl.app? l334 (Sl.lit 8 [(W.of .i64 9)] rfl : Sl 8 (W .i64))) fun l340 =>
 .ret l340)
 (.ret l334)))
 (.opt (F_ref42_control o4.1.A) fun r341 =>
 .ite (!r341) (.opt (Sl.app? l332 (Sl.lit 8 [(W.of .i64 8)] rfl : Sl 8 (W .i64))) fun l342 =>
 .opt (F_ref42_there o4.1) fun r343 =>
 .ite (!r343) (.opt (Sl.app? l342 (Sl.lit 8 [(W.of .i64 9)] rfl : Sl 8 (W .i64))) fun l344 =>
 .ret l344)
 (.ret l342))
 (.opt (F_ref42_there o4.1) fun r345 =>
 .ite (!r345) (.opt (Sl.app? l332 (Sl.lit 8 [(W.of .i64 9)] rfl : Sl 8 (W .i64))) fun l346 =>
 .ret l346)
 (.ret l332))))
 (.opt (F_ref27_View o4.1.Phys o4.1.Names.Done) fun r347 =>
 .ite (!(Tab.eq tab (.arr 16 (.int .u32)) r347 o4.1.A.R)) (.opt (Sl.app? l330 (Sl.lit 8 [(W.of .i64 7)] rfl : Sl 8 (W .i64))) fun l348 =>
 .opt (F_ref42_control o4.1.A) fun r349 =>
 .ite (!r349) (.opt (Sl.app? l348 (Sl.lit 8 [(W.of .i64 8)] rfl : Sl 8 (W .i64))) fun l350 =>
 .opt (F_ref42_there o4.1) fun r351 =>
 .ite (!r351) (.opt (Sl.app? l350 (Sl.lit 8 [(W.of .i64 9)] rfl : Sl 8 (W .i64))) fun l352 =>
 .ret l352)
 (.ret l350))
 (.opt (F_ref42_there o4.1) fun r353 =>
 .ite (!r353) (.opt (Sl.app? l348 (Sl.lit 8 [(W.of .i64 9)] rfl : Sl 8 (W .i64))) fun l354 =>
 .ret l354)
 (.ret l348)))
 (.opt (F_ref42_control o4.1.A) fun r355 =>
 .ite (!r355) (.opt (Sl.app? l330 (Sl.lit 8 [(W.of .i64 8)] rfl : Sl 8 (W .i64))) fun l356 =>
 .opt (F_ref42_there o4.1) fun r357 =>
 .ite (!r357) (.opt (Sl.app? l356 (Sl.lit 8 [(W.of .i64 9)] rfl : Sl 8 (W .i64))) fun l358 =>
 .ret l358)
 (.ret l356))
 (.opt (F_ref42_there o4.1) fun r359 =>
 .ite (!r359) (.opt (Sl.app? l330 (Sl.lit 8 [(W.of .i64 9)] rfl : Sl 8 (W .i64))) fun l360 =>
 .ret l360)
 (.ret l330)))))
 (.opt (F_ref42_memory o4.1) fun r361 =>
 .ite (!r361) (.opt (Sl.app? l264 (Sl.lit 8 [(W.of .i64 6)] rfl : Sl 8 (W .i64))) fun l362 =>
 .opt (F_ref27_View o4.1.Phys o4.1.Names.Done) fun r363 =>
 .ite (!(Tab.eq tab (.arr 16 (.int .u32)) r363 o4.1.A.R)) (.opt (Sl.app? l362 (Sl.lit 8 [(W.of .i64 7)] rfl : Sl 8 (W .i64))) fun l364 =>
 .opt (F_ref42_control o4.1.A) fun r365 =>
 .ite (!r365) (.opt (Sl.app? l364 (Sl.lit 8 [(W.of .i64 8)] rfl : Sl 8 (W .i64))) fun l366 =>
 .opt (F_ref42_there o4.1) fun r367 =>
 .ite (!r367) (.opt (Sl.app? l366 (Sl.lit 8 [(W.of .i64 9)] rfl : Sl 8 (W .i64))) fun l368 =>
 .ret l368)
 (.ret l366))
 (.opt (F_ref42_there o4.1) fun r369 =>
 .ite (!r369) (.opt (Sl.app? l364 (Sl.lit 8 [(W.of .i64 9)] rfl : Sl 8 (W .i64))) fun l370 =>
 .ret l370)
 (.ret l364)))
 (.opt (F_ref42_control o4.1.A) fun r371 =>
 .ite (!r371) (.opt (Sl.app? l362 (Sl.lit 8 [(W.of .i64 8)] rfl : Sl 8 (W .i64))) fun l372 =>
 .opt (F_ref42_there o4.1) fun r373 =>
 .ite (!r373) (.opt (Sl.app? l372 (Sl.lit 8 [(W.of .i64 9)] rfl : Sl 8 (W .i64))) fun l374 =>
 .ret l374)
 (.ret l372))
 (.opt (F_ref42_there o4.1) fun r375 =>
 .ite (!r375) (.opt (Sl.app? l362 (Sl.lit 8 [(W.of .i64 9)] rfl : Sl 8 (W .i64))) fun l376 =>
 .ret l376)
 (.ret l362))))
 (.opt (F_ref27_View o4.1.Phys o4.1.Names.Done) fun r377 =>
 .ite (!(Tab.eq tab (.arr 16 (.int .u32)) r377 o4.1.A.R)) (.opt (Sl.app? l264 (Sl.lit 8 [(W.of .i64 7)] rfl : Sl 8 (W .i64))) fun l378 =>
 .opt (F_ref42_control o4.1.A) fun r379 =>
 .ite (!r379) (.opt (Sl.app? l378 (Sl.lit 8 [(W.of .i64 8)] rfl : Sl 8 (W .i64))) fun l380 =>
 .opt (F_ref42_there o4.1) fun r381 =>
 .ite (!r381) (.opt (Sl.app? l380 (Sl.lit 8 [(W.of .i64 9)] rfl : Sl 8 (W .i64))) fun l382 =>
 .ret l382)
 (.ret l380))
 (.opt (F_ref42_there o4.1) fun r383 =>
 .ite (!r383) (.opt (Sl.app? l378 (Sl.lit 8 [(W.of .i64 9)] rfl : Sl 8 (W .i64))) fun l384 =>
 .ret l384)
 (.ret l378)))
 (.opt (F_ref42_control o4.1.A) fun r385 =>
 .ite (!r385) (.opt (Sl.app? l264 (Sl.lit 8 [(W.of .i64 8)] rfl : Sl 8 (W .i64))) fun l386 =>
 .opt (F_ref42_there o4.1) fun r387 =>
 .ite (!r387) (.opt (Sl.app? l386 (Sl.lit 8 [(W.of .i64 9)] rfl : Sl 8 (W .i64))) fun l388 =>
 .ret l388)
 (.ret l386))
 (.opt (F_ref42_there o4.1) fun r389 =>
 .ite (!r389) (.opt (Sl.app? l264 (Sl.lit 8 [(W.of .i64 9)] rfl : Sl 8 (W .i64))) fun l390 =>
 .ret l390)
 (.ret l264)))))))
 (.opt (F_ref42_queued o4.1) fun r391 =>
 .ite (!r391) (.opt (Sl.app? l262 (Sl.lit 8 [(W.of .i64 4)] rfl : Sl 8 (W .i64))) fun l392 =>
 .opt (F_ref42_flying o4.1) fun r393 =>
 .ite (!r393) (.opt (Sl.app? l392 (Sl.lit 8 [(W.of .i64 5)] rfl : Sl 8 (W .i64))) fun l394 =>
 .opt (F_ref42_memory o4.1) fun r395 =>
 .ite (!r395) (.opt (Sl.app? l394 (Sl.lit 8 [(W.of .i64 6)] rfl : Sl 8 (W .i64))) fun l396 =>
 .opt (F_ref27_View o4.1.Phys o4.1.Names.Done) fun r397 =>
 .ite (!(Tab.eq tab (.arr 16 (.int .u32)) r397 o4.1.A.R)) (.opt (Sl.app? l396 (Sl.lit 8 [(W.of .i64 7)] rfl : Sl 8 (W .i64))) fun l398 =>
 .opt (F_ref42_control o4.1.A) fun r399 =>
 .ite (!r399) (.opt (Sl.app? l398 (Sl.lit 8 [(W.of .i64 8)] rfl : Sl 8 (W .i64))) fun l400 =>
 .opt (F_ref42_there o4.1) fun r401 =>
 .ite (!r401) (.opt (Sl.app? l400 (Sl.lit 8 [(W.of .i64 9)] rfl : Sl 8 (W .i64))) fun l402 =>
 .ret l402)
 (.ret l400))
 (.opt (F_ref42_there o4.1) fun r403 =>
 .ite (!r403) (.opt (Sl.app? l398 (Sl.lit 8 [(W.of .i64 9)] rfl : Sl 8 (W .i64))) fun l404 =>
 .ret l404)
 (.ret l398)))
 (.opt (F_ref42_control o4.1.A) fun r405 =>
 .ite (!r405) (.opt (Sl.app? l396 (Sl.lit 8 [(W.of .i64 8)] rfl : Sl 8 (W .i64))) fun l406 =>
 .opt (F_ref42_there o4.1) fun r407 =>
 .ite (!r407) (.opt (Sl.app? l406 (Sl.lit 8 [(W.of .i64 9)] rfl : Sl 8 (W .i64))) fun l408 =>
 .ret l408)
 (.ret l406))
 (.opt (F_ref42_there o4.1) fun r409 =>
 .ite (!r409) (.opt (Sl.app? l396 (Sl.lit 8 [(W.of .i64 9)] rfl : Sl 8 (W .i64))) fun l410 =>
 .ret l410)
 (.ret l396))))
 (.opt (F_ref27_View o4.1.Phys o4.1.Names.Done) fun r411 =>
 .ite (!(Tab.eq tab (.arr 16 (.int .u32)) r411 o4.1.A.R)) (.opt (Sl.app? l394 (Sl.lit 8 [(W.of .i64 7)] rfl : Sl 8 (W .i64))) fun l412 =>
 .opt (F_ref42_control o4.1.A) fun r413 =>
 .ite (!r413) (.opt (Sl.app? l412 (Sl.lit 8 [(W.of .i64 8)] rfl : Sl 8 (W .i64))) fun l414 =>
 .opt (F_ref42_there o4.1) fun r415 =>
 .ite (!r415) (.opt (Sl.app? l414 (Sl.lit 8 [(W.of .i64 9)] rfl : Sl 8 (W .i64))) fun l416 =>
 .ret l416)
 (.ret l414))
 (.opt (F_ref42_there o4.1) fun r417 =>
 .ite (!r417) (.opt (Sl.app? l412 (Sl.lit 8 [(W.of .i64 9)] rfl : Sl 8 (W .i64))) fun l418 =>
 .ret l418)
 (.ret l412)))
 (.opt (F_ref42_control o4.1.A) fun r419 =>
 .ite (!r419) (.opt (Sl.app? l394 (Sl.lit 8 [(W.of .i64 8)] rfl : Sl 8 (W .i64))) fun l420 =>
 .opt (F_ref42_there o4.1) fun r421 =>
 .ite (!r421) (.opt (Sl.app? l420 (Sl.lit 8 [(W.of .i64 9)] rfl : Sl 8 (W .i64))) fun l422 =>
 .ret l422)
 (.ret l420))
 (.opt (F_ref42_there o4.1) fun r423 =>
 .ite (!r423) (.opt (Sl.app? l394 (Sl.lit 8 [(W.of .i64 9)] rfl : Sl 8 (W .i64))) fun l424 =>
 .ret l424)
 (.ret l394)))))
 (.opt (F_ref42_memory o4.1) fun r425 =>
 .ite (!r425) (.opt (Sl.app? l392 (Sl.lit 8 [(W.of .i64 6)] rfl : Sl 8 (W .i64))) fun l426 =>
 .opt (F_ref27_View o4.1.Phys o4.1.Names.Done) fun r427 =>
 .ite (!(Tab.eq tab (.arr 16 (.int .u32)) r427 o4.1.A.R)) (.opt (Sl.app? l426 (Sl.lit 8 [(W.of .i64 7)] rfl : Sl 8 (W .i64))) fun l428 =>
 .opt (F_ref42_control o4.1.A) fun r429 =>
 .ite (!r429) (.opt (Sl.app? l428 (Sl.lit 8 [(W.of .i64 8)] rfl : Sl 8 (W .i64))) fun l430 =>
 .opt (F_ref42_there o4.1) fun r431 =>
 .ite (!r431) (.opt (Sl.app? l430 (Sl.lit 8 [(W.of .i64 9)] rfl : Sl 8 (W .i64))) fun l432 =>
 .ret l432)
 (.ret l430))
 (.opt (F_ref42_there o4.1) fun r433 =>
 .ite (!r433) (.opt (Sl.app? l428 (Sl.lit 8 [(W.of .i64 9)] rfl : Sl 8 (W .i64))) fun l434 =>
 .ret l434)
 (.ret l428)))
 (.opt (F_ref42_control o4.1.A) fun r435 =>
 .ite (!r435) (.opt (Sl.app? l426 (Sl.lit 8 [(W.of .i64 8)] rfl : Sl 8 (W .i64))) fun l436 =>
 .opt (F_ref42_there o4.1) fun r437 =>
 .ite (!r437) (.opt (Sl.app? l436 (Sl.lit 8 [(W.of .i64 9)] rfl : Sl 8 (W .i64))) fun l438 =>
 .ret l438)
 (.ret l436))
 (.opt (F_ref42_there o4.1) fun r439 =>
 .ite (!r439) (.opt (Sl.app? l426 (Sl.lit 8 [(W.of .i64 9)] rfl : Sl 8 (W .i64))) fun l440 =>
 .ret l440)
 (.ret l426))))
 (.opt (F_ref27_View o4.1.Phys o4.1.Names.Done) fun r441 =>
 .ite (!(Tab.eq tab (.arr 16 (.int .u32)) r441 o4.1.A.R)) (.opt (Sl.app? l392 (Sl.lit 8 [(W.of .i64 7)] rfl : Sl 8 (W .i64))) fun l442 =>
 .opt (F_ref42_control o4.1.A) fun r443 =>
 .ite (!r443) (.opt (Sl.app? l442 (Sl.lit 8 [(W.of .i64 8)] rfl : Sl 8 (W .i64))) fun l444 =>
 .opt (F_ref42_there o4.1) fun r445 =>
 .ite (!r445) (.opt (Sl.app? l444 (Sl.lit 8 [(W.of .i64 9)] rfl : Sl 8 (W .i64))) fun l446 =>
 .ret l446)
 (.ret l444))
 (.opt (F_ref42_there o4.1) fun r447 =>
 .ite (!r447) (.opt (Sl.app? l442 (Sl.lit 8 [(W.of .i64 9)] rfl : Sl 8 (W .i64))) fun l448 =>
 .ret l448)
 (.ret l442)))
 (.opt (F_ref42_control o4.1.A) fun r449 =>
 .ite (!r449) (.opt (Sl.app? l392 (Sl.lit 8 [(W.of .i64 8)] rfl : Sl 8 (W .i64))) fun l450 =>
 .opt (F_ref42_there o4.1) fun r451 =>
 .ite (!r451) (.opt (Sl.app? l450 (Sl.lit 8 [(W.of .i64 9)] rfl : Sl 8 (W .i64))) fun l452 =>
 .ret l452)
 (.ret l450))
 (.opt (F_ref42_there o4.1) fun r453 =>
 .ite (!r453) (.opt (Sl.app? l392 (Sl.lit 8 [(W.of .i64 9)] rfl : Sl 8 (W .i64))) fun l454 =>
 .ret l454)
 (.ret l392))))))
 (.opt (F_ref42_flying o4.1) fun r455 =>
 .ite (!r455) (.opt (Sl.app? l262 (Sl.lit 8 [(W.of .i64 5)] rfl : Sl 8 (W .i64))) fun l456 =>
 .opt (F_ref42_memory o4.1) fun r457 =>
 .ite (!r457) (.opt (Sl.app? l456 (Sl.lit 8 [(W.of .i64 6)] rfl : Sl 8 (W .i64))) fun l458 =>
 .opt (F_ref27_View o4.1.Phys o4.1.Names.Done) fun r459 =>
 .ite (!(Tab.eq tab (.arr 16 (.int .u32)) r459 o4.1.A.R)) (.opt (Sl.app? l458 (Sl.lit 8 [(W.of .i64 7)] rfl : Sl 8 (W .i64))) fun l460 =>
 .opt (F_ref42_control o4.1.A) fun r461 =>
 .ite (!r461) (.opt (Sl.app? l460 (Sl.lit 8 [(W.of .i64 8)] rfl : Sl 8 (W .i64))) fun l462 =>
 .opt (F_ref42_there o4.1) fun r463 =>
 .ite (!r463) (.opt (Sl.app? l462 (Sl.lit 8 [(W.of .i64 9)] rfl : Sl 8 (W .i64))) fun l464 =>
 .ret l464)
 (.ret l462))
 (.opt (F_ref42_there o4.1) fun r465 =>
 .ite (!r465) (.opt (Sl.app? l460 (Sl.lit 8 [(W.of .i64 9)] rfl : Sl 8 (W .i64))) fun l466 =>
 .ret l466)
 (.ret l460)))
 (.opt (F_ref42_control o4.1.A) fun r467 =>
 .ite (!r467) (.opt (Sl.app? l458 (Sl.lit 8 [(W.of .i64 8)] rfl : Sl 8 (W .i64))) fun l468 =>
 .opt (F_ref42_there o4.1) fun r469 =>
 .ite (!r469) (.opt (Sl.app? l468 (Sl.lit 8 [(W.of .i64 9)] rfl : Sl 8 (W .i64))) fun l470 =>
 .ret l470)
 (.ret l468))
 (.opt (F_ref42_there o4.1) fun r471 =>
 .ite (!r471) (.opt (Sl.app? l458 (Sl.lit 8 [(W.of .i64 9)] rfl : Sl 8 (W .i64))) fun l472 =>
 .ret l472)
 (.ret l458))))
 (.opt (F_ref27_View o4.1.Phys o4.1.Names.Done) fun r473 =>
 .ite (!(Tab.eq tab (.arr 16 (.int .u32)) r473 o4.1.A.R)) (.opt (Sl.app? l456 (Sl.lit 8 [(W.of .i64 7)] rfl : Sl 8 (W .i64))) fun l474 =>
 .opt (F_ref42_control o4.1.A) fun r475 =>
 .ite (!r475) (.opt (Sl.app? l474 (Sl.lit 8 [(W.of .i64 8)] rfl : Sl 8 (W .i64))) fun l476 =>
 .opt (F_ref42_there o4.1) fun r477 =>
 .ite (!r477) (.opt (Sl.app? l476 (Sl.lit 8 [(W.of .i64 9)] rfl : Sl 8 (W .i64))) fun l478 =>
 .ret l478)
 (.ret l476))
 (.opt (F_ref42_there o4.1) fun r479 =>
 .ite (!r479) (.opt (Sl.app? l474 (Sl.lit 8 [(W.of .i64 9)] rfl : Sl 8 (W .i64))) fun l480 =>
 .ret l480)
 (.ret l474)))
 (.opt (F_ref42_control o4.1.A) fun r481 =>
 .ite (!r481) (.opt (Sl.app? l456 (Sl.lit 8 [(W.of .i64 8)] rfl : Sl 8 (W .i64))) fun l482 =>
 .opt (F_ref42_there o4.1) fun r483 =>
 .ite (!r483) (.opt (Sl.app? l482 (Sl.lit 8 [(W.of .i64 9)] rfl : Sl 8 (W .i64))) fun l484 =>
 .ret l484)
 (.ret l482))
 (.opt (F_ref42_there o4.1) fun r485 =>
 .ite (!r485) (.opt (Sl.app? l456 (Sl.lit 8 [(W.of .i64 9)] rfl : Sl 8 (W .i64))) fun l486 =>
 .ret l486)
 (.ret l456)))))
 (.opt (F_ref42_memory o4.1) fun r487 =>
 .ite (!r487) (.opt (Sl.app? l262 (Sl.lit 8 [(W.of .i64 6)] rfl : Sl 8 (W .i64))) fun l488 =>
 .opt (F_ref27_View o4.1.Phys o4.1.Names.Done) fun r489 =>
 .ite (!(Tab.eq tab (.arr 16 (.int .u32)) r489 o4.1.A.R)) (.opt (Sl.app? l488 (Sl.lit 8 [(W.of .i64 7)] rfl : Sl 8 (W .i64))) fun l490 =>
 .opt (F_ref42_control o4.1.A) fun r491 =>
 .ite (!r491) (.opt (Sl.app? l490 (Sl.lit 8 [(W.of .i64 8)] rfl : Sl 8 (W .i64))) fun l492 =>
 .opt (F_ref42_there o4.1) fun r493 =>
 .ite (!r493) (.opt (Sl.app? l492 (Sl.lit 8 [(W.of .i64 9)] rfl : Sl 8 (W .i64))) fun l494 =>
 .ret l494)
 (.ret l492))
 (.opt (F_ref42_there o4.1) fun r495 =>
 .ite (!r495) (.opt (Sl.app? l490 (Sl.lit 8 [(W.of .i64 9)] rfl : Sl 8 (W .i64))) fun l496 =>
 .ret l496)
 (.ret l490)))
 (.opt (F_ref42_control o4.1.A) fun r497 =>
 .ite (!r497) (.opt (Sl.app? l488 (Sl.lit 8 [(W.of .i64 8)] rfl : Sl 8 (W .i64))) fun l498 =>
 .opt (F_ref42_there o4.1) fun r499 =>
 .ite (!r499) (.opt (Sl.app? l498 (Sl.lit 8 [(W.of .i64 9)] rfl : Sl 8 (W .i64))) fun l500 =>
 .ret l500)
 (.ret l498))
 (.opt (F_ref42_there o4.1) fun r501 =>
 .ite (!r501) (.opt (Sl.app? l488 (Sl.lit 8 [(W.of .i64 9)] rfl : Sl 8 (W .i64))) fun l502 =>
 .ret l502)
 (.ret l488))))
 (.opt (F_ref27_View o4.1.Phys o4.1.Names.Done) fun r503 =>
 .ite (!(Tab.eq tab (.arr 16 (.int .u32)) r503 o4.1.A.R)) (.opt (Sl.app? l262 (Sl.lit 8 [(W.of .i64 7)] rfl : Sl 8 (W .i64))) fun l504 =>
 .opt (F_ref42_control o4.1.A) fun r505 =>
 .ite (!r505) (.opt (Sl.app? l504 (Sl.lit 8 [(W.of .i64 8)] rfl : Sl 8 (W .i64))) fun l506 =>
 .opt (F_ref42_there o4.1) fun r507 =>
 .ite (!r507) (.opt (Sl.app? l506 (Sl.lit 8 [(W.of .i64 9)] rfl : Sl 8 (W .i64))) fun l508 =>
 .ret l508)
 (.ret l506))
 (.opt (F_ref42_there o4.1) fun r509 =>
 .ite (!r509) (.opt (Sl.app? l504 (Sl.lit 8 [(W.of .i64 9)] rfl : Sl 8 (W .i64))) fun l510 =>
 .ret l510)
 (.ret l504)))
 (.opt (F_ref42_control o4.1.A) fun r511 =>
 .ite (!r511) (.opt (Sl.app? l262 (Sl.lit 8 [(W.of .i64 8)] rfl : Sl 8 (W .i64))) fun l512 =>
 .opt (F_ref42_there o4.1) fun r513 =>
 .ite (!r513) (.opt (Sl.app? l512 (Sl.lit 8 [(W.of .i64 9)] rfl : Sl 8 (W .i64))) fun l514 =>
 .ret l514)
 (.ret l512))
 (.opt (F_ref42_there o4.1) fun r515 =>
 .ite (!r515) (.opt (Sl.app? l262 (Sl.lit 8 [(W.of .i64 9)] rfl : Sl 8 (W .i64))) fun l516 =>
 .ret l516)
 (.ret l262))))))))
 (.opt (F_ref28_Right o4.1.Names o4.1.Conf.Phys o4.2.2.1) fun r517 =>
 .ite (!r517) (.opt (Sl.app? o4.2.1 (Sl.lit 8 [(W.of .i64 3)] rfl : Sl 8 (W .i64))) fun l518 =>
 .opt (F_ref42_queued o4.1) fun r519 =>
 .ite (!r519) (.opt (Sl.app? l518 (Sl.lit 8 [(W.of .i64 4)] rfl : Sl 8 (W .i64))) fun l520 =>
 .opt (F_ref42_flying o4.1) fun r521 =>
 .ite (!r521) (.opt (Sl.app? l520 (Sl.lit 8 [(W.of .i64 5)] rfl : Sl 8 (W .i64))) fun l522 =>
 .opt (F_ref42_memory o4.1) fun r523 =>
 .ite (!r523) (.opt (Sl.app? l522 (Sl.lit 8 [(W.of .i64 6)] rfl : Sl 8 (W .i64))) fun l524 =>
 .opt (F_ref27_View o4.1.Phys o4.1.Names.Done) fun r525 =>
 .ite (!(Tab.eq tab (.arr 16 (.int .u32)) r525 o4.1.A.R)) (.opt (Sl.app? l524 (Sl.lit 8 [(W.of .i64 7)] rfl : Sl 8 (W .i64))) fun l526 =>
 .opt (F_ref42_control o4.1.A) fun r527 =>
 .ite (!r527) (.opt (Sl.app? l526 (Sl.lit 8 [(W.of .i64 8)] rfl : Sl 8 (W .i64))) fun l528 =>
 .opt (F_ref42_there o4.1) fun r529 =>
 .ite (!r529) (.opt (Sl.app? l528 (Sl.lit 8 [(W.of .i64 9)] rfl : Sl 8 (W .i64))) fun l530 =>
 .ret l530)
 (.ret l528))
 (.opt (F_ref42_there o4.1) fun r531 =>
 .ite (!r531) (.opt (Sl.app? l526 (Sl.lit 8 [(W.of .i64 9)] rfl : Sl 8 (W .i64))) fun l532 =>
 .ret l532)
 (.ret l526)))
 (.opt (F_ref42_control o4.1.A) fun r533 =>
 .ite (!r533) (.opt (Sl.app? l524 (Sl.lit 8 [(W.of .i64 8)] rfl : Sl 8 (W .i64))) fun l534 =>
 .opt (F_ref42_there o4.1) fun r535 =>
 .ite (!r535) (.opt (Sl.app? l534 (Sl.lit 8 [(W.of .i64 9)] rfl : Sl 8 (W .i64))) fun l536 =>
 .ret l536)
 (.ret l534))
 (.opt (F_ref42_there o4.1) fun r537 =>
 .ite (!r537) (.opt (Sl.app? l524 (Sl.lit 8 [(W.of .i64 9)] rfl : Sl 8 (W .i64))) fun l538 =>
 .ret l538)
 (.ret l524))))
 (.opt (F_ref27_View o4.1.Phys o4.1.Names.Done) fun r539 =>
 .ite (!(Tab.eq tab (.arr 16 (.int .u32)) r539 o4.1.A.R)) (.opt (Sl.app? l522 (Sl.lit 8 [(W.of .i64 7)] rfl : Sl 8 (W .i64))) fun l540 =>
 .opt (F_ref42_control o4.1.A) fun r541 =>
 .ite (!r541) (.opt (Sl.app? l540 (Sl.lit 8 [(W.of .i64 8)] rfl : Sl 8 (W .i64))) fun l542 =>
 .opt (F_ref42_there o4.1) fun r543 =>
 .ite (!r543) (.opt (Sl.app? l542 (Sl.lit 8 [(W.of .i64 9)] rfl : Sl 8 (W .i64))) fun l544 =>
 .ret l544)
 (.ret l542))
 (.opt (F_ref42_there o4.1) fun r545 =>
 .ite (!r545) (.opt (Sl.app? l540 (Sl.lit 8 [(W.of .i64 9)] rfl : Sl 8 (W .i64))) fun l546 =>
 .ret l546)
 (.ret l540)))
 (.opt (F_ref42_control o4.1.A) fun r547 =>
 .ite (!r547) (.opt (Sl.app? l522 (Sl.lit 8 [(W.of .i64 8)] rfl : Sl 8 (W .i64))) fun l548 =>
 .opt (F_ref42_there o4.1) fun r549 =>
 .ite (!r549) (.opt (Sl.app? l548 (Sl.lit 8 [(W.of .i64 9)] rfl : Sl 8 (W .i64))) fun l550 =>
 .ret l550)
 (.ret l548))
 (.opt (F_ref42_there o4.1) fun r551 =>
 .ite (!r551) (.opt (Sl.app? l522 (Sl.lit 8 [(W.of .i64 9)] rfl : Sl 8 (W .i64))) fun l552 =>
 .ret l552)
 (.ret l522)))))
 (.opt (F_ref42_memory o4.1) fun r553 =>
 .ite (!r553) (.opt (Sl.app? l520 (Sl.lit 8 [(W.of .i64 6)] rfl : Sl 8 (W .i64))) fun l554 =>
 .opt (F_ref27_View o4.1.Phys o4.1.Names.Done) fun r555 =>
 .ite (!(Tab.eq tab (.arr 16 (.int .u32)) r555 o4.1.A.R)) (.opt (Sl.app? l554 (Sl.lit 8 [(W.of .i64 7)] rfl : Sl 8 (W .i64))) fun l556 =>
 .opt (F_ref42_control o4.1.A) fun r557 =>
 .ite (!r557) (.opt (Sl.app? l556 (Sl.lit 8 [(W.of .i64 8)] rfl : Sl 8 (W .i64))) fun l558 =>
 .opt (F_ref42_there o4.1) fun r559 =>
 .ite (!r559) (.opt (Sl.app? l558 (Sl.lit 8 [(W.of .i64 9)] rfl : Sl 8 (W .i64))) fun l560 =>
 .ret l560)
 (.ret l558))
 (.opt (F_ref42_there o4.1) fun r561 =>
 .ite (!r561) (.opt (Sl.app? l556 (Sl.lit 8 [(W.of .i64 9)] rfl : Sl 8 (W .i64))) fun l562 =>
 .ret l562)
 (.ret l556)))
 (.opt (F_ref42_control o4.1.A) fun r563 =>
 .ite (!r563) (.opt (Sl.app? l554 (Sl.lit 8 [(W.of .i64 8)] rfl : Sl 8 (W .i64))) fun l564 =>
 .opt (F_ref42_there o4.1) fun r565 =>
 .ite (!r565) (.opt (Sl.app? l564 (Sl.lit 8 [(W.of .i64 9)] rfl : Sl 8 (W .i64))) fun l566 =>
 .ret l566)
 (.ret l564))
 (.opt (F_ref42_there o4.1) fun r567 =>
 .ite (!r567) (.opt (Sl.app? l554 (Sl.lit 8 [(W.of .i64 9)] rfl : Sl 8 (W .i64))) fun l568 =>
 .ret l568)
 (.ret l554))))
 (.opt (F_ref27_View o4.1.Phys o4.1.Names.Done) fun r569 =>
 .ite (!(Tab.eq tab (.arr 16 (.int .u32)) r569 o4.1.A.R)) (.opt (Sl.app? l520 (Sl.lit 8 [(W.of .i64 7)] rfl : Sl 8 (W .i64))) fun l570 =>
 .opt (F_ref42_control o4.1.A) fun r571 =>
 .ite (!r571) (.opt (Sl.app? l570 (Sl.lit 8 [(W.of .i64 8)] rfl : Sl 8 (W .i64))) fun l572 =>
 .opt (F_ref42_there o4.1) fun r573 =>
 .ite (!r573) (.opt (Sl.app? l572 (Sl.lit 8 [(W.of .i64 9)] rfl : Sl 8 (W .i64))) fun l574 =>
 .ret l574)
 (.ret l572))
 (.opt (F_ref42_there o4.1) fun r575 =>
 .ite (!r575) (.opt (Sl.app? l570 (Sl.lit 8 [(W.of .i64 9)] rfl : Sl 8 (W .i64))) fun l576 =>
 .ret l576)
 (.ret l570)))
 (.opt (F_ref42_control o4.1.A) fun r577 =>
 .ite (!r577) (.opt (Sl.app? l520 (Sl.lit 8 [(W.of .i64 8)] rfl : Sl 8 (W .i64))) fun l578 =>
 .opt (F_ref42_there o4.1) fun r579 =>
 .ite (!r579) (.opt (Sl.app? l578 (Sl.lit 8 [(W.of .i64 9)] rfl : Sl 8 (W .i64))) fun l580 =>
 .ret l580)
 (.ret l578))
 (.opt (F_ref42_there o4.1) fun r581 =>
 .ite (!r581) (.opt (Sl.app? l520 (Sl.lit 8 [(W.of .i64 9)] rfl : Sl 8 (W .i64))) fun l582 =>
 .ret l582)
 (.ret l520))))))
 (.opt (F_ref42_flying o4.1) fun r583 =>
 .ite (!r583) (.opt (Sl.app? l518 (Sl.lit 8 [(W.of .i64 5)] rfl : Sl 8 (W .i64))) fun l584 =>
 .opt (F_ref42_memory o4.1) fun r585 =>
 .ite (!r585) (.opt (Sl.app? l584 (Sl.lit 8 [(W.of .i64 6)] rfl : Sl 8 (W .i64))) fun l586 =>
 .opt (F_ref27_View o4.1.Phys o4.1.Names.Done) fun r587 =>
 .ite (!(Tab.eq tab (.arr 16 (.int .u32)) r587 o4.1.A.R)) (.opt (Sl.app? l586 (Sl.lit 8 [(W.of .i64 7)] rfl : Sl 8 (W .i64))) fun l588 =>
 .opt (F_ref42_control o4.1.A) fun r589 =>
 .ite (!r589) (.opt (Sl.app? l588 (Sl.lit 8 [(W.of .i64 8)] rfl : Sl 8 (W .i64))) fun l590 =>
 .opt (F_ref42_there o4.1) fun r591 =>
 .ite (!r591) (.opt (Sl.app? l590 (Sl.lit 8 [(W.of .i64 9)] rfl : Sl 8 (W .i64))) fun l592 =>
 .ret l592)
 (.ret l590))
 (.opt (F_ref42_there o4.1) fun r593 =>
 .ite (!r593) (.opt (Sl.app? l588 (Sl.lit 8 [(W.of .i64 9)] rfl : Sl 8 (W .i64))) fun l594 =>
 .ret l594)
 (.ret l588)))
 (.opt (F_ref42_control o4.1.A) fun r595 =>
 .ite (!r595) (.opt (Sl.app? l586 (Sl.lit 8 [(W.of .i64 8)] rfl : Sl 8 (W .i64))) fun l596 =>
 .opt (F_ref42_there o4.1) fun r597 =>
 .ite (!r597) (.opt (Sl.app? l596 (Sl.lit 8 [(W.of .i64 9)] rfl : Sl 8 (W .i64))) fun l598 =>
 .ret l598)
 (.ret l596))
 (.opt (F_ref42_there o4.1) fun r599 =>
 .ite (!r599) (.opt (Sl.app? l586 (Sl.lit 8 [(W.of .i64 9)] rfl : Sl 8 (W .i64))) fun l600 =>
 .ret l600)
 (.ret l586))))
 (.opt (F_ref27_View o4.1.Phys o4.1.Names.Done) fun r601 =>
 .ite (!(Tab.eq tab (.arr 16 (.int .u32)) r601 o4.1.A.R)) (.opt (Sl.app? l584 (Sl.lit 8 [(W.of .i64 7)] rfl : Sl 8 (W .i64))) fun l602 =>
 .opt (F_ref42_control o4.1.A) fun r603 =>
 .ite (!r603) (.opt (Sl.app? l602 (Sl.lit 8 [(W.of .i64 8)] rfl : Sl 8 (W .i64))) fun l604 =>
 .opt (F_ref42_there o4.1) fun r605 =>
 .ite (!r605) (.opt (Sl.app? l604 (Sl.lit 8 [(W.of .i64 9)] rfl : Sl 8 (W .i64))) fun l606 =>
 .ret l606)
 (.ret l604))
 (.opt (F_ref42_there o4.1) fun r607 =>
 .ite (!r607) (.opt (Sl.app? l602 (Sl.lit 8 [(W.of .i64 9)] rfl : Sl 8 (W .i64))) fun l608 =>
 .ret l608)
 (.ret l602)))
 (.opt (F_ref42_control o4.1.A) fun r609 =>
 .ite (!r609) (.opt (Sl.app? l584 (Sl.lit 8 [(W.of .i64 8)] rfl : Sl 8 (W .i64))) fun l610 =>
 .opt (F_ref42_there o4.1) fun r611 =>
 .ite (!r611) (.opt (Sl.app? l610 (Sl.lit 8 [(W.of .i64 9)] rfl : Sl 8 (W .i64))) fun l612 =>
 .ret l612)
 (.ret l610))
 (.opt (F_ref42_there o4.1) fun r613 =>
 .ite (!r613) (.opt (Sl.app? l584 (Sl.lit 8 [(W.of .i64 9)] rfl : Sl 8 (W .i64))) fun l614 =>
 .ret l614)
 (.ret l584)))))
 (.opt (F_ref42_memory o4.1) fun r615 =>
 .ite (!r615) (.opt (Sl.app? l518 (Sl.lit 8 [(W.of .i64 6)] rfl : Sl 8 (W .i64))) fun l616 =>
 .opt (F_ref27_View o4.1.Phys o4.1.Names.Done) fun r617 =>
 .ite (!(Tab.eq tab (.arr 16 (.int .u32)) r617 o4.1.A.R)) (.opt (Sl.app? l616 (Sl.lit 8 [(W.of .i64 7)] rfl : Sl 8 (W .i64))) fun l618 =>
 .opt (F_ref42_control o4.1.A) fun r619 =>
 .ite (!r619) (.opt (Sl.app? l618 (Sl.lit 8 [(W.of .i64 8)] rfl : Sl 8 (W .i64))) fun l620 =>
 .opt (F_ref42_there o4.1) fun r621 =>
 .ite (!r621) (.opt (Sl.app? l620 (Sl.lit 8 [(W.of .i64 9)] rfl : Sl 8 (W .i64))) fun l622 =>
 .ret l622)
 (.ret l620))
 (.opt (F_ref42_there o4.1) fun r623 =>
 .ite (!r623) (.opt (Sl.app? l618 (Sl.lit 8 [(W.of .i64 9)] rfl : Sl 8 (W .i64))) fun l624 =>
 .ret l624)
 (.ret l618)))
 (.opt (F_ref42_control o4.1.A) fun r625 =>
 .ite (!r625) (.opt (Sl.app? l616 (Sl.lit 8 [(W.of .i64 8)] rfl : Sl 8 (W .i64))) fun l626 =>
 .opt (F_ref42_there o4.1) fun r627 =>
 .ite (!r627) (.opt (Sl.app? l626 (Sl.lit 8 [(W.of .i64 9)] rfl : Sl 8 (W .i64))) fun l628 =>
 .ret l628)
 (.ret l626))
 (.opt (F_ref42_there o4.1) fun r629 =>
 .ite (!r629) (.opt (Sl.app? l616 (Sl.lit 8 [(W.of .i64 9)] rfl : Sl 8 (W .i64))) fun l630 =>
 .ret l630)
 (.ret l616))))
 (.opt (F_ref27_View o4.1.Phys o4.1.Names.Done) fun r631 =>
 .ite (!(Tab.eq tab (.arr 16 (.int .u32)) r631 o4.1.A.R)) (.opt (Sl.app? l518 (Sl.lit 8 [(W.of .i64 7)] rfl : Sl 8 (W .i64))) fun l632 =>
 .opt (F_ref42_control o4.1.A) fun r633 =>
 .ite (!r633) (.opt (Sl.app? l632 (Sl.lit 8 [(W.of .i64 8)] rfl : Sl 8 (W .i64))) fun l634 =>
 .opt (F_ref42_there o4.1) fun r635 =>
 .ite (!r635) (.opt (Sl.app? l634 (Sl.lit 8 [(W.of .i64 9)] rfl : Sl 8 (W .i64))) fun l636 =>
 .ret l636)
 (.ret l634))
 (.opt (F_ref42_there o4.1) fun r637 =>
 .ite (!r637) (.opt (Sl.app? l632 (Sl.lit 8 [(W.of .i64 9)] rfl : Sl 8 (W .i64))) fun l638 =>
 .ret l638)
 (.ret l632)))
 (.opt (F_ref42_control o4.1.A) fun r639 =>
 .ite (!r639) (.opt (Sl.app? l518 (Sl.lit 8 [(W.of .i64 8)] rfl : Sl 8 (W .i64))) fun l640 =>
 .opt (F_ref42_there o4.1) fun r641 =>
 .ite (!r641) (.opt (Sl.app? l640 (Sl.lit 8 [(W.of .i64 9)] rfl : Sl 8 (W .i64))) fun l642 =>
 .ret l642)
 (.ret l640))
 (.opt (F_ref42_there o4.1) fun r643 =>
 .ite (!r643) (.opt (Sl.app? l518 (Sl.lit 8 [(W.of .i64 9)] rfl : Sl 8 (W .i64))) fun l644 =>
 .ret l644)
 (.ret l518)))))))
 (.opt (F_ref42_queued o4.1) fun r645 =>
 .ite (!r645) (.opt (Sl.app? o4.2.1 (Sl.lit 8 [(W.of .i64 4)] rfl : Sl 8 (W .i64))) fun l646 =>
 .opt (F_ref42_flying o4.1) fun r647 =>
 .ite (!r647) (.opt (Sl.app? l646 (Sl.lit 8 [(W.of .i64 5)] rfl : Sl 8 (W .i64))) fun l648 =>
 .opt (F_ref42_memory o4.1) fun r649 =>
 .ite (!r649) (.opt (Sl.app? l648 (Sl.lit 8 [(W.of .i64 6)] rfl : Sl 8 (W .i64))) fun l650 =>
 .opt (F_ref27_View o4.1.Phys o4.1.Names.Done) fun r651 =>
 .ite (!(Tab.eq tab (.arr 16 (.int .u32)) r651 o4.1.A.R)) (.opt (Sl.app? l650 (Sl.lit 8 [(W.of .i64 7)] rfl : Sl 8 (W .i64))) fun l652 =>
 .opt (F_ref42_control o4.1.A) fun r653 =>
 .ite (!r653) (.opt (Sl.app? l652 (Sl.lit 8 [(W.of .i64 8)] rfl : Sl 8 (W .i64))) fun l654 =>
 .opt (F_ref42_there o4.1) fun r655 =>
 .ite (!r655) (.opt (Sl.app? l654 (Sl.lit 8 [(W.of .i64 9)] rfl : Sl 8 (W .i64))) fun l656 =>
 .ret l656)
 (.ret l654))
 (.opt (F_ref42_there o4.1) fun r657 =>
 .ite (!r657) (.opt (Sl.app? l652 (Sl.lit 8 [(W.of .i64 9)] rfl : Sl 8 (W .i64))) fun l658 =>
 .ret l658)
 (.ret l652)))
 (.opt (F_ref42_control o4.1.A) fun r659 =>
 .ite (!r659) (.opt (Sl.app? l650 (Sl.lit 8 [(W.of .i64 8)] rfl : Sl 8 (W .i64))) fun l660 =>
 .opt (F_ref42_there o4.1) fun r661 =>
 .ite (!r661) (.opt (Sl.app? l660 (Sl.lit 8 [(W.of .i64 9)] rfl : Sl 8 (W .i64))) fun l662 =>
 .ret l662)
 (.ret l660))
 (.opt (F_ref42_there o4.1) fun r663 =>
 .ite (!r663) (.opt (Sl.app? l650 (Sl.lit 8 [(W.of .i64 9)] rfl : Sl 8 (W .i64))) fun l664 =>
 .ret l664)
 (.ret l650))))
 (.opt (F_ref27_View o4.1.Phys o4.1.Names.Done) fun r665 =>
 .ite (!(Tab.eq tab (.arr 16 (.int .u32)) r665 o4.1.A.R)) (.opt (Sl.app? l648 (Sl.lit 8 [(W.of .i64 7)] rfl : Sl 8 (W .i64))) fun l666 =>
 .opt (F_ref42_control o4.1.A) fun r667 =>
 .ite (!r667) (.opt (Sl.app? l666 (Sl.lit 8 [(W.of .i64 8)] rfl : Sl 8 (W .i64))) fun l668 =>
 .opt (F_ref42_there o4.1) fun r669 =>
 .ite (!r669) (.opt (Sl.app? l668 (Sl.lit 8 [(W.of .i64 9)] rfl : Sl 8 (W .i64))) fun l670 =>
 .ret l670)
 (.ret l668))
 (.opt (F_ref42_there o4.1) fun r671 =>
 .ite (!r671) (.opt (Sl.app? l666 (Sl.lit 8 [(W.of .i64 9)] rfl : Sl 8 (W .i64))) fun l672 =>
 .ret l672)
 (.ret l666)))
 (.opt (F_ref42_control o4.1.A) fun r673 =>
 .ite (!r673) (.opt (Sl.app? l648 (Sl.lit 8 [(W.of .i64 8)] rfl : Sl 8 (W .i64))) fun l674 =>
 .opt (F_ref42_there o4.1) fun r675 =>
 .ite (!r675) (.opt (Sl.app? l674 (Sl.lit 8 [(W.of .i64 9)] rfl : Sl 8 (W .i64))) fun l676 =>
 .ret l676)
 (.ret l674))
 (.opt (F_ref42_there o4.1) fun r677 =>
 .ite (!r677) (.opt (Sl.app? l648 (Sl.lit 8 [(W.of .i64 9)] rfl : Sl 8 (W .i64))) fun l678 =>
 .ret l678)
 (.ret l648)))))
 (.opt (F_ref42_memory o4.1) fun r679 =>
 .ite (!r679) (.opt (Sl.app? l646 (Sl.lit 8 [(W.of .i64 6)] rfl : Sl 8 (W .i64))) fun l680 =>
 .opt (F_ref27_View o4.1.Phys o4.1.Names.Done) fun r681 =>
 .ite (!(Tab.eq tab (.arr 16 (.int .u32)) r681 o4.1.A.R)) (.opt (Sl.app? l680 (Sl.lit 8 [(W.of .i64 7)] rfl : Sl 8 (W .i64))) fun l682 =>
 .opt (F_ref42_control o4.1.A) fun r683 =>
 .ite (!r683) (.opt (Sl.app? l682 (Sl.lit 8 [(W.of .i64 8)] rfl : Sl 8 (W .i64))) fun l684 =>
 .opt (F_ref42_there o4.1) fun r685 =>
 .ite (!r685) (.opt (Sl.app? l684 (Sl.lit 8 [(W.of .i64 9)] rfl : Sl 8 (W .i64))) fun l686 =>
 .ret l686)
 (.ret l684))
 (.opt (F_ref42_there o4.1) fun r687 =>
 .ite (!r687) (.opt (Sl.app? l682 (Sl.lit 8 [(W.of .i64 9)] rfl : Sl 8 (W .i64))) fun l688 =>
 .ret l688)
 (.ret l682)))
 (.opt (F_ref42_control o4.1.A) fun r689 =>
 .ite (!r689) (.opt (Sl.app? l680 (Sl.lit 8 [(W.of .i64 8)] rfl : Sl 8 (W .i64))) fun l690 =>
 .opt (F_ref42_there o4.1) fun r691 =>
 .ite (!r691) (.opt (Sl.app? l690 (Sl.lit 8 [(W.of .i64 9)] rfl : Sl 8 (W .i64))) fun l692 =>
 .ret l692)
 (.ret l690))
 (.opt (F_ref42_there o4.1) fun r693 =>
 .ite (!r693) (.opt (Sl.app? l680 (Sl.lit 8 [(W.of .i64 9)] rfl : Sl 8 (W .i64))) fun l694 =>
 .ret l694)
 (.ret l680))))
 (.opt (F_ref27_View o4.1.Phys o4.1.Names.Done) fun r695 =>
 .ite (!(Tab.eq tab (.arr 16 (.int .u32)) r695 o4.1.A.R)) (.opt (Sl.app? l646 (Sl.lit 8 [(W.of .i64 7)] rfl : Sl 8 (W .i64))) fun l696 =>
 .opt (F_ref42_control o4.1.A) fun r697 =>
 .ite (!r697) (.opt (Sl.app? l696 (Sl.lit 8 [(W.of .i64 8)] rfl : Sl 8 (W .i64))) fun l698 =>
 .opt (F_ref42_there o4.1) fun r699 =>
 .ite (!r699) (.opt (Sl.app? l698 (Sl.lit 8 [(W.of .i64 9)] rfl : Sl 8 (W .i64))) fun l700 =>
 .ret l700)
 (.ret l698))
 (.opt (F_ref42_there o4.1) fun r701 =>
 .ite (!r701) (.opt (Sl.app? l696 (Sl.lit 8 [(W.of .i64 9)] rfl : Sl 8 (W .i64))) fun l702 =>
 .ret l702)
 (.ret l696)))
 (.opt (F_ref42_control o4.1.A) fun r703 =>
 .ite (!r703) (.opt (Sl.app? l646 (Sl.lit 8 [(W.of .i64 8)] rfl : Sl 8 (W .i64))) fun l704 =>
 .opt (F_ref42_there o4.1) fun r705 =>
 .ite (!r705) (.opt (Sl.app? l704 (Sl.lit 8 [(W.of .i64 9)] rfl : Sl 8 (W .i64))) fun l706 =>
 .ret l706)
 (.ret l704))
 (.opt (F_ref42_there o4.1) fun r707 =>
 .ite (!r707) (.opt (Sl.app? l646 (Sl.lit 8 [(W.of .i64 9)] rfl : Sl 8 (W .i64))) fun l708 =>
 .ret l708)
 (.ret l646))))))
 (.opt (F_ref42_flying o4.1) fun r709 =>
 .ite (!r709) (.opt (Sl.app? o4.2.1 (Sl.lit 8 [(W.of .i64 5)] rfl : Sl 8 (W .i64))) fun l710 =>
 .opt (F_ref42_memory o4.1) fun r711 =>
 .ite (!r711) (.opt (Sl.app? l710 (Sl.lit 8 [(W.of .i64 6)] rfl : Sl 8 (W .i64))) fun l712 =>
 .opt (F_ref27_View o4.1.Phys o4.1.Names.Done) fun r713 =>
 .ite (!(Tab.eq tab (.arr 16 (.int .u32)) r713 o4.1.A.R)) (.opt (Sl.app? l712 (Sl.lit 8 [(W.of .i64 7)] rfl : Sl 8 (W .i64))) fun l714 =>
 .opt (F_ref42_control o4.1.A) fun r715 =>
 .ite (!r715) (.opt (Sl.app? l714 (Sl.lit 8 [(W.of .i64 8)] rfl : Sl 8 (W .i64))) fun l716 =>
 .opt (F_ref42_there o4.1) fun r717 =>
 .ite (!r717) (.opt (Sl.app? l716 (Sl.lit 8 [(W.of .i64 9)] rfl : Sl 8 (W .i64))) fun l718 =>
 .ret l718)
 (.ret l716))
 (.opt (F_ref42_there o4.1) fun r719 =>
 .ite (!r719) (.opt (Sl.app? l714 (Sl.lit 8 [(W.of .i64 9)] rfl : Sl 8 (W .i64))) fun l720 =>
 .ret l720)
 (.ret l714)))
 (.opt (F_ref42_control o4.1.A) fun r721 =>
 .ite (!r721) (.opt (Sl.app? l712 (Sl.lit 8 [(W.of .i64 8)] rfl : Sl 8 (W .i64))) fun l722 =>
 .opt (F_ref42_there o4.1) fun r723 =>
 .ite (!r723) (.opt (Sl.app? l722 (Sl.lit 8 [(W.of .i64 9)] rfl : Sl 8 (W .i64))) fun l724 =>
 .ret l724)
 (.ret l722))
 (.opt (F_ref42_there o4.1) fun r725 =>
 .ite (!r725) (.opt (Sl.app? l712 (Sl.lit 8 [(W.of .i64 9)] rfl : Sl 8 (W .i64))) fun l726 =>
 .ret l726)
 (.ret l712))))
 (.opt (F_ref27_View o4.1.Phys o4.1.Names.Done) fun r727 =>
 .ite (!(Tab.eq tab (.arr 16 (.int .u32)) r727 o4.1.A.R)) (.opt (Sl.app? l710 (Sl.lit 8 [(W.of .i64 7)] rfl : Sl 8 (W .i64))) fun l728 =>
 .opt (F_ref42_control o4.1.A) fun r729 =>
 .ite (!r729) (.opt (Sl.app? l728 (Sl.lit 8 [(W.of .i64 8)] rfl : Sl 8 (W .i64))) fun l730 =>
 .opt (F_ref42_there o4.1) fun r731 =>
 .ite (!r731) (.opt (Sl.app? l730 (Sl.lit 8 [(W.of .i64 9)] rfl : Sl 8 (W .i64))) fun l732 =>
 .ret l732)
 (.ret l730))
 (.opt (F_ref42_there o4.1) fun r733 =>
 .ite (!r733) (.opt (Sl.app? l728 (Sl.lit 8 [(W.of .i64 9)] rfl : Sl 8 (W .i64))) fun l734 =>
 .ret l734)
 (.ret l728)))
 (.opt (F_ref42_control o4.1.A) fun r735 =>
 .ite (!r735) (.opt (Sl.app? l710 (Sl.lit 8 [(W.of .i64 8)] rfl : Sl 8 (W .i64))) fun l736 =>
 .opt (F_ref42_there o4.1) fun r737 =>
 .ite (!r737) (.opt (Sl.app? l736 (Sl.lit 8 [(W.of .i64 9)] rfl : Sl 8 (W .i64))) fun l738 =>
 .ret l738)
 (.ret l736))
 (.opt (F_ref42_there o4.1) fun r739 =>
 .ite (!r739) (.opt (Sl.app? l710 (Sl.lit 8 [(W.of .i64 9)] rfl : Sl 8 (W .i64))) fun l740 =>
 .ret l740)
 (.ret l710)))))
 (.opt (F_ref42_memory o4.1) fun r741 =>
 .ite (!r741) (.opt (Sl.app? o4.2.1 (Sl.lit 8 [(W.of .i64 6)] rfl : Sl 8 (W .i64))) fun l742 =>
 .opt (F_ref27_View o4.1.Phys o4.1.Names.Done) fun r743 =>
 .ite (!(Tab.eq tab (.arr 16 (.int .u32)) r743 o4.1.A.R)) (.opt (Sl.app? l742 (Sl.lit 8 [(W.of .i64 7)] rfl : Sl 8 (W .i64))) fun l744 =>
 .opt (F_ref42_control o4.1.A) fun r745 =>
 .ite (!r745) (.opt (Sl.app? l744 (Sl.lit 8 [(W.of .i64 8)] rfl : Sl 8 (W .i64))) fun l746 =>
 .opt (F_ref42_there o4.1) fun r747 =>
 .ite (!r747) (.opt (Sl.app? l746 (Sl.lit 8 [(W.of .i64 9)] rfl : Sl 8 (W .i64))) fun l748 =>
 .ret l748)
 (.ret l746))
 (.opt (F_ref42_there o4.1) fun r749 =>
 .ite (!r749) (.opt (Sl.app? l744 (Sl.lit 8 [(W.of .i64 9)] rfl : Sl 8 (W .i64))) fun l750 =>
 .ret l750)
 (.ret l744)))
 (.opt (F_ref42_control o4.1.A) fun r751 =>
 .ite (!r751) (.opt (Sl.app? l742 (Sl.lit 8 [(W.of .i64 8)] rfl : Sl 8 (W .i64))) fun l752 =>
 .opt (F_ref42_there o4.1) fun r753 =>
 .ite (!r753) (.opt (Sl.app? l752 (Sl.lit 8 [(W.of .i64 9)] rfl : Sl 8 (W .i64))) fun l754 =>
 .ret l754)
 (.ret l752))
 (.opt (F_ref42_there o4.1) fun r755 =>
 .ite (!r755) (.opt (Sl.app? l742 (Sl.lit 8 [(W.of .i64 9)] rfl : Sl 8 (W .i64))) fun l756 =>
 .ret l756)
 (.ret l742))))
 (.opt (F_ref27_View o4.1.Phys o4.1.Names.Done) fun r757 =>
 .ite (!(Tab.eq tab (.arr 16 (.int .u32)) r757 o4.1.A.R)) (.opt (Sl.app? o4.2.1 (Sl.lit 8 [(W.of .i64 7)] rfl : Sl 8 (W .i64))) fun l758 =>
 .opt (F_ref42_control o4.1.A) fun r759 =>
 .ite (!r759) (.opt (Sl.app? l758 (Sl.lit 8 [(W.of .i64 8)] rfl : Sl 8 (W .i64))) fun l760 =>
 .opt (F_ref42_there o4.1) fun r761 =>
 .ite (!r761) (.opt (Sl.app? l760 (Sl.lit 8 [(W.of .i64 9)] rfl : Sl 8 (W .i64))) fun l762 =>
 .ret l762)
 (.ret l760))
 (.opt (F_ref42_there o4.1) fun r763 =>
 .ite (!r763) (.opt (Sl.app? l758 (Sl.lit 8 [(W.of .i64 9)] rfl : Sl 8 (W .i64))) fun l764 =>
 .ret l764)
 (.ret l758)))
 (.opt (F_ref42_control o4.1.A) fun r765 =>
 .ite (!r765) (.opt (Sl.app? o4.2.1 (Sl.lit 8 [(W.of .i64 8)] rfl : Sl 8 (W .i64))) fun l766 =>
 .opt (F_ref42_there o4.1) fun r767 =>
 .ite (!r767) (.opt (Sl.app? l766 (Sl.lit 8 [(W.of .i64 9)] rfl : Sl 8 (W .i64))) fun l768 =>
 .ret l768)
 (.ret l766))
 (.opt (F_ref42_there o4.1) fun r769 =>
 .ite (!r769) (.opt (Sl.app? o4.2.1 (Sl.lit 8 [(W.of .i64 9)] rfl : Sl 8 (W .i64))) fun l770 =>
 .ret l770)
 (.ret o4.2.1)))))))))
 (.opt (F_ref28_Right o4.1.Names o4.1.Conf.Phys o4.2.2.1) fun r771 =>
 .ite (!r771) (.opt (Sl.app? o4.2.1 (Sl.lit 8 [(W.of .i64 3)] rfl : Sl 8 (W .i64))) fun l772 =>
 .opt (F_ref42_queued o4.1) fun r773 =>
 .ite (!r773) (.opt (Sl.app? l772 (Sl.lit 8 [(W.of .i64 4)] rfl : Sl 8 (W .i64))) fun l774 =>
 .opt (F_ref42_flying o4.1) fun r775 =>
 .ite (!r775) (.opt (Sl.app? l774 (Sl.lit 8 [(W.of .i64 5)] rfl : Sl 8 (W .i64))) fun l776 =>
 .opt (F_ref42_memory o4.1) fun r777 =>
 .ite (!r777) (.opt (Sl.app? l776 (Sl.lit 8 [(W.of .i64 6)] rfl : Sl 8 (W .i64))) fun l778 =>
 .opt (F_ref27_View o4.1.Phys o4.1.Names.Done) fun r779 =>
 .ite (!(Tab.eq tab (.arr 16 (.int .u32)) r779 o4.1.A.R)) (.opt (Sl.app? l778 (Sl.lit 8 [(W.of .i64 7)] rfl : Sl 8 (W .i64))) fun l780 =>
 .opt (F_ref42_control o4.1.A) fun r781 =>
 .ite (!r781) (.opt (Sl.app? l780 (Sl.lit 8 [(W.of .i64 8)] rfl : Sl 8 (W .i64))) fun l782 =>
 .opt (F_ref42_there o4.1) fun r783 =>
 .ite (!r783) (.opt (Sl.app? l782 (Sl.lit 8 [(W.of .i64 9)] rfl : Sl 8 (W .i64))) fun l784 =>
 .ret l784)
 (.ret l782))
 (.opt (F_ref42_there o4.1) fun r785 =>
 .ite (!r785) (.opt (Sl.app? l780 (Sl.lit 8 [(W.of .i64 9)] rfl : Sl 8 (W .i64))) fun l786 =>
 .ret l786)
 (.ret l780)))
 (.opt (F_ref42_control o4.1.A) fun r787 =>
 .ite (!r787) (.opt (Sl.app? l778 (Sl.lit 8 [(W.of .i64 8)] rfl : Sl 8 (W .i64))) fun l788 =>
 .opt (F_ref42_there o4.1) fun r789 =>
 .ite (!r789) (.opt (Sl.app? l788 (Sl.lit 8 [(W.of .i64 9)] rfl : Sl 8 (W .i64))) fun l790 =>
 .ret l790)
 (.ret l788))
 (.opt (F_ref42_there o4.1) fun r791 =>
 .ite (!r791) (.opt (Sl.app? l778 (Sl.lit 8 [(W.of .i64 9)] rfl : Sl 8 (W .i64))) fun l792 =>
 .ret l792)
 (.ret l778))))
 (.opt (F_ref27_View o4.1.Phys o4.1.Names.Done) fun r793 =>
 .ite (!(Tab.eq tab (.arr 16 (.int .u32)) r793 o4.1.A.R)) (.opt (Sl.app? l776 (Sl.lit 8 [(W.of .i64 7)] rfl : Sl 8 (W .i64))) fun l794 =>
 .opt (F_ref42_control o4.1.A) fun r795 =>
 .ite (!r795) (.opt (Sl.app? l794 (Sl.lit 8 [(W.of .i64 8)] rfl : Sl 8 (W .i64))) fun l796 =>
 .opt (F_ref42_there o4.1) fun r797 =>
 .ite (!r797) (.opt (Sl.app? l796 (Sl.lit 8 [(W.of .i64 9)] rfl : Sl 8 (W .i64))) fun l798 =>
 .ret l798)
 (.ret l796))
 (.opt (F_ref42_there o4.1) fun r799 =>
 .ite (!r799) (.opt (Sl.app? l794 (Sl.lit 8 [(W.of .i64 9)] rfl : Sl 8 (W .i64))) fun l800 =>
 .ret l800)
 (.ret l794)))
 (.opt (F_ref42_control o4.1.A) fun r801 =>
 .ite (!r801) (.opt (Sl.app? l776 (Sl.lit 8 [(W.of .i64 8)] rfl : Sl 8 (W .i64))) fun l802 =>
 .opt (F_ref42_there o4.1) fun r803 =>
 .ite (!r803) (.opt (Sl.app? l802 (Sl.lit 8 [(W.of .i64 9)] rfl : Sl 8 (W .i64))) fun l804 =>
 .ret l804)
 (.ret l802))
 (.opt (F_ref42_there o4.1) fun r805 =>
 .ite (!r805) (.opt (Sl.app? l776 (Sl.lit 8 [(W.of .i64 9)] rfl : Sl 8 (W .i64))) fun l806 =>
 .ret l806)
 (.ret l776)))))
 (.opt (F_ref42_memory o4.1) fun r807 =>
 .ite (!r807) (.opt (Sl.app? l774 (Sl.lit 8 [(W.of .i64 6)] rfl : Sl 8 (W .i64))) fun l808 =>
 .opt (F_ref27_View o4.1.Phys o4.1.Names.Done) fun r809 =>
 .ite (!(Tab.eq tab (.arr 16 (.int .u32)) r809 o4.1.A.R)) (.opt (Sl.app? l808 (Sl.lit 8 [(W.of .i64 7)] rfl : Sl 8 (W .i64))) fun l810 =>
 .opt (F_ref42_control o4.1.A) fun r811 =>
 .ite (!r811) (.opt (Sl.app? l810 (Sl.lit 8 [(W.of .i64 8)] rfl : Sl 8 (W .i64))) fun l812 =>
 .opt (F_ref42_there o4.1) fun r813 =>
 .ite (!r813) (.opt (Sl.app? l812 (Sl.lit 8 [(W.of .i64 9)] rfl : Sl 8 (W .i64))) fun l814 =>
 .ret l814)
 (.ret l812))
 (.opt (F_ref42_there o4.1) fun r815 =>
 .ite (!r815) (.opt (Sl.app? l810 (Sl.lit 8 [(W.of .i64 9)] rfl : Sl 8 (W .i64))) fun l816 =>
 .ret l816)
 (.ret l810)))
 (.opt (F_ref42_control o4.1.A) fun r817 =>
 .ite (!r817) (.opt (Sl.app? l808 (Sl.lit 8 [(W.of .i64 8)] rfl : Sl 8 (W .i64))) fun l818 =>
 .opt (F_ref42_there o4.1) fun r819 =>
 .ite (!r819) (.opt (Sl.app? l818 (Sl.lit 8 [(W.of .i64 9)] rfl : Sl 8 (W .i64))) fun l820 =>
 .ret l820)
 (.ret l818))
 (.opt (F_ref42_there o4.1) fun r821 =>
 .ite (!r821) (.opt (Sl.app? l808 (Sl.lit 8 [(W.of .i64 9)] rfl : Sl 8 (W .i64))) fun l822 =>
 .ret l822)
 (.ret l808))))
 (.opt (F_ref27_View o4.1.Phys o4.1.Names.Done) fun r823 =>
 .ite (!(Tab.eq tab (.arr 16 (.int .u32)) r823 o4.1.A.R)) (.opt (Sl.app? l774 (Sl.lit 8 [(W.of .i64 7)] rfl : Sl 8 (W .i64))) fun l824 =>
 .opt (F_ref42_control o4.1.A) fun r825 =>
 .ite (!r825) (.opt (Sl.app? l824 (Sl.lit 8 [(W.of .i64 8)] rfl : Sl 8 (W .i64))) fun l826 =>
 .opt (F_ref42_there o4.1) fun r827 =>
 .ite (!r827) (.opt (Sl.app? l826 (Sl.lit 8 [(W.of .i64 9)] rfl : Sl 8 (W .i64))) fun l828 =>
 .ret l828)
 (.ret l826))
 (.opt (F_ref42_there o4.1) fun r829 =>
 .ite (!r829) (.opt (Sl.app? l824 (Sl.lit 8 [(W.of .i64 9)] rfl : Sl 8 (W .i64))) fun l830 =>
 .ret l830)
 (.ret l824)))
 (.opt (F_ref42_control o4.1.A) fun r831 =>
 .ite (!r831) (.opt (Sl.app? l774 (Sl.lit 8 [(W.of .i64 8)] rfl : Sl 8 (W .i64))) fun l832 =>
 .opt (F_ref42_there o4.1) fun r833 =>
 .ite (!r833) (.opt (Sl.app? l832 (Sl.lit 8 [(W.of .i64 9)] rfl : Sl 8 (W .i64))) fun l834 =>
 .ret l834)
 (.ret l832))
 (.opt (F_ref42_there o4.1) fun r835 =>
 .ite (!r835) (.opt (Sl.app? l774 (Sl.lit 8 [(W.of .i64 9)] rfl : Sl 8 (W .i64))) fun l836 =>
 .ret l836)
 (.ret l774))))))
 (.opt (F_ref42_flying o4.1) fun r837 =>
 .ite (!r837) (.opt (Sl.app? l772 (Sl.lit 8 [(W.of .i64 5)] rfl : Sl 8 (W .i64))) fun l838 =>
 .opt (F_ref42_memory o4.1) fun r839 =>
 .ite (!r839) (.opt (Sl.app? l838 (Sl.lit 8 [(W.of .i64 6)] rfl : Sl 8 (W .i64))) fun l840 =>
 .opt (F_ref27_View o4.1.Phys o4.1.Names.Done) fun r841 =>
 .ite (!(Tab.eq tab (.arr 16 (.int .u32)) r841 o4.1.A.R)) (.opt (Sl.app? l840 (Sl.lit 8 [(W.of .i64 7)] rfl : Sl 8 (W .i64))) fun l842 =>
 .opt (F_ref42_control o4.1.A) fun r843 =>
 .ite (!r843) (.opt (Sl.app? l842 (Sl.lit 8 [(W.of .i64 8)] rfl : Sl 8 (W .i64))) fun l844 =>
 .opt (F_ref42_there o4.1) fun r845 =>
 .ite (!r845) (.opt (Sl.app? l844 (Sl.lit 8 [(W.of .i64 9)] rfl : Sl 8 (W .i64))) fun l846 =>
 .ret l846)
 (.ret l844))
 (.opt (F_ref42_there o4.1) fun r847 =>
 .ite (!r847) (.opt (Sl.app? l842 (Sl.lit 8 [(W.of .i64 9)] rfl : Sl 8 (W .i64))) fun l848 =>
 .ret l848)
 (.ret l842)))
 (.opt (F_ref42_control o4.1.A) fun r849 =>
 .ite (!r849) (.opt (Sl.app? l840 (Sl.lit 8 [(W.of .i64 8)] rfl : Sl 8 (W .i64))) fun l850 =>
 .opt (F_ref42_there o4.1) fun r851 =>
 .ite (!r851) (.opt (Sl.app? l850 (Sl.lit 8 [(W.of .i64 9)] rfl : Sl 8 (W .i64))) fun l852 =>
 .ret l852)
 (.ret l850))
 (.opt (F_ref42_there o4.1) fun r853 =>
 .ite (!r853) (.opt (Sl.app? l840 (Sl.lit 8 [(W.of .i64 9)] rfl : Sl 8 (W .i64))) fun l854 =>
 .ret l854)
 (.ret l840))))
 (.opt (F_ref27_View o4.1.Phys o4.1.Names.Done) fun r855 =>
 .ite (!(Tab.eq tab (.arr 16 (.int .u32)) r855 o4.1.A.R)) (.opt (Sl.app? l838 (Sl.lit 8 [(W.of .i64 7)] rfl : Sl 8 (W .i64))) fun l856 =>
 .opt (F_ref42_control o4.1.A) fun r857 =>
 .ite (!r857) (.opt (Sl.app? l856 (Sl.lit 8 [(W.of .i64 8)] rfl : Sl 8 (W .i64))) fun l858 =>
 .opt (F_ref42_there o4.1) fun r859 =>
 .ite (!r859) (.opt (Sl.app? l858 (Sl.lit 8 [(W.of .i64 9)] rfl : Sl 8 (W .i64))) fun l860 =>
 .ret l860)
 (.ret l858))
 (.opt (F_ref42_there o4.1) fun r861 =>
 .ite (!r861) (.opt (Sl.app? l856 (Sl.lit 8 [(W.of .i64 9)] rfl : Sl 8 (W .i64))) fun l862 =>
 .ret l862)
 (.ret l856)))
 (.opt (F_ref42_control o4.1.A) fun r863 =>
 .ite (!r863) (.opt (Sl.app? l838 (Sl.lit 8 [(W.of .i64 8)] rfl : Sl 8 (W .i64))) fun l864 =>
 .opt (F_ref42_there o4.1) fun r865 =>
 .ite (!r865) (.opt (Sl.app? l864 (Sl.lit 8 [(W.of .i64 9)] rfl : Sl 8 (W .i64))) fun l866 =>
 .ret l866)
 (.ret l864))
 (.opt (F_ref42_there o4.1) fun r867 =>
 .ite (!r867) (.opt (Sl.app? l838 (Sl.lit 8 [(W.of .i64 9)] rfl : Sl 8 (W .i64))) fun l868 =>
 .ret l868)
 (.ret l838)))))
 (.opt (F_ref42_memory o4.1) fun r869 =>
 .ite (!r869) (.opt (Sl.app? l772 (Sl.lit 8 [(W.of .i64 6)] rfl : Sl 8 (W .i64))) fun l870 =>
 .opt (F_ref27_View o4.1.Phys o4.1.Names.Done) fun r871 =>
 .ite (!(Tab.eq tab (.arr 16 (.int .u32)) r871 o4.1.A.R)) (.opt (Sl.app? l870 (Sl.lit 8 [(W.of .i64 7)] rfl : Sl 8 (W .i64))) fun l872 =>
 .opt (F_ref42_control o4.1.A) fun r873 =>
 .ite (!r873) (.opt (Sl.app? l872 (Sl.lit 8 [(W.of .i64 8)] rfl : Sl 8 (W .i64))) fun l874 =>
 .opt (F_ref42_there o4.1) fun r875 =>
 .ite (!r875) (.opt (Sl.app? l874 (Sl.lit 8 [(W.of .i64 9)] rfl : Sl 8 (W .i64))) fun l876 =>
 .ret l876)
 (.ret l874))
 (.opt (F_ref42_there o4.1) fun r877 =>
 .ite (!r877) (.opt (Sl.app? l872 (Sl.lit 8 [(W.of .i64 9)] rfl : Sl 8 (W .i64))) fun l878 =>
 .ret l878)
 (.ret l872)))
 (.opt (F_ref42_control o4.1.A) fun r879 =>
 .ite (!r879) (.opt (Sl.app? l870 (Sl.lit 8 [(W.of .i64 8)] rfl : Sl 8 (W .i64))) fun l880 =>
 .opt (F_ref42_there o4.1) fun r881 =>
 .ite (!r881) (.opt (Sl.app? l880 (Sl.lit 8 [(W.of .i64 9)] rfl : Sl 8 (W .i64))) fun l882 =>
 .ret l882)
 (.ret l880))
 (.opt (F_ref42_there o4.1) fun r883 =>
 .ite (!r883) (.opt (Sl.app? l870 (Sl.lit 8 [(W.of .i64 9)] rfl : Sl 8 (W .i64))) fun l884 =>
 .ret l884)
 (.ret l870))))
 (.opt (F_ref27_View o4.1.Phys o4.1.Names.Done) fun r885 =>
 .ite (!(Tab.eq tab (.arr 16 (.int .u32)) r885 o4.1.A.R)) (.opt (Sl.app? l772 (Sl.lit 8 [(W.of .i64 7)] rfl : Sl 8 (W .i64))) fun l886 =>
 .opt (F_ref42_control o4.1.A) fun r887 =>
 .ite (!r887) (.opt (Sl.app? l886 (Sl.lit 8 [(W.of .i64 8)] rfl : Sl 8 (W .i64))) fun l888 =>
 .opt (F_ref42_there o4.1) fun r889 =>
 .ite (!r889) (.opt (Sl.app? l888 (Sl.lit 8 [(W.of .i64 9)] rfl : Sl 8 (W .i64))) fun l890 =>
 .ret l890)
 (.ret l888))
 (.opt (F_ref42_there o4.1) fun r891 =>
 .ite (!r891) (.opt (Sl.app? l886 (Sl.lit 8 [(W.of .i64 9)] rfl : Sl 8 (W .i64))) fun l892 =>
 .ret l892)
 (.ret l886)))
 (.opt (F_ref42_control o4.1.A) fun r893 =>
 .ite (!r893) (.opt (Sl.app? l772 (Sl.lit 8 [(W.of .i64 8)] rfl : Sl 8 (W .i64))) fun l894 =>
 .opt (F_ref42_there o4.1) fun r895 =>
 .ite (!r895) (.opt (Sl.app? l894 (Sl.lit 8 [(W.of .i64 9)] rfl : Sl 8 (W .i64))) fun l896 =>
 .ret l896)
 (.ret l894))
 (.opt (F_ref42_there o4.1) fun r897 =>
 .ite (!r897) (.opt (Sl.app? l772 (Sl.lit 8 [(W.of .i64 9)] rfl : Sl 8 (W .i64))) fun l898 =>
 .ret l898)
 (.ret l772)))))))
 (.opt (F_ref42_queued o4.1) fun r899 =>
 .ite (!r899) (.opt (Sl.app? o4.2.1 (Sl.lit 8 [(W.of .i64 4)] rfl : Sl 8 (W .i64))) fun l900 =>
 .opt (F_ref42_flying o4.1) fun r901 =>
 .ite (!r901) (.opt (Sl.app? l900 (Sl.lit 8 [(W.of .i64 5)] rfl : Sl 8 (W .i64))) fun l902 =>
 .opt (F_ref42_memory o4.1) fun r903 =>
 .ite (!r903) (.opt (Sl.app? l902 (Sl.lit 8 [(W.of .i64 6)] rfl : Sl 8 (W .i64))) fun l904 =>
 .opt (F_ref27_View o4.1.Phys o4.1.Names.Done) fun r905 =>
 .ite (!(Tab.eq tab (.arr 16 (.int .u32)) r905 o4.1.A.R)) (.opt (Sl.app? l904 (Sl.lit 8 [(W.of .i64 7)] rfl : Sl 8 (W .i64))) fun l906 =>
 .opt (F_ref42_control o4.1.A) fun r907 =>
 .ite (!r907) (.opt (Sl.app? l906 (Sl.lit 8 [(W.of .i64 8)] rfl : Sl 8 (W .i64))) fun l908 =>
 .opt (F_ref42_there o4.1) fun r909 =>
 .ite (!r909) (.opt (Sl.app? l908 (Sl.lit 8 [(W.of .i64 9)] rfl : Sl 8 (W .i64))) fun l910 =>
 .ret l910)
 (.ret l908))
 (.opt (F_ref42_there o4.1) fun r911 =>
 .ite (!r911) (.opt (Sl.app? l906 (Sl.lit 8 [(W.of .i64 9)] rfl : Sl 8 (W .i64))) fun l912 =>
 .ret l912)
 (.ret l906)))
 (.opt (F_ref42_control o4.1.A) fun r913 =>
 .ite (!r913) (.opt (Sl.app? l904 (Sl.lit 8 [(W.of .i64 8)] rfl : Sl 8 (W .i64))) fun l914 =>
 .opt (F_ref42_there o4.1) fun r915 =>
 .ite (!r915) (.opt (Sl.app? l914 (Sl.lit 8 [(W.of .i64 9)] rfl : Sl 8 (W .i64))) fun l916 =>
 .ret l916)
 (.ret l914))
 (.opt (F_ref42_there o4.1) fun r917 =>
 .ite (!r917) (.opt (Sl.app? l904 (Sl.lit 8 [(W.of .i64 9)] rfl : Sl 8 (W .i64))) fun l918 =>
 .ret l918)
 (.ret l904))))
 (.opt (F_ref27_View o4.1.Phys o4.1.Names.Done) fun r919 =>
 .ite (!(Tab.eq tab (.arr 16 (.int .u32)) r919 o4.1.A.R)) (.opt (Sl.app? l902 (Sl.lit 8 [(W.of .i64 7)] rfl : Sl 8 (W .i64))) fun l920 =>
 .opt (F_ref42_control o4.1.A) fun r921 =>
 .ite (!r921) (.opt (Sl.app? l920 (Sl.lit 8 [(W.of .i64 8)] rfl : Sl 8 (W .i64))) fun l922 =>
 .opt (F_ref42_there o4.1) fun r923 =>
 .ite (!r923) (.opt (Sl.app? l922 (Sl.lit 8 [(W.of .i64 9)] rfl : Sl 8 (W .i64))) fun l924 =>
 .ret l924)
 (.ret l922))
 (.opt (F_ref42_there o4.1) fun r925 =>
 .ite (!r925) (.opt (Sl.app? l920 (Sl.lit 8 [(W.of .i64 9)] rfl : Sl 8 (W .i64))) fun l926 =>
 .ret l926)
 (.ret l920)))
 (.opt (F_ref42_control o4.1.A) fun r927 =>
 .ite (!r927) (.opt (Sl.app? l902 (Sl.lit 8 [(W.of .i64 8)] rfl : Sl 8 (W .i64))) fun l928 =>
 .opt (F_ref42_there o4.1) fun r929 =>
 .ite (!r929) (.opt (Sl.app? l928 (Sl.lit 8 [(W.of .i64 9)] rfl : Sl 8 (W .i64))) fun l930 =>
 .ret l930)
 (.ret l928))
 (.opt (F_ref42_there o4.1) fun r931 =>
 .ite (!r931) (.opt (Sl.app? l902 (Sl.lit 8 [(W.of .i64 9)] rfl : Sl 8 (W .i64))) fun l932 =>
 .ret l932)
 (.ret l902)))))
 (.opt (F_ref42_memory o4.1) fun r933 =>
 .ite (!r933) (.opt (Sl.app? l900 (Sl.lit 8 [(W.of .i64 6)] rfl : Sl 8 (W .i64))) fun l934 =>
 .opt (F_ref27_View o4.1.Phys o4.1.Names.Done) fun r935 =>
 .ite (!(Tab.eq tab (.arr 16 (.int .u32)) r935 o4.1.A.R)) (.opt (Sl.app? l934 (Sl.lit 8 [(W.of .i64 7)] rfl : Sl 8 (W .i64))) fun l936 =>
 .opt (F_ref42_control o4.1.A) fun r937 =>
 .ite (!r937) (.opt (Sl.app? l936 (Sl.lit 8 [(W.of .i64 8)] rfl : Sl 8 (W .i64))) fun l938 =>
 .opt (F_ref42_there o4.1) fun r939 =>
 .ite (!r939) (.opt (Sl.app? l938 (Sl.lit 8 [(W.of .i64 9)] rfl : Sl 8 (W .i64))) fun l940 =>
 .ret l940)
 (.ret l938))
 (.opt (F_ref42_there o4.1) fun r941 =>
 .ite (!r941) (.opt (Sl.app? l936 (Sl.lit 8 [(W.of .i64 9)] rfl : Sl 8 (W .i64))) fun l942 =>
 .ret l942)
 (.ret l936)))
 (.opt (F_ref42_control o4.1.A) fun r943 =>
 .ite (!r943) (.opt (Sl.app? l934 (Sl.lit 8 [(W.of .i64 8)] rfl : Sl 8 (W .i64))) fun l944 =>
 .opt (F_ref42_there o4.1) fun r945 =>
 .ite (!r945) (.opt (Sl.app? l944 (Sl.lit 8 [(W.of .i64 9)] rfl : Sl 8 (W .i64))) fun l946 =>
 .ret l946)
 (.ret l944))
 (.opt (F_ref42_there o4.1) fun r947 =>
 .ite (!r947) (.opt (Sl.app? l934 (Sl.lit 8 [(W.of .i64 9)] rfl : Sl 8 (W .i64))) fun l948 =>
 .ret l948)
 (.ret l934))))
 (.opt (F_ref27_View o4.1.Phys o4.1.Names.Done) fun r949 =>
 .ite (!(Tab.eq tab (.arr 16 (.int .u32)) r949 o4.1.A.R)) (.opt (Sl.app? l900 (Sl.lit 8 [(W.of .i64 7)] rfl : Sl 8 (W .i64))) fun l950 =>
 .opt (F_ref42_control o4.1.A) fun r951 =>
 .ite (!r951) (.opt (Sl.app? l950 (Sl.lit 8 [(W.of .i64 8)] rfl : Sl 8 (W .i64))) fun l952 =>
 .opt (F_ref42_there o4.1) fun r953 =>
 .ite (!r953) (.opt (Sl.app? l952 (Sl.lit 8 [(W.of .i64 9)] rfl : Sl 8 (W .i64))) fun l954 =>
 .ret l954)
 (.ret l952))
 (.opt (F_ref42_there o4.1) fun r955 =>
 .ite (!r955) (.opt (Sl.app? l950 (Sl.lit 8 [(W.of .i64 9)] rfl : Sl 8 (W .i64))) fun l956 =>
 .ret l956)
 (.ret l950)))
 (.opt (F_ref42_control o4.1.A) fun r957 =>
 .ite (!r957) (.opt (Sl.app? l900 (Sl.lit 8 [(W.of .i64 8)] rfl : Sl 8 (W .i64))) fun l958 =>
 .opt (F_ref42_there o4.1) fun r959 =>
 .ite (!r959) (.opt (Sl.app? l958 (Sl.lit 8 [(W.of .i64 9)] rfl : Sl 8 (W .i64))) fun l960 =>
 .ret l960)
 (.ret l958))
 (.opt (F_ref42_there o4.1) fun r961 =>
 .ite (!r961) (.opt (Sl.app? l900 (Sl.lit 8 [(W.of .i64 9)] rfl : Sl 8 (W .i64))) fun l962 =>
 .ret l962)
 (.ret l900))))))
 (.opt (F_ref42_flying o4.1) fun r963 =>
 .ite (!r963) (.opt (Sl.app? o4.2.1 (Sl.lit 8 [(W.of .i64 5)] rfl : Sl 8 (W .i64))) fun l964 =>
 .opt (F_ref42_memory o4.1) fun r965 =>
 .ite (!r965) (.opt (Sl.app? l964 (Sl.lit 8 [(W.of .i64 6)] rfl : Sl 8 (W .i64))) fun l966 =>
 .opt (F_ref27_View o4.1.Phys o4.1.Names.Done) fun r967 =>
 .ite (!(Tab.eq tab (.arr 16 (.int .u32)) r967 o4.1.A.R)) (.opt (Sl.app? l966 (Sl.lit 8 [(W.of .i64 7)] rfl : Sl 8 (W .i64))) fun l968 =>
 .opt (F_ref42_control o4.1.A) fun r969 =>
 .ite (!r969) (.opt (Sl.app? l968 (Sl.lit 8 [(W.of .i64 8)] rfl : Sl 8 (W .i64))) fun l970 =>
 .opt (F_ref42_there o4.1) fun r971 =>
 .ite (!r971) (.opt (Sl.app? l970 (Sl.lit 8 [(W.of .i64 9)] rfl : Sl 8 (W .i64))) fun l972 =>
 .ret l972)
 (.ret l970))
 (.opt (F_ref42_there o4.1) fun r973 =>
 .ite (!r973) (.opt (Sl.app? l968 (Sl.lit 8 [(W.of .i64 9)] rfl : Sl 8 (W .i64))) fun l974 =>
 .ret l974)
 (.ret l968)))
 (.opt (F_ref42_control o4.1.A) fun r975 =>
 .ite (!r975) (.opt (Sl.app? l966 (Sl.lit 8 [(W.of .i64 8)] rfl : Sl 8 (W .i64))) fun l976 =>
 .opt (F_ref42_there o4.1) fun r977 =>
 .ite (!r977) (.opt (Sl.app? l976 (Sl.lit 8 [(W.of .i64 9)] rfl : Sl 8 (W .i64))) fun l978 =>
 .ret l978)
 (.ret l976))
 (.opt (F_ref42_there o4.1) fun r979 =>
 .ite (!r979) (.opt (Sl.app? l966 (Sl.lit 8 [(W.of .i64 9)] rfl : Sl 8 (W .i64))) fun l980 =>
 .ret l980)
 (.ret l966))))
 (.opt (F_ref27_View o4.1.Phys o4.1.Names.Done) fun r981 =>
 .ite (!(Tab.eq tab (.arr 16 (.int .u32)) r981 o4.1.A.R)) (.opt (Sl.app? l964 (Sl.lit 8 [(W.of .i64 7)] rfl : Sl 8 (W .i64))) fun l982 =>
 .opt (F_ref42_control o4.1.A) fun r983 =>
 .ite (!r983) (.opt (Sl.app? l982 (Sl.lit 8 [(W.of .i64 8)] rfl : Sl 8 (W .i64))) fun l984 =>
 .opt (F_ref42_there o4.1) fun r985 =>
 .ite (!r985) (.opt (Sl.app? l984 (Sl.lit 8 [(W.of .i64 9)] rfl : Sl 8 (W .i64))) fun l986 =>
 .ret l986)
 (.ret l984))
 (.opt (F_ref42_there o4.1) fun r987 =>
 .ite (!r987) (.opt (Sl.app? l982 (Sl.lit 8 [(W.of .i64 9)] rfl : Sl 8 (W .i64))) fun l988 =>
 .ret l988)
 (.ret l982)))
 (.opt (F_ref42_control o4.1.A) fun r989 =>
 .ite (!r989) (.opt (Sl.app? l964 (Sl.lit 8 [(W.of .i64 8)] rfl : Sl 8 (W .i64))) fun l990 =>
 .opt (F_ref42_there o4.1) fun r991 =>
 .ite (!r991) (.opt (Sl.app? l990 (Sl.lit 8 [(W.of .i64 9)] rfl : Sl 8 (W .i64))) fun l992 =>
 .ret l992)
 (.ret l990))
 (.opt (F_ref42_there o4.1) fun r993 =>
 .ite (!r993) (.opt (Sl.app? l964 (Sl.lit 8 [(W.of .i64 9)] rfl : Sl 8 (W .i64))) fun l994 =>
 .ret l994)
 (.ret l964)))))
 (.opt (F_ref42_memory o4.1) fun r995 =>
 .ite (!r995) (.opt (Sl.app? o4.2.1 (Sl.lit 8 [(W.of .i64 6)] rfl : Sl 8 (W .i64))) fun l996 =>
 .opt (F_ref27_View o4.1.Phys o4.1.Names.Done) fun r997 =>
 .ite (!(Tab.eq tab (.arr 16 (.int .u32)) r997 o4.1.A.R)) (.opt (Sl.app? l996 (Sl.lit 8 [(W.of .i64 7)] rfl : Sl 8 (W .i64))) fun l998 =>
 .opt (F_ref42_control o4.1.A) fun r999 =>
 .ite (!r999) (.opt (Sl.app? l998 (Sl.lit 8 [(W.of .i64 8)] rfl : Sl 8 (W .i64))) fun l1000 =>
 .opt (F_ref42_there o4.1) fun r1001 =>
 .ite (!r1001) (.opt (Sl.app? l1000 (Sl.lit 8 [(W.of .i64 9)] rfl : Sl 8 (W .i64))) fun l1002 =>
 .ret l1002)
 (.ret l1000))
 (.opt (F_ref42_there o4.1) fun r1003 =>
 .ite (!r1003) (.opt (Sl.app? l998 (Sl.lit 8 [(W.of .i64 9)] rfl : Sl 8 (W .i64))) fun l1004 =>
 .ret l1004)
 (.ret l998)))
 (.opt (F_ref42_control o4.1.A) fun r1005 =>
 .ite (!r1005) (.opt (Sl.app? l996 (Sl.lit 8 [(W.of .i64 8)] rfl : Sl 8 (W .i64))) fun l1006 =>
 .opt (F_ref42_there o4.1) fun r1007 =>
 .ite (!r1007) (.opt (Sl.app? l1006 (Sl.lit 8 [(W.of .i64 9)] rfl : Sl 8 (W .i64))) fun l1008 =>
 .ret l1008)
 (.ret l1006))
 (.opt (F_ref42_there o4.1) fun r1009 =>
 .ite (!r1009) (.opt (Sl.app? l996 (Sl.lit 8 [(W.of .i64 9)] rfl : Sl 8 (W .i64))) fun l1010 =>
 .ret l1010)
 (.ret l996))))
 (.opt (F_ref27_View o4.1.Phys o4.1.Names.Done) fun r1011 =>
 .ite (!(Tab.eq tab (.arr 16 (.int .u32)) r1011 o4.1.A.R)) (.opt (Sl.app? o4.2.1 (Sl.lit 8 [(W.of .i64 7)] rfl : Sl 8 (W .i64))) fun l1012 =>
 .opt (F_ref42_control o4.1.A) fun r1013 =>
 .ite (!r1013) (.opt (Sl.app? l1012 (Sl.lit 8 [(W.of .i64 8)] rfl : Sl 8 (W .i64))) fun l1014 =>
 .opt (F_ref42_there o4.1) fun r1015 =>
 .ite (!r1015) (.opt (Sl.app? l1014 (Sl.lit 8 [(W.of .i64 9)] rfl : Sl 8 (W .i64))) fun l1016 =>
 .ret l1016)
 (.ret l1014))
 (.opt (F_ref42_there o4.1) fun r1017 =>
 .ite (!r1017) (.opt (Sl.app? l1012 (Sl.lit 8 [(W.of .i64 9)] rfl : Sl 8 (W .i64))) fun l1018 =>
 .ret l1018)
 (.ret l1012)))
 (.opt (F_ref42_control o4.1.A) fun r1019 =>
 .ite (!r1019) (.opt (Sl.app? o4.2.1 (Sl.lit 8 [(W.of .i64 8)] rfl : Sl 8 (W .i64))) fun l1020 =>
 .opt (F_ref42_there o4.1) fun r1021 =>
 .ite (!r1021) (.opt (Sl.app? l1020 (Sl.lit 8 [(W.of .i64 9)] rfl : Sl 8 (W .i64))) fun l1022 =>
 .ret l1022)
 (.ret l1020))
 (.opt (F_ref42_there o4.1) fun r1023 =>
 .ite (!r1023) (.opt (Sl.app? o4.2.1 (Sl.lit 8 [(W.of .i64 9)] rfl : Sl 8 (W .i64))) fun l1024 =>
 .ret l1024)
 (.ret o4.2.1))))))))))
noncomputable def F_ref42_Broken (c : TCore) : Option (Sl 8 (W .i64)) := (T_ref42_Broken c).eval
/- cotterel/cotterelsame.Ints -/
noncomputable def B_same_Ints_11 (a b : Sl 8 (W .i64)) (i : W .i64) : Tree (Rnd (Sl 8 (W .i64) × Sl 8 (W .i64) × W .i64 × Unit) ((Bool × Unit) ⊕ (Unit × Unit))) :=
 .ite (W.lt i (Sl.len a)) (.ite (W.lt i (Sl.len b)) (.opt (Sl.get? a i) fun y1 =>
 .opt (Sl.get? b i) fun y2 =>
 .ite (W.ne y1 y2) (.ret (.out (.inl (false, ()))))
 (.ret (.next (a, b, (W.add i (W.of .i64 1)), ()))))
 (.ret (.out (.inr ((), ())))))
 (.ret (.out (.inr ((), ()))))
noncomputable def L_same_Ints_11 (a : Sl 8 (W .i64) × Sl 8 (W .i64) × W .i64 × Unit) : Option ((Bool × Unit) ⊕ (Unit × Unit)) := iter (fun a : Sl 8 (W .i64) × Sl 8 (W .i64) × W .i64 × Unit => (B_same_Ints_11 a.1 a.2.1 a.2.2.1).eval) fuel a
noncomputable def T_same_Ints (a b : Sl 8 (W .i64)) : Tree (Bool) :=
 .ite (W.ne (Sl.len a) (Sl.len b)) (.ret false)
 (.opt (L_same_Ints_11 ((a, b, (W.of .i64 0), ()))) fun o3 =>
 .sum o3 (fun p4 =>
 .ret p4.1)
 (fun o5 =>
 .ret true))
noncomputable def F_same_Ints (a b : Sl 8 (W .i64)) : Option (Bool) := (T_same_Ints a b).eval
/- cotterel/cotterelref42.Empty -/
noncomputable def T_ref42_Empty (c : TCore) : Tree (Bool) :=
 .ite (W.eq (Sl.len c.Queue) (W.of .i64 0)) (.ite (W.eq (Sl.len c.Rob) (W.of .i64 0)) (.ite (W.eq (Sl.len c.Iq) (W.of .i64 0)) (.ite (W.eq (Sl.len c.Lq) (W.of .i64 0)) (.ite (W.eq (Sl.len c.Sq) (W.of .i64 0)) (.ite (W.eq (Sl.len c.Sb) (W.of .i64 0)) (.ret (W.eq (Sl.len c.Units) (W.of .i64 0)))
 (.ret false))
 (.ret false))
 (.ret false))
 (.ret false))
 (.ret false))
 (.ret false)
noncomputable def F_ref42_Empty (c : TCore) : Option (Bool) := (T_ref42_Empty c).eval
/- cotterel/cotterellaw42.CoreBreaks -/
noncomputable def T_law42_CoreBreaks (c : TCore) : Tree (Bool) :=
 .opt (F_law42_Light c) fun r1 =>
 .ite (!r1) (.opt (F_law42_awake) fun r2 =>
 .ret r2)
 (.opt (F_core_Broken c) fun r3 =>
 .opt (F_ref42_Broken c) fun r4 =>
 .opt (F_same_Ints r3 r4) fun r5 =>
 .ite r5 (.opt (F_core_Empty c) fun r6 =>
 .opt (F_ref42_Empty c) fun r7 =>
 .ite (beqB r6 r7) (.opt (F_core_Arch c) fun r8 =>
 .ite (Tab.eq tab (.named .TArch) r8 c.A) (.opt (F_law42_awake) fun r9 =>
 .ret r9)
 (.ret false))
 (.ret false))
 (.ret false))
noncomputable def F_law42_CoreBreaks (c : TCore) : Option (Bool) := (T_law42_CoreBreaks c).eval
/- cotterel/cotterelref10.Right -/
noncomputable def T_ref10_Right (m : Sl 1 (W .u8)) : Tree (Bool) :=
 .ite (W.eq (W.rem (Sl.len m) (W.of .i64 64)) (W.of .i64 0)) (.ite (W.ge (Sl.len m) (W.of .i64 64)) (.ret (W.le (Sl.len m) (W.of .i64 16384)))
 (.ret false))
 (.ret false)
noncomputable def F_ref10_Right (m : Sl 1 (W .u8)) : Option (Bool) := (T_ref10_Right m).eval
/- cotterel/cotterelref15.Right -/
noncomputable def B_ref15_Right_11 (m : TMach) (i : W .i64) : Tree (Rnd (TMach × W .i64 × Unit) ((Bool × Unit) ⊕ (Unit × Unit))) :=
 .ite (W.lt i (W.of .i64 12)) (.opt (idx? 12 i) fun j2 =>
 .opt (F_ref11_Masked i) fun r3 =>
 .opt (idx? 12 i) fun j4 =>
 .ite (W.ne (W.and (Arr.get m.A.C j2) r3) (Arr.get m.A.C j4)) (.ret (.out (.inl (false, ()))))
 (.ret (.next (m, (W.add i (W.of .i64 1)), ()))))
 (.ret (.out (.inr ((), ()))))
noncomputable def L_ref15_Right_11 (a : TMach × W .i64 × Unit) : Option ((Bool × Unit) ⊕ (Unit × Unit)) := iter (fun a : TMach × W .i64 × Unit => (B_ref15_Right_11 a.1 a.2.1).eval) fuel a
noncomputable def T_ref15_Right (m : TMach) : Tree (Bool) :=
 .opt (F_ref10_Right m.Mem) fun r1 =>
 .ite (!r1) (.ret false)
 (.ite (W.ne (Sl.len m.Shadow) (Sl.len m.Mem)) (.ret false)
 (.ite (W.ne (Arr.get m.A.R 0) (W.of .u32 0)) (.ret false)
 (.opt (L_ref15_Right_11 ((m, (W.of .i64 0), ()))) fun o5 =>
 .sum o5 (fun p6 =>
 .ret p6.1)
 (fun o7 =>
 .ret true))))
noncomputable def F_ref15_Right (m : TMach) : Option (Bool) := (T_ref15_Right m).eval
/- cotterel/cotterellaw15.Light -/
noncomputable def T_law15_Light (m : TMach) : Tree (Bool) :=
 .ite (W.le (Sl.len m.Mem) (W.of .i64 2048)) (.ite (W.le (Sl.len m.Out) (W.of .i64 60)) (.opt (F_ref15_Right m) fun r1 =>
 .ret r1)
 (.ret false))
 (.ret false)
noncomputable def F_law15_Light (m : TMach) : Option (Bool) := (T_law15_Light m).eval
/- cotterel/cotterelsame.Bytes -/
noncomputable def B_same_Bytes_11 (a b : Sl 1 (W .u8)) (i : W .i64) : Tree (Rnd (Sl 1 (W .u8) × Sl 1 (W .u8) × W .i64 × Unit) ((Bool × Unit) ⊕ (Unit × Unit))) :=
 .ite (W.lt i (Sl.len a)) (.ite (W.lt i (Sl.len b)) (.opt (Sl.get? a i) fun y1 =>
 .opt (Sl.get? b i) fun y2 =>
 .ite (W.ne y1 y2) (.ret (.out (.inl (false, ()))))
 (.ret (.next (a, b, (W.add i (W.of .i64 1)), ()))))
 (.ret (.out (.inr ((), ())))))
 (.ret (.out (.inr ((), ()))))
noncomputable def L_same_Bytes_11 (a : Sl 1 (W .u8) × Sl 1 (W .u8) × W .i64 × Unit) : Option ((Bool × Unit) ⊕ (Unit × Unit)) := iter (fun a : Sl 1 (W .u8) × Sl 1 (W .u8) × W .i64 × Unit => (B_same_Bytes_11 a.1 a.2.1 a.2.2.1).eval) fuel a
noncomputable def T_same_Bytes (a b : Sl 1 (W .u8)) : Tree (Bool) :=
 .ite (W.ne (Sl.len a) (Sl.len b)) (.ret false)
 (.opt (L_same_Bytes_11 ((a, b, (W.of .i64 0), ()))) fun o3 =>
 .sum o3 (fun p4 =>
 .ret p4.1)
 (fun o5 =>
 .ret true))
noncomputable def F_same_Bytes (a b : Sl 1 (W .u8)) : Option (Bool) := (T_same_Bytes a b).eval
/- cotterel/cotterelsame.Words -/
noncomputable def B_same_Words_11 (a b : Sl 4 (W .u32)) (i : W .i64) : Tree (Rnd (Sl 4 (W .u32) × Sl 4 (W .u32) × W .i64 × Unit) ((Bool × Unit) ⊕ (Unit × Unit))) :=
 .ite (W.lt i (Sl.len a)) (.ite (W.lt i (Sl.len b)) (.opt (Sl.get? a i) fun y1 =>
 .opt (Sl.get? b i) fun y2 =>
 .ite (W.ne y1 y2) (.ret (.out (.inl (false, ()))))
 (.ret (.next (a, b, (W.add i (W.of .i64 1)), ()))))
 (.ret (.out (.inr ((), ())))))
 (.ret (.out (.inr ((), ()))))
noncomputable def L_same_Words_11 (a : Sl 4 (W .u32) × Sl 4 (W .u32) × W .i64 × Unit) : Option ((Bool × Unit) ⊕ (Unit × Unit)) := iter (fun a : Sl 4 (W .u32) × Sl 4 (W .u32) × W .i64 × Unit => (B_same_Words_11 a.1 a.2.1 a.2.2.1).eval) fuel a
noncomputable def T_same_Words (a b : Sl 4 (W .u32)) : Tree (Bool) :=
 .ite (W.ne (Sl.len a) (Sl.len b)) (.ret false)
 (.opt (L_same_Words_11 ((a, b, (W.of .i64 0), ()))) fun o3 =>
 .sum o3 (fun p4 =>
 .ret p4.1)
 (fun o5 =>
 .ret true))
noncomputable def F_same_Words (a b : Sl 4 (W .u32)) : Option (Bool) := (T_same_Words a b).eval
/- cotterel/cotterellaw42.CoreNew -/
noncomputable def T_law42_CoreNew (c : TConf) (m : TMach) : Tree (Bool) :=
 .opt (F_law15_Light m) fun r1 =>
 .ite (!r1) (.opt (F_law42_awake) fun r2 =>
 .ret r2)
 (.opt (F_ref42_Conf c) fun r3 =>
 .ite (W.ne r3 (W.of .i64 0)) (.opt (F_law42_awake) fun r4 =>
 .ret r4)
 (.opt (F_core_New c m) fun r5 =>
 .ite (W.eq r5.2 (W.of .i64 0)) (.opt (F_core_Broken r5.1) fun r6 =>
 .ite (W.eq (Sl.len r6) (W.of .i64 0)) (.opt (F_core_Empty r5.1) fun r7 =>
 .ite r7 (.opt (F_core_Arch r5.1) fun r8 =>
 .ite (Tab.eq tab (.named .TArch) r8 m.A) (.opt (F_same_Bytes r5.1.Shadow m.Shadow) fun r9 =>
 .ite r9 (.opt (F_same_Words r5.1.Out m.Out) fun r10 =>
 .ite r10 (.ite (W.eq r5.1.PC m.A.PC) (.ite (!r5.1.Hold) (.opt (F_law42_awake) fun r11 =>
 .ret r11)
 (.ret false))
 (.ret false))
 (.ret false))
 (.ret false))
 (.ret false))
 (.ret false))
 (.ret false))
 (.ret false)))
noncomputable def F_law42_CoreNew (c : TConf) (m : TMach) : Option (Bool) := (T_law42_CoreNew c m).eval
end Go.Proofs.Ytdafegdnjedohaa
