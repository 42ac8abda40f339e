/- YtdafegdnjedohaaGreatTabs: the tables of functions and marks. No statement of the seat is proved here. -/
import Derived.Test.YtdafegdnjedohaaGreatTrees
import Derived.Test.YtdafegdnjedohaaGreatChecked
import Derived.Test.YtdafegdnjedohaaGreatA2G
set_option maxRecDepth 100000
namespace Go.Proofs.YtdafegdnjedohaaGreat
open Go Go.A2
noncomputable def x_core_Plain : FnX := ⟨[0], [], [true], []⟩
noncomputable def g_core_Plain : AFn tab := gOf Tryz.prog cx x_core_Plain Tryz.f11
noncomputable def N_core_Plain : FnK tab := ⟨[], TConf, fun a : Unit => F_core_Plain, fun r : TConf => (.val (.named .TConf) r (.no), [])⟩
noncomputable def t_core_Plain : Nat → List (FnK tab) := tbl []
noncomputable def q_core_Plain : Nat → Option (MarkK tab) := fun _ => none
noncomputable def x_core_bounds : FnX := ⟨[0, 1, 2], [], [true], []⟩
noncomputable def g_core_bounds : AFn tab := gOf Tryz.prog cx x_core_bounds Tryz.f55
noncomputable def N_core_bounds : FnK tab := ⟨[.val (.named .TConf) (.no)], Sl 24 (TBound), fun a : TConf × Unit => F_core_bounds a.1, fun r : Sl 24 (TBound) => (.val (.slice 24 (.named .TBound)) r (.no), [.undef])⟩
noncomputable def t_core_bounds : Nat → List (FnK tab) := tbl []
noncomputable def q_core_bounds : Nat → Option (MarkK tab) := fun _ => none
noncomputable def x_core_Conf_1 : FnX := ⟨[0, 1, 2], [], [true], []⟩
noncomputable def g_core_Conf_1 : AFn tab := gOf Tryz.prog cx x_core_Conf_1 Tryz.f56
noncomputable def N_core_Conf_1 : FnK tab := ⟨[.val (.named .TBound) (.no)], Bool, fun a : TBound × Unit => F_core_Conf_1 a.1, fun r : Bool => (.val (.bool) r (.no), [.undef])⟩
noncomputable def t_core_Conf_1 : Nat → List (FnK tab) := tbl []
noncomputable def q_core_Conf_1 : Nat → Option (MarkK tab) := fun _ => none
noncomputable def x_slices_IndexFunc_bound : FnX := ⟨[0, 1, 4, 5, 7, 8, 9, 16], [], [true], [(5, [(0, .any), (1, .any), (7, .any), (8, .any)]), (6, [(4, .any)]), (7, [(0, .any), (1, .any), (7, .any), (8, .any)])]⟩
noncomputable def g_slices_IndexFunc_bound : AFn tab := gOf Tryz.prog cx x_slices_IndexFunc_bound Tryz.f101
noncomputable def K_slices_IndexFunc_bound_5 : MarkK tab := ⟨[(0, .val (.slice 24 (.named .TBound)) (.no)), (1, .fn 56 [] []), (7, .val (.int .i64) (.no)), (8, .val (.int .i64) (.no))], [(.ret, [(4, .val (.int .i64) (.no))]), ((.exit 0), [(4, .undef)])], L_slices_IndexFunc_bound_5⟩
noncomputable def N_slices_IndexFunc_bound : FnK tab := ⟨[.val (.slice 24 (.named .TBound)) (.no), .fn 56 [] []], W .i64, fun a : Sl 24 (TBound) × ((Unit) × (Unit)) × Unit => F_slices_IndexFunc_bound a.1, fun r : W .i64 => (.val (.int .i64) r (.no), [.undef, .undef])⟩
noncomputable def t_slices_IndexFunc_bound : Nat → List (FnK tab) := tbl [(56, N_core_Conf_1)]
noncomputable def q_slices_IndexFunc_bound : Nat → Option (MarkK tab) := mtbl [(5, K_slices_IndexFunc_bound_5)]
noncomputable def x_slices_ContainsFunc_bound : FnX := ⟨[0, 1, 4], [], [true], []⟩
noncomputable def g_slices_ContainsFunc_bound : AFn tab := gOf Tryz.prog cx x_slices_ContainsFunc_bound Tryz.f54
noncomputable def N_slices_ContainsFunc_bound : FnK tab := ⟨[.val (.slice 24 (.named .TBound)) (.no), .fn 56 [] []], Bool, fun a : Sl 24 (TBound) × ((Unit) × (Unit)) × Unit => F_slices_ContainsFunc_bound a.1, fun r : Bool => (.val (.bool) r (.no), [.undef, .undef])⟩
noncomputable def t_slices_ContainsFunc_bound : Nat → List (FnK tab) := tbl [(101, N_slices_IndexFunc_bound)]
noncomputable def q_slices_ContainsFunc_bound : Nat → Option (MarkK tab) := fun _ => none
noncomputable def x_core_Conf : FnX := ⟨[0, 1, 2, 5], [], [true], []⟩
noncomputable def g_core_Conf : AFn tab := gOf Tryz.prog cx x_core_Conf Tryz.f13
noncomputable def N_core_Conf : FnK tab := ⟨[.val (.named .TConf) (.no)], W .i64, fun a : TConf × Unit => F_core_Conf a.1, fun r : W .i64 => (.val (.int .i64) r (.no), [.undef])⟩
noncomputable def t_core_Conf : Nat → List (FnK tab) := tbl [(54, N_slices_ContainsFunc_bound), (55, N_core_bounds)]
noncomputable def q_core_Conf : Nat → Option (MarkK tab) := fun _ => none
noncomputable def x_csr_Masked : FnX := ⟨[0, 2, 3, 10], [], [true], []⟩
noncomputable def g_csr_Masked : AFn tab := gOf Tryz.prog cx x_csr_Masked Tryz.f98
noncomputable def N_csr_Masked : FnK tab := ⟨[.val (.int .i64) (.no)], W .u32, fun a : W .i64 × Unit => F_csr_Masked a.1, fun r : W .u32 => (.val (.int .u32) r (.no), [.undef])⟩
noncomputable def t_csr_Masked : Nat → List (FnK tab) := tbl []
noncomputable def q_csr_Masked : Nat → Option (MarkK tab) := fun _ => none
noncomputable def x_core_clean : FnX := ⟨[0, 1, 2, 3, 4, 6, 7, 8, 15], [], [true], [(5, [(1, .any), (6, .any), (7, .any)]), (6, [(1, .any), (2, .any)]), (7, [(1, .any), (6, .any), (7, .any)])]⟩
noncomputable def g_core_clean : AFn tab := gOf Tryz.prog cx x_core_clean Tryz.f52
noncomputable def K_core_clean_5 : MarkK tab := ⟨[(1, .box (.named .TArch) (.no)), (6, .val (.arr 12 (.int .u32)) (.no)), (7, .val (.int .i64) (.no))], [(.ret, [(1, .box (.named .TArch) (.no)), (2, .val (.bool) (.no))]), ((.exit 0), [(1, .box (.named .TArch) (.no)), (2, .undef)])], L_core_clean_5⟩
noncomputable def N_core_clean : FnK tab := ⟨[.val (.named .TArch) (.no)], Bool, fun a : TArch × Unit => F_core_clean a.1, fun r : Bool => (.val (.bool) r (.no), [.undef])⟩
noncomputable def t_core_clean : Nat → List (FnK tab) := tbl [(98, N_csr_Masked)]
noncomputable def q_core_clean : Nat → Option (MarkK tab) := mtbl [(5, K_core_clean_5)]
noncomputable def x_core_right : FnX := ⟨[0, 1, 2, 3, 24], [], [true], []⟩
noncomputable def g_core_right : AFn tab := gOf Tryz.prog cx x_core_right Tryz.f14
noncomputable def N_core_right : FnK tab := ⟨[.val (.named .TMach) (.no)], Bool, fun a : TMach × Unit => F_core_right a.1, fun r : Bool => (.val (.bool) r (.no), [.undef])⟩
noncomputable def t_core_right : Nat → List (FnK tab) := tbl [(52, N_core_clean)]
noncomputable def q_core_right : Nat → Option (MarkK tab) := fun _ => none
noncomputable def x_step_Copy : FnX := ⟨[0, 1, 2], [], [true], []⟩
noncomputable def g_step_Copy : AFn tab := gOf Tryz.prog cx x_step_Copy Tryz.f15
noncomputable def N_step_Copy : FnK tab := ⟨[.val (.named .TMach) (.no)], TMach, fun a : TMach × Unit => F_step_Copy a.1, fun r : TMach => (.val (.named .TMach) r (.no), [.undef])⟩
noncomputable def t_step_Copy : Nat → List (FnK tab) := tbl []
noncomputable def q_step_Copy : Nat → Option (MarkK tab) := fun _ => none
noncomputable def x_pht_clamp : FnX := ⟨[0, 2], [], [true], []⟩
noncomputable def g_pht_clamp : AFn tab := gOf Tryz.prog cx x_pht_clamp Tryz.f103
noncomputable def N_pht_clamp : FnK tab := ⟨[.val (.int .i64) (.no)], W .i64, fun a : W .i64 × Unit => F_pht_clamp a.1, fun r : W .i64 => (.val (.int .i64) r (.no), [.undef])⟩
noncomputable def t_pht_clamp : Nat → List (FnK tab) := tbl []
noncomputable def q_pht_clamp : Nat → Option (MarkK tab) := fun _ => none
noncomputable def x_bits_Mul64 : FnX := ⟨[0, 1, 4, 5, 6, 7, 8, 9, 10, 11, 12, 13], [], [true, true], []⟩
noncomputable def g_bits_Mul64 : AFn tab := gOf Tryz.prog cx x_bits_Mul64 Tryz.f118
noncomputable def N_bits_Mul64 : FnK tab := ⟨[.val (.int .u64) (.no), .val (.int .u64) (.no)], W .u64 × W .u64, fun a : W .u64 × W .u64 × Unit => F_bits_Mul64 a.1 a.2.1, fun r : W .u64 × W .u64 => (.tup [.val (.int .u64) r.1 (.no), .val (.int .u64) r.2 (.no)], [.undef, .undef])⟩
noncomputable def t_bits_Mul64 : Nat → List (FnK tab) := tbl []
noncomputable def q_bits_Mul64 : Nat → Option (MarkK tab) := fun _ => none
noncomputable def x_bits_Mul : FnX := ⟨[0, 1, 4, 5, 6, 7, 8, 9], [], [true, true], []⟩
noncomputable def g_bits_Mul : AFn tab := gOf Tryz.prog cx x_bits_Mul Tryz.f104
noncomputable def N_bits_Mul : FnK tab := ⟨[.val (.int .u64) (.no), .val (.int .u64) (.no)], W .u64 × W .u64, fun a : W .u64 × W .u64 × Unit => F_bits_Mul a.1 a.2.1, fun r : W .u64 × W .u64 => (.tup [.val (.int .u64) r.1 (.no), .val (.int .u64) r.2 (.no)], [.undef, .undef])⟩
noncomputable def t_bits_Mul : Nat → List (FnK tab) := tbl [(118, N_bits_Mul64)]
noncomputable def q_bits_Mul : Nat → Option (MarkK tab) := fun _ => none
noncomputable def x_slices_Repeat_uint8 : FnX := ⟨[0, 1, 4, 5, 6, 7, 8, 10, 26, 37], [], [true], [(17, [(7, .any), (8, .any)]), (18, [(7, .any)]), (19, [(7, .any), (8, .any)])]⟩
noncomputable def g_slices_Repeat_uint8 : AFn tab := gOf Tryz.prog cx x_slices_Repeat_uint8 Tryz.f102
noncomputable def K_slices_Repeat_uint8_17 : MarkK tab := ⟨[(7, .val (.slice 1 (.int .u8)) (.yes 0)), (8, .val (.int .i64) (.no))], [((.exit 0), [(7, .val (.slice 1 (.int .u8)) (.yes 0))])], L_slices_Repeat_uint8_17⟩
noncomputable def N_slices_Repeat_uint8 : FnK tab := ⟨[.val (.slice 1 (.int .u8)) (.no), .val (.int .i64) (.no)], Sl 1 (W .u8), fun a : Sl 1 (W .u8) × W .i64 × Unit => F_slices_Repeat_uint8 a.1 a.2.1, fun r : Sl 1 (W .u8) => (.val (.slice 1 (.int .u8)) r (.no), [.undef, .undef])⟩
noncomputable def t_slices_Repeat_uint8 : Nat → List (FnK tab) := tbl [(104, N_bits_Mul)]
noncomputable def q_slices_Repeat_uint8 : Nat → Option (MarkK tab) := mtbl [(17, K_slices_Repeat_uint8_17)]
noncomputable def x_pht_New : FnX := ⟨[0, 2], [], [true], []⟩
noncomputable def g_pht_New : AFn tab := gOf Tryz.prog cx x_pht_New Tryz.f57
noncomputable def N_pht_New : FnK tab := ⟨[.val (.int .i64) (.no)], Sl 1 (W .u8), fun a : W .i64 × Unit => F_pht_New a.1, fun r : Sl 1 (W .u8) => (.val (.slice 1 (.int .u8)) r (.no), [.undef])⟩
noncomputable def t_pht_New : Nat → List (FnK tab) := tbl [(102, N_slices_Repeat_uint8), (103, N_pht_clamp)]
noncomputable def q_pht_New : Nat → Option (MarkK tab) := fun _ => none
noncomputable def x_btb_New : FnX := ⟨[0, 2], [], [true], []⟩
noncomputable def g_btb_New : AFn tab := gOf Tryz.prog cx x_btb_New Tryz.f58
noncomputable def N_btb_New : FnK tab := ⟨[.val (.int .i64) (.no)], Sl 16 (TBtb), fun a : W .i64 × Unit => F_btb_New a.1, fun r : Sl 16 (TBtb) => (.val (.slice 16 (.named .TBtb)) r (.no), [.undef])⟩
noncomputable def t_btb_New : Nat → List (FnK tab) := tbl []
noncomputable def q_btb_New : Nat → Option (MarkK tab) := fun _ => none
noncomputable def x_ras_New : FnX := ⟨[0, 2], [], [true], []⟩
noncomputable def g_ras_New : AFn tab := gOf Tryz.prog cx x_ras_New Tryz.f59
noncomputable def N_ras_New : FnK tab := ⟨[.val (.int .i64) (.no)], Sl 4 (W .u32), fun a : W .i64 × Unit => F_ras_New a.1, fun r : Sl 4 (W .u32) => (.val (.slice 4 (.int .u32)) r (.no), [.undef])⟩
noncomputable def t_ras_New : Nat → List (FnK tab) := tbl []
noncomputable def q_ras_New : Nat → Option (MarkK tab) := fun _ => none
noncomputable def x_pred_New : FnX := ⟨[0, 1, 2], [], [true], []⟩
noncomputable def g_pred_New : AFn tab := gOf Tryz.prog cx x_pred_New Tryz.f16
noncomputable def N_pred_New : FnK tab := ⟨[.val (.named .TConf) (.no)], TPred, fun a : TConf × Unit => F_pred_New a.1, fun r : TPred => (.val (.named .TPred) r (.no), [.undef])⟩
noncomputable def t_pred_New : Nat → List (FnK tab) := tbl [(57, N_pht_New), (58, N_btb_New), (59, N_ras_New)]
noncomputable def q_pred_New : Nat → Option (MarkK tab) := fun _ => none
noncomputable def x_tlb_New : FnX := ⟨[0, 2], [], [true], []⟩
noncomputable def g_tlb_New : AFn tab := gOf Tryz.prog cx x_tlb_New Tryz.f17
noncomputable def N_tlb_New : FnK tab := ⟨[.val (.int .i64) (.no)], Sl 24 (TTlb), fun a : W .i64 × Unit => F_tlb_New a.1, fun r : Sl 24 (TTlb) => (.val (.slice 24 (.named .TTlb)) r (.no), [.undef])⟩
noncomputable def t_tlb_New : Nat → List (FnK tab) := tbl []
noncomputable def q_tlb_New : Nat → Option (MarkK tab) := fun _ => none
noncomputable def x_dep_New : FnX := ⟨[0, 2], [], [true], []⟩
noncomputable def g_dep_New : AFn tab := gOf Tryz.prog cx x_dep_New Tryz.f18
noncomputable def N_dep_New : FnK tab := ⟨[.val (.int .i64) (.no)], Sl 1 (W .u8), fun a : W .i64 × Unit => F_dep_New a.1, fun r : Sl 1 (W .u8) => (.val (.slice 1 (.int .u8)) r (.no), [.undef])⟩
noncomputable def t_dep_New : Nat → List (FnK tab) := tbl []
noncomputable def q_dep_New : Nat → Option (MarkK tab) := fun _ => none
noncomputable def x_rat_New : FnX := ⟨[0, 1, 2, 5], [], [true], [(7, [(0, .any), (1, .any), (2, .any)]), (8, [(0, .any), (1, .any)]), (9, [(0, .any), (1, .any), (2, .any)])]⟩
noncomputable def g_rat_New : AFn tab := gOf Tryz.prog cx x_rat_New Tryz.f60
noncomputable def K_rat_New_7 : MarkK tab := ⟨[(0, .box (.arr 16 (.int .i64)) (.no)), (1, .box (.arr 16 (.int .i64)) (.no)), (2, .val (.int .i64) (.no))], [((.exit 0), [(0, .box (.arr 16 (.int .i64)) (.no)), (1, .box (.arr 16 (.int .i64)) (.no))])], L_rat_New_7⟩
noncomputable def N_rat_New : FnK tab := ⟨[], Arr 16 (W .i64), fun a : Unit => F_rat_New, fun r : Arr 16 (W .i64) => (.val (.arr 16 (.int .i64)) r (.no), [])⟩
noncomputable def t_rat_New : Nat → List (FnK tab) := tbl []
noncomputable def q_rat_New : Nat → Option (MarkK tab) := mtbl [(7, K_rat_New_7)]
noncomputable def x_freel_New : FnX := ⟨[0, 1, 4, 5, 6, 21, 22, 23], [], [true], [(11, [(1, .any), (4, .any), (5, .any), (21, .any), (22, .any)]), (12, [(4, .any), (5, .any)]), (13, [(1, .any), (4, .any), (5, .any), (21, .any), (22, .any)])]⟩
noncomputable def g_freel_New : AFn tab := gOf Tryz.prog cx x_freel_New Tryz.f61
noncomputable def K_freel_New_11 : MarkK tab := ⟨[(1, .val (.int .i64) (.no)), (4, .box (.named .TFree) (.st [.yes 0, .no, .no])), (5, .box (.named .TFree) (.st [.yes 0, .no, .no])), (21, .val (.int .i64) (.no)), (22, .val (.int .i64) (.no))], [((.exit 0), [(4, .box (.named .TFree) (.st [.yes 0, .no, .no])), (5, .box (.named .TFree) (.st [.yes 0, .no, .no]))])], L_freel_New_11⟩
noncomputable def N_freel_New : FnK tab := ⟨[.val (.int .i64) (.no), .val (.int .i64) (.no)], TFree, fun a : W .i64 × W .i64 × Unit => F_freel_New a.1 a.2.1, fun r : TFree => (.val (.named .TFree) r (.no), [.undef, .undef])⟩
noncomputable def t_freel_New : Nat → List (FnK tab) := tbl []
noncomputable def q_freel_New : Nat → Option (MarkK tab) := mtbl [(11, K_freel_New_11)]
noncomputable def x_rename_New : FnX := ⟨[0, 2], [], [true], []⟩
noncomputable def g_rename_New : AFn tab := gOf Tryz.prog cx x_rename_New Tryz.f19
noncomputable def N_rename_New : FnK tab := ⟨[.val (.int .i64) (.no)], TNames, fun a : W .i64 × Unit => F_rename_New a.1, fun r : TNames => (.val (.named .TNames) r (.no), [.undef])⟩
noncomputable def t_rename_New : Nat → List (FnK tab) := tbl [(60, N_rat_New), (61, N_freel_New)]
noncomputable def q_rename_New : Nat → Option (MarkK tab) := fun _ => none
noncomputable def x_slices_Repeat_bool : FnX := ⟨[0, 1, 4, 5, 6, 7, 8, 10, 26, 37], [], [true], [(17, [(7, .any), (8, .any)]), (18, [(7, .any)]), (19, [(7, .any), (8, .any)])]⟩
noncomputable def g_slices_Repeat_bool : AFn tab := gOf Tryz.prog cx x_slices_Repeat_bool Tryz.f62
noncomputable def K_slices_Repeat_bool_17 : MarkK tab := ⟨[(7, .val (.slice 1 (.bool)) (.yes 0)), (8, .val (.int .i64) (.no))], [((.exit 0), [(7, .val (.slice 1 (.bool)) (.yes 0))])], L_slices_Repeat_bool_17⟩
noncomputable def N_slices_Repeat_bool : FnK tab := ⟨[.val (.slice 1 (.bool)) (.no), .val (.int .i64) (.no)], Sl 1 (Bool), fun a : Sl 1 (Bool) × W .i64 × Unit => F_slices_Repeat_bool a.1 a.2.1, fun r : Sl 1 (Bool) => (.val (.slice 1 (.bool)) r (.no), [.undef, .undef])⟩
noncomputable def t_slices_Repeat_bool : Nat → List (FnK tab) := tbl [(104, N_bits_Mul)]
noncomputable def q_slices_Repeat_bool : Nat → Option (MarkK tab) := mtbl [(17, K_slices_Repeat_bool_17)]
noncomputable def x_prf_New : FnX := ⟨[0, 2], [], [true], []⟩
noncomputable def g_prf_New : AFn tab := gOf Tryz.prog cx x_prf_New Tryz.f20
noncomputable def N_prf_New : FnK tab := ⟨[.val (.int .i64) (.no)], TPhys, fun a : W .i64 × Unit => F_prf_New a.1, fun r : TPhys => (.val (.named .TPhys) r (.no), [.undef])⟩
noncomputable def t_prf_New : Nat → List (FnK tab) := tbl [(62, N_slices_Repeat_bool)]
noncomputable def q_prf_New : Nat → Option (MarkK tab) := fun _ => none
noncomputable def N_slices_Clone_uint32 : FnK tab := cloneK 4 (.int .u32)
noncomputable def N_slices_Clone_bool : FnK tab := cloneK 1 (.bool)
noncomputable def x_prf_has : FnX := ⟨[0, 1, 2, 4], [], [true], []⟩
noncomputable def g_prf_has : AFn tab := gOf Tryz.prog cx x_prf_has Tryz.f65
noncomputable def N_prf_has : FnK tab := ⟨[.val (.named .TPhys) (.no), .val (.int .i64) (.no)], Bool, fun a : TPhys × W .i64 × Unit => F_prf_has a.1 a.2.1, fun r : Bool => (.val (.bool) r (.no), [.undef, .undef])⟩
noncomputable def t_prf_has : Nat → List (FnK tab) := tbl []
noncomputable def q_prf_has : Nat → Option (MarkK tab) := fun _ => none
noncomputable def x_prf_Put : FnX := ⟨[0, 1, 2, 3, 6, 7, 17], [], [true], []⟩
noncomputable def g_prf_Put : AFn tab := gOf Tryz.prog cx x_prf_Put Tryz.f21
noncomputable def N_prf_Put : FnK tab := ⟨[.val (.named .TPhys) (.no), .val (.int .i64) (.no), .val (.int .u32) (.no)], TPhys, fun a : TPhys × W .i64 × W .u32 × Unit => F_prf_Put a.1 a.2.1 a.2.2.1, fun r : TPhys => (.val (.named .TPhys) r (.no), [.undef, .undef, .undef])⟩
noncomputable def t_prf_Put : Nat → List (FnK tab) := tbl [(63, N_slices_Clone_uint32), (64, N_slices_Clone_bool), (65, N_prf_has)]
noncomputable def q_prf_Put : Nat → Option (MarkK tab) := fun _ => none
noncomputable def x_core_New : FnX := ⟨[0, 1, 2, 3, 4, 5, 6, 7, 8, 12, 17, 52], [], [true, true], [(27, [(3, .any), (4, .any), (7, .any), (8, .any)]), (28, [(4, .any), (7, .any)]), (29, [(3, .any), (4, .any), (7, .any), (8, .any)])]⟩
noncomputable def g_core_New : AFn tab := gOf Tryz.prog cx x_core_New Tryz.f5
noncomputable def K_core_New_27 : MarkK tab := ⟨[(3, .box (.named .TMach) (.no)), (4, .box (.named .TCore) (.st [.no, .no, .yes 0, .yes 0, .no, .no, .no, .yes 0, .no, .yes 0, .no, .no, .yes 0, .yes 0, .yes 0, .yes 0, .yes 0, .yes 0, .yes 0, .no, .no])), (7, .box (.named .TCore) (.st [.no, .no, .no, .no, .no, .no, .no, .no, .no, .yes 0, .no, .no, .yes 0, .yes 0, .yes 0, .yes 0, .yes 0, .yes 0, .no, .no, .no])), (8, .val (.int .i64) (.no))], [((.exit 0), [(4, .box (.named .TCore) (.st [.no, .no, .yes 0, .yes 0, .no, .no, .no, .yes 0, .no, .yes 0, .no, .no, .yes 0, .yes 0, .yes 0, .yes 0, .yes 0, .yes 0, .yes 0, .no, .no])), (7, .box (.named .TCore) (.st [.no, .no, .no, .no, .no, .no, .no, .no, .no, .yes 0, .no, .no, .yes 0, .yes 0, .yes 0, .yes 0, .yes 0, .yes 0, .no, .no, .no]))])], L_core_New_27⟩
noncomputable def N_core_New : FnK tab := ⟨[.val (.named .TConf) (.no), .val (.named .TMach) (.no)], TCore × W .i64, fun a : TConf × TMach × Unit => F_core_New a.1 a.2.1, fun r : TCore × W .i64 => (.tup [.val (.named .TCore) r.1 (.no), .val (.int .i64) r.2 (.no)], [.undef, .undef])⟩
noncomputable def t_core_New : Nat → List (FnK tab) := tbl [(13, N_core_Conf), (14, N_core_right), (15, N_step_Copy), (16, N_pred_New), (17, N_tlb_New), (18, N_dep_New), (19, N_rename_New), (20, N_prf_New), (21, N_prf_Put)]
noncomputable def q_core_New : Nat → Option (MarkK tab) := mtbl [(27, K_core_New_27)]
noncomputable def x_core_Empty : FnX := ⟨[0, 1, 2], [], [true], []⟩
noncomputable def g_core_Empty : AFn tab := gOf Tryz.prog cx x_core_Empty Tryz.f9
noncomputable def N_core_Empty : FnK tab := ⟨[.val (.named .TCore) (.no)], Bool, fun a : TCore × Unit => F_core_Empty a.1, fun r : Bool => (.val (.bool) r (.no), [.undef])⟩
noncomputable def t_core_Empty : Nat → List (FnK tab) := tbl []
noncomputable def q_core_Empty : Nat → Option (MarkK tab) := fun _ => none
noncomputable def x_core_rooms : FnX := ⟨[0, 1, 2, 3, 56], [], [true], []⟩
noncomputable def g_core_rooms : AFn tab := gOf Tryz.prog cx x_core_rooms Tryz.f43
noncomputable def N_core_rooms : FnK tab := ⟨[.val (.named .TCore) (.no)], Bool, fun a : TCore × Unit => F_core_rooms a.1, fun r : Bool => (.val (.bool) r (.no), [.undef])⟩
noncomputable def t_core_rooms : Nat → List (FnK tab) := tbl [(13, N_core_Conf)]
noncomputable def q_core_rooms : Nat → Option (MarkK tab) := fun _ => none
noncomputable def x_core_queued : FnX := ⟨[0, 1, 2, 3, 5, 7, 9, 10, 11, 12, 22, 23, 24, 25], [], [true, true], [(5, [(1, .any), (2, .own), (3, .own), (9, .any), (10, .any), (11, .any)]), (6, [(1, .any), (2, .any), (3, .own)]), (7, [(1, .any), (2, .own), (3, .own), (9, .any), (10, .any), (11, .any)]), (20, [(2, .any), (3, .own), (22, .any), (23, .any), (24, .any)]), (21, [(2, .any), (3, .any)]), (22, [(2, .any), (3, .own), (22, .any), (23, .any), (24, .any)])]⟩
noncomputable def g_core_queued : AFn tab := gOf Tryz.prog cx x_core_queued Tryz.f44
noncomputable def K_core_queued_5 : MarkK tab := ⟨[(1, .box (.named .TCore) (.no)), (2, .val (.slice 216 (.named .TRen)) (.yes 0)), (3, .val (.slice 216 (.named .TRen)) (.yes 0)), (9, .val (.slice 224 (.named .TIq)) (.no)), (10, .val (.int .i64) (.no)), (11, .val (.int .i64) (.no))], [((.exit 0), [(1, .box (.named .TCore) (.no)), (2, .val (.slice 216 (.named .TRen)) (.yes 0)), (3, .val (.slice 216 (.named .TRen)) (.yes 0))])], L_core_queued_5⟩
noncomputable def K_core_queued_20 : MarkK tab := ⟨[(2, .val (.slice 216 (.named .TRen)) (.yes 0)), (3, .val (.slice 216 (.named .TRen)) (.yes 0)), (22, .val (.slice 256 (.named .TFlight)) (.no)), (23, .val (.int .i64) (.no)), (24, .val (.int .i64) (.no))], [((.exit 2), [(2, .val (.slice 216 (.named .TRen)) (.yes 0)), (3, .val (.slice 216 (.named .TRen)) (.yes 0))])], L_core_queued_20⟩
noncomputable def N_core_queued : FnK tab := ⟨[.val (.named .TCore) (.no)], Sl 216 (TRen) × Sl 216 (TRen), fun a : TCore × Unit => F_core_queued a.1, fun r : Sl 216 (TRen) × Sl 216 (TRen) => (.tup [.val (.slice 216 (.named .TRen)) r.1 (.no), .val (.slice 216 (.named .TRen)) r.2 (.no)], [.undef])⟩
noncomputable def t_core_queued : Nat → List (FnK tab) := tbl []
noncomputable def q_core_queued : Nat → Option (MarkK tab) := mtbl [(5, K_core_queued_5), (20, K_core_queued_20)]
noncomputable def x_rob_Right : FnX := ⟨[0, 2, 3, 4, 6, 7, 8, 9, 10, 25, 34], [], [true], [(7, [(3, .any), (4, .any), (7, .any), (8, .any), (9, .any)]), (8, [(2, .any), (4, .any)]), (9, [(3, .any), (4, .any), (7, .any), (8, .any), (9, .any)])]⟩
noncomputable def g_rob_Right : AFn tab := gOf Tryz.prog cx x_rob_Right Tryz.f81
noncomputable def K_rob_Right_7 : MarkK tab := ⟨[(3, .val (.int .u64) (.no)), (4, .val (.int .i64) (.no)), (7, .val (.slice 248 (.named .TRob)) (.no)), (8, .val (.int .i64) (.no)), (9, .val (.int .i64) (.no))], [(.ret, [(2, .val (.bool) (.no)), (4, .val (.int .i64) (.no))]), ((.exit 0), [(2, .undef), (4, .val (.int .i64) (.no))])], L_rob_Right_7⟩
noncomputable def N_rob_Right : FnK tab := ⟨[.val (.slice 248 (.named .TRob)) (.no)], Bool, fun a : Sl 248 (TRob) × Unit => F_rob_Right a.1, fun r : Bool => (.val (.bool) r (.no), [.undef])⟩
noncomputable def t_rob_Right : Nat → List (FnK tab) := tbl []
noncomputable def q_rob_Right : Nat → Option (MarkK tab) := mtbl [(7, K_rob_Right_7)]
noncomputable def x_core_ordered : FnX := ⟨[0, 1, 2, 3], [], [true], []⟩
noncomputable def g_core_ordered : AFn tab := gOf Tryz.prog cx x_core_ordered Tryz.f45
noncomputable def N_core_ordered : FnK tab := ⟨[.val (.named .TCore) (.no)], Bool, fun a : TCore × Unit => F_core_ordered a.1, fun r : Bool => (.val (.bool) r (.no), [.undef])⟩
noncomputable def t_core_ordered : Nat → List (FnK tab) := tbl [(81, N_rob_Right)]
noncomputable def q_core_ordered : Nat → Option (MarkK tab) := fun _ => none
noncomputable def x_core_rens : FnX := ⟨[0, 1, 2, 3, 5, 7, 8, 9, 10], [], [true], [(7, [(3, .own), (7, .any), (8, .any), (9, .any)]), (8, [(3, .any)]), (9, [(3, .own), (7, .any), (8, .any), (9, .any)])]⟩
noncomputable def g_core_rens : AFn tab := gOf Tryz.prog cx x_core_rens Tryz.f47
noncomputable def K_core_rens_7 : MarkK tab := ⟨[(3, .val (.slice 216 (.named .TRen)) (.yes 0)), (7, .val (.slice 248 (.named .TRob)) (.no)), (8, .val (.int .i64) (.no)), (9, .val (.int .i64) (.no))], [((.exit 0), [(3, .val (.slice 216 (.named .TRen)) (.yes 0))])], L_core_rens_7⟩
noncomputable def N_core_rens : FnK tab := ⟨[.val (.named .TCore) (.no)], Sl 216 (TRen), fun a : TCore × Unit => F_core_rens a.1, fun r : Sl 216 (TRen) => (.val (.slice 216 (.named .TRen)) r (.no), [.undef])⟩
noncomputable def t_core_rens : Nat → List (FnK tab) := tbl []
noncomputable def q_core_rens : Nat → Option (MarkK tab) := mtbl [(7, K_core_rens_7)]
noncomputable def x_rat_Right : FnX := ⟨[0, 1, 2, 4, 5, 6, 9, 11, 16, 25, 36], [], [true], [(11, [(1, .any), (2, .any), (5, .any)]), (12, [(4, .any)]), (13, [(1, .any), (2, .any), (5, .any)]), (20, [(1, .any), (2, .any), (5, .any), (6, .any)]), (21, [(1, .any), (2, .any), (4, .any), (5, .any)]), (22, [(1, .any), (2, .any), (5, .any), (6, .any)])]⟩
noncomputable def g_rat_Right : AFn tab := gOf Tryz.prog cx x_rat_Right Tryz.f82
noncomputable def K_rat_Right_20 : MarkK tab := ⟨[(1, .val (.int .i64) (.no)), (2, .box (.arr 16 (.int .i64)) (.no)), (5, .val (.int .i64) (.no)), (6, .val (.int .i64) (.no))], [(.ret, [(1, .val (.int .i64) (.no)), (2, .box (.arr 16 (.int .i64)) (.no)), (4, .val (.bool) (.no)), (5, .val (.int .i64) (.no))]), ((.exit 2), [(1, .val (.int .i64) (.no)), (2, .box (.arr 16 (.int .i64)) (.no)), (4, .undef), (5, .val (.int .i64) (.no))])], L_rat_Right_20⟩
noncomputable def K_rat_Right_11 : MarkK tab := ⟨[(1, .val (.int .i64) (.no)), (2, .box (.arr 16 (.int .i64)) (.no)), (5, .val (.int .i64) (.no))], [(.ret, [(4, .val (.bool) (.no))]), ((.exit 0), [(4, .undef)])], L_rat_Right_11⟩
noncomputable def N_rat_Right : FnK tab := ⟨[.val (.arr 16 (.int .i64)) (.no), .val (.int .i64) (.no)], Bool, fun a : Arr 16 (W .i64) × W .i64 × Unit => F_rat_Right a.1 a.2.1, fun r : Bool => (.val (.bool) r (.no), [.undef, .undef])⟩
noncomputable def t_rat_Right : Nat → List (FnK tab) := tbl []
noncomputable def q_rat_Right : Nat → Option (MarkK tab) := mtbl [(20, K_rat_Right_20), (11, K_rat_Right_11)]
noncomputable def x_freel_ring_sound : FnX := ⟨[0, 1, 2, 3], [], [true], []⟩
noncomputable def g_freel_ring_sound : AFn tab := gOf Tryz.prog cx x_freel_ring_sound Tryz.f109
noncomputable def N_freel_ring_sound : FnK tab := ⟨[.val (.named .TFree) (.no)], Bool, fun a : TFree × Unit => F_freel_ring_sound a.1, fun r : Bool => (.val (.bool) r (.no), [.undef])⟩
noncomputable def t_freel_ring_sound : Nat → List (FnK tab) := tbl []
noncomputable def q_freel_ring_sound : Nat → Option (MarkK tab) := fun _ => none
noncomputable def x_freel_ring_at : FnX := ⟨[0, 1, 2, 4, 5], [], [true], []⟩
noncomputable def g_freel_ring_at : AFn tab := gOf Tryz.prog cx x_freel_ring_at Tryz.f110
noncomputable def N_freel_ring_at : FnK tab := ⟨[.val (.named .TFree) (.no), .val (.int .i64) (.no)], W .i64, fun a : TFree × W .i64 × Unit => F_freel_ring_at a.1 a.2.1, fun r : W .i64 => (.val (.int .i64) r (.no), [.undef, .undef])⟩
noncomputable def t_freel_ring_at : Nat → List (FnK tab) := tbl []
noncomputable def q_freel_ring_at : Nat → Option (MarkK tab) := fun _ => none
noncomputable def x_freel_List : FnX := ⟨[0, 1, 2, 3, 4, 5, 8, 12, 13, 14], [], [true], [(15, [(1, .any), (3, .any), (4, .own), (12, .any), (13, .any)]), (16, [(4, .any)]), (17, [(1, .any), (3, .any), (4, .own), (12, .any), (13, .any)])]⟩
noncomputable def g_freel_List : AFn tab := gOf Tryz.prog cx x_freel_List Tryz.f86
noncomputable def K_freel_List_15 : MarkK tab := ⟨[(1, .box (.named .TFree) (.no)), (3, .fn 110 [.val (.named .TFree) (.no)] []), (4, .val (.slice 8 (.int .i64)) (.yes 0)), (12, .val (.int .i64) (.no)), (13, .val (.int .i64) (.no))], [((.exit 0), [(4, .val (.slice 8 (.int .i64)) (.yes 0))])], L_freel_List_15⟩
noncomputable def N_freel_List : FnK tab := ⟨[.val (.named .TFree) (.no)], Sl 8 (W .i64), fun a : TFree × Unit => F_freel_List a.1, fun r : Sl 8 (W .i64) => (.val (.slice 8 (.int .i64)) r (.no), [.undef])⟩
noncomputable def t_freel_List : Nat → List (FnK tab) := tbl [(109, N_freel_ring_sound), (110, N_freel_ring_at)]
noncomputable def q_freel_List : Nat → Option (MarkK tab) := mtbl [(15, K_freel_List_15)]
noncomputable def x_freel_Right : FnX := ⟨[0, 1, 2, 4, 5, 7, 17, 19, 20, 21, 22, 36], [], [true], [(13, [(1, .any), (5, .any), (19, .any), (20, .any), (21, .any)]), (14, [(4, .any)]), (15, [(1, .any), (5, .any), (19, .any), (20, .any), (21, .any)])]⟩
noncomputable def g_freel_Right : AFn tab := gOf Tryz.prog cx x_freel_Right Tryz.f83
noncomputable def K_freel_Right_13 : MarkK tab := ⟨[(1, .val (.int .i64) (.no)), (5, .box (.arr 96 (.bool)) (.no)), (19, .val (.slice 8 (.int .i64)) (.no)), (20, .val (.int .i64) (.no)), (21, .val (.int .i64) (.no))], [(.ret, [(4, .val (.bool) (.no))]), ((.exit 0), [(4, .undef)])], L_freel_Right_13⟩
noncomputable def N_freel_Right : FnK tab := ⟨[.val (.named .TFree) (.no), .val (.int .i64) (.no)], Bool, fun a : TFree × W .i64 × Unit => F_freel_Right a.1 a.2.1, fun r : Bool => (.val (.bool) r (.no), [.undef, .undef])⟩
noncomputable def t_freel_Right : Nat → List (FnK tab) := tbl [(86, N_freel_List), (109, N_freel_ring_sound)]
noncomputable def q_freel_Right : Nat → Option (MarkK tab) := mtbl [(13, K_freel_Right_13)]
noncomputable def x_rename_Right_1 : FnX := ⟨[0, 1, 2, 3, 11], [1, 2, 3], [], []⟩
noncomputable def g_rename_Right_1 : AFn tab := gOf Tryz.prog cx x_rename_Right_1 Tryz.f84
noncomputable def N_rename_Right_1 : FnK tab := ⟨[.val (.int .i64) (.no), .box (.int .i64) (.no), .box (.bool) (.no), .box (.arr 96 (.int .i64)) (.no)], W .i64 × Bool × Arr 96 (W .i64), fun a : W .i64 × W .i64 × Bool × Arr 96 (W .i64) × Unit => F_rename_Right_1 a.1 a.2.1 a.2.2.1 a.2.2.2.1, fun r : W .i64 × Bool × Arr 96 (W .i64) => (.tup [], [.undef, .box 0 (.int .i64) r.1 (.no), .box 0 (.bool) r.2.1 (.no), .box 0 (.arr 96 (.int .i64)) r.2.2 (.no)])⟩
noncomputable def t_rename_Right_1 : Nat → List (FnK tab) := tbl []
noncomputable def q_rename_Right_1 : Nat → Option (MarkK tab) := fun _ => none
noncomputable def x_rename_writes : FnX := ⟨[0, 1, 2], [], [true], []⟩
noncomputable def g_rename_writes : AFn tab := gOf Tryz.prog cx x_rename_writes Tryz.f111
noncomputable def N_rename_writes : FnK tab := ⟨[.val (.named .TUop) (.no)], Bool, fun a : TUop × Unit => F_rename_writes a.1, fun r : Bool => (.val (.bool) r (.no), [.undef])⟩
noncomputable def t_rename_writes : Nat → List (FnK tab) := tbl []
noncomputable def q_rename_writes : Nat → Option (MarkK tab) := fun _ => none
noncomputable def x_rat_is : FnX := ⟨[0, 2], [], [true], []⟩
noncomputable def g_rat_is : AFn tab := gOf Tryz.prog cx x_rat_is Tryz.f120
noncomputable def N_rat_is : FnK tab := ⟨[.val (.int .i64) (.no)], Bool, fun a : W .i64 × Unit => F_rat_is a.1, fun r : Bool => (.val (.bool) r (.no), [.undef])⟩
noncomputable def t_rat_is : Nat → List (FnK tab) := tbl []
noncomputable def q_rat_is : Nat → Option (MarkK tab) := fun _ => none
noncomputable def x_rat_Get : FnX := ⟨[0, 1, 2, 4, 7], [], [true], []⟩
noncomputable def g_rat_Get : AFn tab := gOf Tryz.prog cx x_rat_Get Tryz.f112
noncomputable def N_rat_Get : FnK tab := ⟨[.val (.arr 16 (.int .i64)) (.no), .val (.int .i64) (.no)], W .i64, fun a : Arr 16 (W .i64) × W .i64 × Unit => F_rat_Get a.1 a.2.1, fun r : W .i64 => (.val (.int .i64) r (.no), [.undef, .undef])⟩
noncomputable def t_rat_Get : Nat → List (FnK tab) := tbl [(120, N_rat_is)]
noncomputable def q_rat_Get : Nat → Option (MarkK tab) := fun _ => none
noncomputable def x_rat_Set : FnX := ⟨[0, 1, 2, 3, 6, 8], [], [true], []⟩
noncomputable def g_rat_Set : AFn tab := gOf Tryz.prog cx x_rat_Set Tryz.f113
noncomputable def N_rat_Set : FnK tab := ⟨[.val (.arr 16 (.int .i64)) (.no), .val (.int .i64) (.no), .val (.int .i64) (.no)], Arr 16 (W .i64), fun a : Arr 16 (W .i64) × W .i64 × W .i64 × Unit => F_rat_Set a.1 a.2.1 a.2.2.1, fun r : Arr 16 (W .i64) => (.val (.arr 16 (.int .i64)) r (.no), [.undef, .undef, .undef])⟩
noncomputable def t_rat_Set : Nat → List (FnK tab) := tbl [(120, N_rat_is)]
noncomputable def q_rat_Set : Nat → Option (MarkK tab) := fun _ => none
noncomputable def x_rename_steps : FnX := ⟨[0, 1, 2, 4, 5, 6, 8, 11, 12, 13, 14, 27, 33, 41, 54], [], [true], [(7, [(2, .any), (5, .any), (6, .any), (11, .any), (12, .any), (13, .any)]), (8, [(2, .any), (4, .any), (5, .any)]), (9, [(2, .any), (5, .any), (6, .any), (11, .any), (12, .any), (13, .any)])]⟩
noncomputable def g_rename_steps : AFn tab := gOf Tryz.prog cx x_rename_steps Tryz.f87
noncomputable def K_rename_steps_7 : MarkK tab := ⟨[(2, .box (.named .TNames) (.no)), (5, .box (.arr 16 (.int .i64)) (.no)), (6, .val (.int .u64) (.no)), (11, .val (.slice 216 (.named .TRen)) (.no)), (12, .val (.int .i64) (.no)), (13, .val (.int .i64) (.no))], [(.ret, [(2, .box (.named .TNames) (.no)), (4, .val (.bool) (.no)), (5, .box (.arr 16 (.int .i64)) (.no))]), ((.exit 0), [(2, .box (.named .TNames) (.no)), (4, .undef), (5, .box (.arr 16 (.int .i64)) (.no))])], L_rename_steps_7⟩
noncomputable def N_rename_steps : FnK tab := ⟨[.val (.named .TNames) (.no), .val (.slice 216 (.named .TRen)) (.no)], Bool, fun a : TNames × Sl 216 (TRen) × Unit => F_rename_steps a.1 a.2.1, fun r : Bool => (.val (.bool) r (.no), [.undef, .undef])⟩
noncomputable def t_rename_steps : Nat → List (FnK tab) := tbl [(111, N_rename_writes), (112, N_rat_Get), (113, N_rat_Set)]
noncomputable def q_rename_steps : Nat → Option (MarkK tab) := mtbl [(7, K_rename_steps_7)]
noncomputable def x_rename_Right_2 : FnX := ⟨[0, 1, 2, 3, 4, 5, 6, 7, 12, 20, 30], [0, 2, 3, 4, 5], [], [(3, [(0, .any), (1, .any), (2, .any), (3, .any), (4, .any), (5, .any), (6, .any)]), (4, [(0, .any), (2, .any), (3, .any), (4, .any), (5, .any)]), (5, [(0, .any), (1, .any), (2, .any), (3, .any), (4, .any), (5, .any), (6, .any)]), (18, [(0, .any), (2, .any), (3, .any), (4, .any), (5, .any), (7, .any)]), (19, [(0, .any), (2, .any), (3, .any), (4, .any), (5, .any)]), (20, [(0, .any), (2, .any), (3, .any), (4, .any), (5, .any), (7, .any)])]⟩
noncomputable def g_rename_Right_2 : AFn tab := gOf Tryz.prog cx x_rename_Right_2 Tryz.f85
noncomputable def K_rename_Right_2_3 : MarkK tab := ⟨[(0, .box (.slice 216 (.named .TRen)) (.no)), (1, .rfn 84 [] [.ptr 2 [], .ptr 5 [], .ptr 4 []]), (2, .box (.int .i64) (.no)), (3, .box (.bool) (.no)), (4, .box (.arr 96 (.int .i64)) (.no)), (5, .box (.bool) (.no)), (6, .val (.int .i64) (.no))], [((.exit 0), [(0, .box (.slice 216 (.named .TRen)) (.no)), (2, .box (.int .i64) (.no)), (3, .box (.bool) (.no)), (4, .box (.arr 96 (.int .i64)) (.no)), (5, .box (.bool) (.no))])], L_rename_Right_2_3⟩
noncomputable def K_rename_Right_2_18 : MarkK tab := ⟨[(0, .box (.slice 216 (.named .TRen)) (.no)), (2, .box (.int .i64) (.no)), (3, .box (.bool) (.no)), (4, .box (.arr 96 (.int .i64)) (.no)), (5, .box (.bool) (.no)), (7, .val (.int .i64) (.no))], [((.exit 2), [(0, .box (.slice 216 (.named .TRen)) (.no)), (2, .box (.int .i64) (.no)), (3, .box (.bool) (.no)), (4, .box (.arr 96 (.int .i64)) (.no)), (5, .box (.bool) (.no))])], L_rename_Right_2_18⟩
noncomputable def N_rename_Right_2 : FnK tab := ⟨[.box (.slice 216 (.named .TRen)) (.no), .rfn 84 [] [.ptr 2 [], .ptr 5 [], .ptr 4 []], .box (.int .i64) (.no), .box (.bool) (.no), .box (.arr 96 (.int .i64)) (.no), .box (.bool) (.no)], Sl 216 (TRen) × W .i64 × Bool × Arr 96 (W .i64) × Bool, fun a : Sl 216 (TRen) × ((Unit) × (Unit × Unit × Unit × Unit)) × W .i64 × Bool × Arr 96 (W .i64) × Bool × Unit => F_rename_Right_2 a.1 a.2.2.1 a.2.2.2.1 a.2.2.2.2.1 a.2.2.2.2.2.1, fun r : Sl 216 (TRen) × W .i64 × Bool × Arr 96 (W .i64) × Bool => (.tup [], [.box 0 (.slice 216 (.named .TRen)) r.1 (.no), .undef, .box 0 (.int .i64) r.2.1 (.no), .box 0 (.bool) r.2.2.1 (.no), .box 0 (.arr 96 (.int .i64)) r.2.2.2.1 (.no), .box 0 (.bool) r.2.2.2.2 (.no)])⟩
noncomputable def t_rename_Right_2 : Nat → List (FnK tab) := tbl [(84, N_rename_Right_1)]
noncomputable def q_rename_Right_2 : Nat → Option (MarkK tab) := mtbl [(3, K_rename_Right_2_3), (18, K_rename_Right_2_18)]
noncomputable def x_rename_Right : FnX := ⟨[0, 1, 2, 3, 4, 5, 6, 7, 8, 9, 11, 12, 39, 41, 44, 45, 46, 47, 55], [], [true], [(19, [(3, .any), (4, .any), (5, .any), (6, .any), (7, .any), (8, .any), (9, .any), (41, .any), (44, .any), (45, .any), (46, .any)]), (20, [(3, .any), (4, .any), (5, .any), (6, .any), (7, .any), (8, .any), (9, .any), (41, .any)]), (21, [(3, .any), (4, .any), (5, .any), (6, .any), (7, .any), (8, .any), (9, .any), (41, .any), (44, .any), (45, .any), (46, .any)]), (34, [(3, .any), (4, .any), (5, .any), (6, .any), (7, .any), (8, .any), (9, .any), (12, .any), (41, .any)]), (35, [(3, .any), (4, .any), (5, .any), (6, .any), (7, .any), (8, .any), (41, .any)]), (36, [(3, .any), (4, .any), (5, .any), (6, .any), (7, .any), (8, .any), (9, .any), (12, .any), (41, .any)])]⟩
noncomputable def g_rename_Right : AFn tab := gOf Tryz.prog cx x_rename_Right Tryz.f46
noncomputable def K_rename_Right_19 : MarkK tab := ⟨[(3, .box (.named .TNames) (.no)), (4, .box (.int .i64) (.no)), (5, .box (.slice 216 (.named .TRen)) (.no)), (6, .box (.bool) (.no)), (7, .box (.arr 96 (.int .i64)) (.no)), (8, .box (.bool) (.no)), (9, .rfn 84 [] [.ptr 4 [], .ptr 8 [], .ptr 7 []]), (41, .fn 85 [] [.ptr 5 [], .rfn 84 [] [.ptr 4 [], .ptr 8 [], .ptr 7 []], .ptr 4 [], .ptr 6 [], .ptr 7 [], .ptr 8 []]), (44, .val (.slice 8 (.int .i64)) (.no)), (45, .val (.int .i64) (.no)), (46, .val (.int .i64) (.no))], [((.exit 0), [(3, .box (.named .TNames) (.no)), (4, .box (.int .i64) (.no)), (5, .box (.slice 216 (.named .TRen)) (.no)), (6, .box (.bool) (.no)), (7, .box (.arr 96 (.int .i64)) (.no)), (8, .box (.bool) (.no)), (9, .rfn 84 [] [.ptr 4 [], .ptr 8 [], .ptr 7 []]), (41, .fn 85 [] [.ptr 5 [], .rfn 84 [] [.ptr 4 [], .ptr 8 [], .ptr 7 []], .ptr 4 [], .ptr 6 [], .ptr 7 [], .ptr 8 []])])], L_rename_Right_19⟩
noncomputable def K_rename_Right_34 : MarkK tab := ⟨[(3, .box (.named .TNames) (.no)), (4, .box (.int .i64) (.no)), (5, .box (.slice 216 (.named .TRen)) (.no)), (6, .box (.bool) (.no)), (7, .box (.arr 96 (.int .i64)) (.no)), (8, .box (.bool) (.no)), (9, .rfn 84 [] [.ptr 4 [], .ptr 8 [], .ptr 7 []]), (12, .val (.int .i64) (.no)), (41, .fn 85 [] [.ptr 5 [], .rfn 84 [] [.ptr 4 [], .ptr 8 [], .ptr 7 []], .ptr 4 [], .ptr 6 [], .ptr 7 [], .ptr 8 []])], [((.exit 2), [(3, .box (.named .TNames) (.no)), (4, .box (.int .i64) (.no)), (5, .box (.slice 216 (.named .TRen)) (.no)), (6, .box (.bool) (.no)), (7, .box (.arr 96 (.int .i64)) (.no)), (8, .box (.bool) (.no)), (41, .fn 85 [] [.ptr 5 [], .rfn 84 [] [.ptr 4 [], .ptr 8 [], .ptr 7 []], .ptr 4 [], .ptr 6 [], .ptr 7 [], .ptr 8 []])])], L_rename_Right_34⟩
noncomputable def N_rename_Right : FnK tab := ⟨[.val (.named .TNames) (.no), .val (.int .i64) (.no), .val (.slice 216 (.named .TRen)) (.no)], Bool, fun a : TNames × W .i64 × Sl 216 (TRen) × Unit => F_rename_Right a.1 a.2.1 a.2.2.1, fun r : Bool => (.val (.bool) r (.no), [.undef, .undef, .undef])⟩
noncomputable def t_rename_Right : Nat → List (FnK tab) := tbl [(82, N_rat_Right), (83, N_freel_Right), (84, N_rename_Right_1), (85, N_rename_Right_2), (86, N_freel_List), (87, N_rename_steps)]
noncomputable def q_rename_Right : Nat → Option (MarkK tab) := mtbl [(19, K_rename_Right_19), (34, K_rename_Right_34)]
noncomputable def x_core_waits_1 : FnX := ⟨[0, 1, 2, 3], [], [true], []⟩
noncomputable def g_core_waits_1 : AFn tab := gOf Tryz.prog cx x_core_waits_1 Tryz.f114
noncomputable def N_core_waits_1 : FnK tab := ⟨[.val (.named .TRob) (.no), .rptr (.named .TRen)], Bool, fun a : TRob × TRen × Unit => F_core_waits_1 a.1 a.2.1, fun r : Bool => (.val (.bool) r (.no), [.undef, .undef])⟩
noncomputable def t_core_waits_1 : Nat → List (FnK tab) := tbl []
noncomputable def q_core_waits_1 : Nat → Option (MarkK tab) := fun _ => none
noncomputable def x_slices_IndexFunc_Rob : FnX := ⟨[0, 1, 4, 5, 7, 8, 9, 16], [], [true], [(5, [(0, .any), (1, .any), (7, .any), (8, .any)]), (6, [(4, .any)]), (7, [(0, .any), (1, .any), (7, .any), (8, .any)])]⟩
noncomputable def g_slices_IndexFunc_Rob : AFn tab := gOf Tryz.prog cx x_slices_IndexFunc_Rob Tryz.f116
noncomputable def K_slices_IndexFunc_Rob_5 : MarkK tab := ⟨[(0, .val (.slice 248 (.named .TRob)) (.no)), (1, .fn 114 [] [.rptr (.named .TRen)]), (7, .val (.int .i64) (.no)), (8, .val (.int .i64) (.no))], [(.ret, [(4, .val (.int .i64) (.no))]), ((.exit 0), [(4, .undef)])], L_slices_IndexFunc_Rob_5⟩
noncomputable def N_slices_IndexFunc_Rob : FnK tab := ⟨[.val (.slice 248 (.named .TRob)) (.no), .fn 114 [] [.rptr (.named .TRen)]], W .i64, fun a : Sl 248 (TRob) × ((Unit) × (TRen × Unit)) × Unit => F_slices_IndexFunc_Rob a.1 a.2.1.2.1, fun r : W .i64 => (.val (.int .i64) r (.no), [.undef, .undef])⟩
noncomputable def t_slices_IndexFunc_Rob : Nat → List (FnK tab) := tbl [(114, N_core_waits_1)]
noncomputable def q_slices_IndexFunc_Rob : Nat → Option (MarkK tab) := mtbl [(5, K_slices_IndexFunc_Rob_5)]
noncomputable def x_slices_ContainsFunc_Rob : FnX := ⟨[0, 1, 4], [], [true], []⟩
noncomputable def g_slices_ContainsFunc_Rob : AFn tab := gOf Tryz.prog cx x_slices_ContainsFunc_Rob Tryz.f99
noncomputable def N_slices_ContainsFunc_Rob : FnK tab := ⟨[.val (.slice 248 (.named .TRob)) (.no), .fn 114 [] [.rptr (.named .TRen)]], Bool, fun a : Sl 248 (TRob) × ((Unit) × (TRen × Unit)) × Unit => F_slices_ContainsFunc_Rob a.1 a.2.1.2.1, fun r : Bool => (.val (.bool) r (.no), [.undef, .undef])⟩
noncomputable def t_slices_ContainsFunc_Rob : Nat → List (FnK tab) := tbl [(116, N_slices_IndexFunc_Rob)]
noncomputable def q_slices_ContainsFunc_Rob : Nat → Option (MarkK tab) := fun _ => none
noncomputable def x_core_waits : FnX := ⟨[0, 1, 2, 3, 4], [], [true], []⟩
noncomputable def g_core_waits : AFn tab := gOf Tryz.prog cx x_core_waits Tryz.f88
noncomputable def N_core_waits : FnK tab := ⟨[.val (.named .TCore) (.no), .val (.named .TRen) (.no)], Bool, fun a : TCore × TRen × Unit => F_core_waits a.1 a.2.1, fun r : Bool => (.val (.bool) r (.no), [.undef, .undef])⟩
noncomputable def t_core_waits : Nat → List (FnK tab) := tbl [(99, N_slices_ContainsFunc_Rob)]
noncomputable def q_core_waits : Nat → Option (MarkK tab) := fun _ => none
noncomputable def x_core_flying : FnX := ⟨[0, 1, 2, 4, 5, 7, 9, 10, 11, 12, 30], [], [true], [(7, [(2, .any), (5, .any), (9, .any), (10, .any), (11, .any)]), (8, [(4, .any)]), (9, [(2, .any), (5, .any), (9, .any), (10, .any), (11, .any)])]⟩
noncomputable def g_core_flying : AFn tab := gOf Tryz.prog cx x_core_flying Tryz.f48
noncomputable def K_core_flying_7 : MarkK tab := ⟨[(2, .box (.named .TCore) (.no)), (5, .val (.map (.int .u64) (.int .i64)) (.yes 0)), (9, .val (.slice 216 (.named .TRen)) (.no)), (10, .val (.int .i64) (.no)), (11, .val (.int .i64) (.no))], [(.ret, [(4, .val (.bool) (.no))]), ((.exit 0), [(4, .undef)])], L_core_flying_7⟩
noncomputable def N_core_flying : FnK tab := ⟨[.val (.named .TCore) (.no), .val (.slice 216 (.named .TRen)) (.no)], Bool, fun a : TCore × Sl 216 (TRen) × Unit => F_core_flying a.1 a.2.1, fun r : Bool => (.val (.bool) r (.no), [.undef, .undef])⟩
noncomputable def t_core_flying : Nat → List (FnK tab) := tbl [(88, N_core_waits)]
noncomputable def q_core_flying : Nat → Option (MarkK tab) := mtbl [(7, K_core_flying_7)]
noncomputable def x_core_apart_1_1 : FnX := ⟨[0, 1, 2, 3], [], [true], []⟩
noncomputable def g_core_apart_1_1 : AFn tab := gOf Tryz.prog cx x_core_apart_1_1 Tryz.f91
noncomputable def N_core_apart_1_1 : FnK tab := ⟨[.val (.named .TRen) (.no), .rptr (.named .TRen)], Bool, fun a : TRen × TRen × Unit => F_core_apart_1_1 a.1 a.2.1, fun r : Bool => (.val (.bool) r (.no), [.undef, .undef])⟩
noncomputable def t_core_apart_1_1 : Nat → List (FnK tab) := tbl []
noncomputable def q_core_apart_1_1 : Nat → Option (MarkK tab) := fun _ => none
noncomputable def x_slices_IndexFunc_Ren_v1 : FnX := ⟨[0, 1, 4, 5, 7, 8, 9, 16], [], [true], [(5, [(0, .any), (1, .any), (7, .any), (8, .any)]), (6, [(4, .any)]), (7, [(0, .any), (1, .any), (7, .any), (8, .any)])]⟩
noncomputable def g_slices_IndexFunc_Ren_v1 : AFn tab := gOf Tryz.prog cx x_slices_IndexFunc_Ren_v1 Tryz.f115
noncomputable def K_slices_IndexFunc_Ren_v1_5 : MarkK tab := ⟨[(0, .val (.slice 216 (.named .TRen)) (.no)), (1, .fn 91 [] [.rptr (.named .TRen)]), (7, .val (.int .i64) (.no)), (8, .val (.int .i64) (.no))], [(.ret, [(4, .val (.int .i64) (.no))]), ((.exit 0), [(4, .undef)])], L_slices_IndexFunc_Ren_v1_5⟩
noncomputable def N_slices_IndexFunc_Ren_v1 : FnK tab := ⟨[.val (.slice 216 (.named .TRen)) (.no), .fn 91 [] [.rptr (.named .TRen)]], W .i64, fun a : Sl 216 (TRen) × ((Unit) × (TRen × Unit)) × Unit => F_slices_IndexFunc_Ren_v1 a.1 a.2.1.2.1, fun r : W .i64 => (.val (.int .i64) r (.no), [.undef, .undef])⟩
noncomputable def t_slices_IndexFunc_Ren_v1 : Nat → List (FnK tab) := tbl [(91, N_core_apart_1_1)]
noncomputable def q_slices_IndexFunc_Ren_v1 : Nat → Option (MarkK tab) := mtbl [(5, K_slices_IndexFunc_Ren_v1_5)]
noncomputable def x_slices_ContainsFunc_Ren_v1 : FnX := ⟨[0, 1, 4], [], [true], []⟩
noncomputable def g_slices_ContainsFunc_Ren_v1 : AFn tab := gOf Tryz.prog cx x_slices_ContainsFunc_Ren_v1 Tryz.f89
noncomputable def N_slices_ContainsFunc_Ren_v1 : FnK tab := ⟨[.val (.slice 216 (.named .TRen)) (.no), .fn 91 [] [.rptr (.named .TRen)]], Bool, fun a : Sl 216 (TRen) × ((Unit) × (TRen × Unit)) × Unit => F_slices_ContainsFunc_Ren_v1 a.1 a.2.1.2.1, fun r : Bool => (.val (.bool) r (.no), [.undef, .undef])⟩
noncomputable def t_slices_ContainsFunc_Ren_v1 : Nat → List (FnK tab) := tbl [(115, N_slices_IndexFunc_Ren_v1)]
noncomputable def q_slices_ContainsFunc_Ren_v1 : Nat → Option (MarkK tab) := fun _ => none
noncomputable def x_core_apart_1 : FnX := ⟨[0, 1, 2, 3], [], [true], []⟩
noncomputable def g_core_apart_1 : AFn tab := gOf Tryz.prog cx x_core_apart_1 Tryz.f90
noncomputable def N_core_apart_1 : FnK tab := ⟨[.val (.named .TRen) (.no), .rptr (.slice 216 (.named .TRen))], Bool, fun a : TRen × Sl 216 (TRen) × Unit => F_core_apart_1 a.1 a.2.1, fun r : Bool => (.val (.bool) r (.no), [.undef, .undef])⟩
noncomputable def t_core_apart_1 : Nat → List (FnK tab) := tbl [(89, N_slices_ContainsFunc_Ren_v1)]
noncomputable def q_core_apart_1 : Nat → Option (MarkK tab) := fun _ => none
noncomputable def x_slices_IndexFunc_Ren : FnX := ⟨[0, 1, 4, 5, 7, 8, 9, 16], [], [true], [(5, [(0, .any), (1, .any), (7, .any), (8, .any)]), (6, [(4, .any)]), (7, [(0, .any), (1, .any), (7, .any), (8, .any)])]⟩
noncomputable def g_slices_IndexFunc_Ren : AFn tab := gOf Tryz.prog cx x_slices_IndexFunc_Ren Tryz.f115
noncomputable def K_slices_IndexFunc_Ren_5 : MarkK tab := ⟨[(0, .val (.slice 216 (.named .TRen)) (.no)), (1, .fn 90 [] [.rptr (.slice 216 (.named .TRen))]), (7, .val (.int .i64) (.no)), (8, .val (.int .i64) (.no))], [(.ret, [(4, .val (.int .i64) (.no))]), ((.exit 0), [(4, .undef)])], L_slices_IndexFunc_Ren_5⟩
noncomputable def N_slices_IndexFunc_Ren : FnK tab := ⟨[.val (.slice 216 (.named .TRen)) (.no), .fn 90 [] [.rptr (.slice 216 (.named .TRen))]], W .i64, fun a : Sl 216 (TRen) × ((Unit) × (Sl 216 (TRen) × Unit)) × Unit => F_slices_IndexFunc_Ren a.1 a.2.1.2.1, fun r : W .i64 => (.val (.int .i64) r (.no), [.undef, .undef])⟩
noncomputable def t_slices_IndexFunc_Ren : Nat → List (FnK tab) := tbl [(90, N_core_apart_1)]
noncomputable def q_slices_IndexFunc_Ren : Nat → Option (MarkK tab) := mtbl [(5, K_slices_IndexFunc_Ren_5)]
noncomputable def x_slices_ContainsFunc_Ren : FnX := ⟨[0, 1, 4], [], [true], []⟩
noncomputable def g_slices_ContainsFunc_Ren : AFn tab := gOf Tryz.prog cx x_slices_ContainsFunc_Ren Tryz.f89
noncomputable def N_slices_ContainsFunc_Ren : FnK tab := ⟨[.val (.slice 216 (.named .TRen)) (.no), .fn 90 [] [.rptr (.slice 216 (.named .TRen))]], Bool, fun a : Sl 216 (TRen) × ((Unit) × (Sl 216 (TRen) × Unit)) × Unit => F_slices_ContainsFunc_Ren a.1 a.2.1.2.1, fun r : Bool => (.val (.bool) r (.no), [.undef, .undef])⟩
noncomputable def t_slices_ContainsFunc_Ren : Nat → List (FnK tab) := tbl [(115, N_slices_IndexFunc_Ren)]
noncomputable def q_slices_ContainsFunc_Ren : Nat → Option (MarkK tab) := fun _ => none
noncomputable def x_core_apart : FnX := ⟨[0, 1, 3, 4], [], [true], []⟩
noncomputable def g_core_apart : AFn tab := gOf Tryz.prog cx x_core_apart Tryz.f49
noncomputable def N_core_apart : FnK tab := ⟨[.val (.slice 216 (.named .TRen)) (.no), .val (.slice 216 (.named .TRen)) (.no)], Bool, fun a : Sl 216 (TRen) × Sl 216 (TRen) × Unit => F_core_apart a.1 a.2.1, fun r : Bool => (.val (.bool) r (.no), [.undef, .undef])⟩
noncomputable def t_core_apart : Nat → List (FnK tab) := tbl [(89, N_slices_ContainsFunc_Ren)]
noncomputable def q_core_apart : Nat → Option (MarkK tab) := fun _ => none
noncomputable def x_core_seqs : FnX := ⟨[0, 1, 2, 4, 5, 7, 9, 10, 11, 12, 20], [], [true], [(7, [(1, .any), (5, .own), (9, .any), (10, .any), (11, .any)]), (8, [(5, .any)]), (9, [(1, .any), (5, .own), (9, .any), (10, .any), (11, .any)])]⟩
noncomputable def g_core_seqs : AFn tab := gOf Tryz.prog cx x_core_seqs Tryz.f93
noncomputable def K_core_seqs_7 : MarkK tab := ⟨[(1, .val (.int .i64) (.no)), (5, .val (.slice 8 (.int .u64)) (.yes 0)), (9, .val (.slice 248 (.named .TRob)) (.no)), (10, .val (.int .i64) (.no)), (11, .val (.int .i64) (.no))], [((.exit 0), [(5, .val (.slice 8 (.int .u64)) (.yes 0))])], L_core_seqs_7⟩
noncomputable def N_core_seqs : FnK tab := ⟨[.val (.named .TCore) (.no), .val (.int .i64) (.no)], Sl 8 (W .u64), fun a : TCore × W .i64 × Unit => F_core_seqs a.1 a.2.1, fun r : Sl 8 (W .u64) => (.val (.slice 8 (.int .u64)) r (.no), [.undef, .undef])⟩
noncomputable def t_core_seqs : Nat → List (FnK tab) := tbl []
noncomputable def q_core_seqs : Nat → Option (MarkK tab) := mtbl [(7, K_core_seqs_7)]
noncomputable def x_core_memory_1 : FnX := ⟨[0, 1, 2, 4], [], [true], []⟩
noncomputable def g_core_memory_1 : AFn tab := gOf Tryz.prog cx x_core_memory_1 Tryz.f94
noncomputable def N_core_memory_1 : FnK tab := ⟨[.val (.named .TLq) (.no), .val (.int .u64) (.no)], Bool, fun a : TLq × W .u64 × Unit => F_core_memory_1 a.1 a.2.1, fun r : Bool => (.val (.bool) r (.no), [.undef, .undef])⟩
noncomputable def t_core_memory_1 : Nat → List (FnK tab) := tbl []
noncomputable def q_core_memory_1 : Nat → Option (MarkK tab) := fun _ => none
noncomputable def x_slices_EqualFunc_uint64 : FnX := ⟨[0, 1, 2, 6, 7, 8, 9, 14, 15, 16, 17, 18, 30], [], [true], [(11, [(1, .any), (2, .any), (15, .any), (16, .any), (17, .any)]), (12, [(6, .any)]), (13, [(1, .any), (2, .any), (15, .any), (16, .any), (17, .any)])]⟩
noncomputable def g_slices_EqualFunc_uint64 : AFn tab := gOf Tryz.prog cx x_slices_EqualFunc_uint64 Tryz.f92
noncomputable def K_slices_EqualFunc_uint64_11 : MarkK tab := ⟨[(1, .val (.slice 8 (.int .u64)) (.no)), (2, .fn 94 [] []), (15, .val (.slice 48 (.named .TLq)) (.no)), (16, .val (.int .i64) (.no)), (17, .val (.int .i64) (.no))], [(.ret, [(6, .val (.bool) (.no))]), ((.exit 0), [(6, .undef)])], L_slices_EqualFunc_uint64_11⟩
noncomputable def N_slices_EqualFunc_uint64 : FnK tab := ⟨[.val (.slice 48 (.named .TLq)) (.no), .val (.slice 8 (.int .u64)) (.no), .fn 94 [] []], Bool, fun a : Sl 48 (TLq) × Sl 8 (W .u64) × ((Unit) × (Unit)) × Unit => F_slices_EqualFunc_uint64 a.1 a.2.1, fun r : Bool => (.val (.bool) r (.no), [.undef, .undef, .undef])⟩
noncomputable def t_slices_EqualFunc_uint64 : Nat → List (FnK tab) := tbl [(94, N_core_memory_1)]
noncomputable def q_slices_EqualFunc_uint64 : Nat → Option (MarkK tab) := mtbl [(11, K_slices_EqualFunc_uint64_11)]
noncomputable def x_core_memory_2 : FnX := ⟨[0, 1, 2, 4], [], [true], []⟩
noncomputable def g_core_memory_2 : AFn tab := gOf Tryz.prog cx x_core_memory_2 Tryz.f96
noncomputable def N_core_memory_2 : FnK tab := ⟨[.val (.named .TSq) (.no), .val (.int .u64) (.no)], Bool, fun a : TSq × W .u64 × Unit => F_core_memory_2 a.1 a.2.1, fun r : Bool => (.val (.bool) r (.no), [.undef, .undef])⟩
noncomputable def t_core_memory_2 : Nat → List (FnK tab) := tbl []
noncomputable def q_core_memory_2 : Nat → Option (MarkK tab) := fun _ => none
noncomputable def x_slices_EqualFunc_uint64_95 : FnX := ⟨[0, 1, 2, 6, 7, 8, 9, 14, 15, 16, 17, 18, 30], [], [true], [(11, [(1, .any), (2, .any), (15, .any), (16, .any), (17, .any)]), (12, [(6, .any)]), (13, [(1, .any), (2, .any), (15, .any), (16, .any), (17, .any)])]⟩
noncomputable def g_slices_EqualFunc_uint64_95 : AFn tab := gOf Tryz.prog cx x_slices_EqualFunc_uint64_95 Tryz.f95
noncomputable def K_slices_EqualFunc_uint64_95_11 : MarkK tab := ⟨[(1, .val (.slice 8 (.int .u64)) (.no)), (2, .fn 96 [] []), (15, .val (.slice 32 (.named .TSq)) (.no)), (16, .val (.int .i64) (.no)), (17, .val (.int .i64) (.no))], [(.ret, [(6, .val (.bool) (.no))]), ((.exit 0), [(6, .undef)])], L_slices_EqualFunc_uint64_95_11⟩
noncomputable def N_slices_EqualFunc_uint64_95 : FnK tab := ⟨[.val (.slice 32 (.named .TSq)) (.no), .val (.slice 8 (.int .u64)) (.no), .fn 96 [] []], Bool, fun a : Sl 32 (TSq) × Sl 8 (W .u64) × ((Unit) × (Unit)) × Unit => F_slices_EqualFunc_uint64_95 a.1 a.2.1, fun r : Bool => (.val (.bool) r (.no), [.undef, .undef, .undef])⟩
noncomputable def t_slices_EqualFunc_uint64_95 : Nat → List (FnK tab) := tbl [(96, N_core_memory_2)]
noncomputable def q_slices_EqualFunc_uint64_95 : Nat → Option (MarkK tab) := mtbl [(11, K_slices_EqualFunc_uint64_95_11)]
noncomputable def x_core_memory : FnX := ⟨[0, 1, 2, 3], [], [true], []⟩
noncomputable def g_core_memory : AFn tab := gOf Tryz.prog cx x_core_memory Tryz.f50
noncomputable def N_core_memory : FnK tab := ⟨[.val (.named .TCore) (.no)], Bool, fun a : TCore × Unit => F_core_memory a.1, fun r : Bool => (.val (.bool) r (.no), [.undef])⟩
noncomputable def t_core_memory : Nat → List (FnK tab) := tbl [(92, N_slices_EqualFunc_uint64), (93, N_core_seqs), (95, N_slices_EqualFunc_uint64_95)]
noncomputable def q_core_memory : Nat → Option (MarkK tab) := fun _ => none
noncomputable def x_prf_Get : FnX := ⟨[0, 1, 2, 4, 5, 6, 11], [], [true, true], []⟩
noncomputable def g_prf_Get : AFn tab := gOf Tryz.prog cx x_prf_Get Tryz.f97
noncomputable def N_prf_Get : FnK tab := ⟨[.val (.named .TPhys) (.no), .val (.int .i64) (.no)], W .u32 × Bool, fun a : TPhys × W .i64 × Unit => F_prf_Get a.1 a.2.1, fun r : W .u32 × Bool => (.tup [.val (.int .u32) r.1 (.no), .val (.bool) r.2 (.no)], [.undef, .undef])⟩
noncomputable def t_prf_Get : Nat → List (FnK tab) := tbl [(65, N_prf_has)]
noncomputable def q_prf_Get : Nat → Option (MarkK tab) := fun _ => none
noncomputable def x_prf_View : FnX := ⟨[0, 1, 2, 3, 4, 5, 6, 8], [], [true], [(7, [(2, .any), (3, .any), (4, .any), (5, .any), (6, .any)]), (8, [(4, .any), (5, .any)]), (9, [(2, .any), (3, .any), (4, .any), (5, .any), (6, .any)])]⟩
noncomputable def g_prf_View : AFn tab := gOf Tryz.prog cx x_prf_View Tryz.f51
noncomputable def K_prf_View_7 : MarkK tab := ⟨[(2, .box (.named .TPhys) (.no)), (3, .box (.arr 16 (.int .i64)) (.no)), (4, .box (.arr 16 (.int .u32)) (.no)), (5, .box (.arr 16 (.int .u32)) (.no)), (6, .val (.int .i64) (.no))], [((.exit 0), [(4, .box (.arr 16 (.int .u32)) (.no)), (5, .box (.arr 16 (.int .u32)) (.no))])], L_prf_View_7⟩
noncomputable def N_prf_View : FnK tab := ⟨[.val (.named .TPhys) (.no), .val (.arr 16 (.int .i64)) (.no)], Arr 16 (W .u32), fun a : TPhys × Arr 16 (W .i64) × Unit => F_prf_View a.1 a.2.1, fun r : Arr 16 (W .u32) => (.val (.arr 16 (.int .u32)) r (.no), [.undef, .undef])⟩
noncomputable def t_prf_View : Nat → List (FnK tab) := tbl [(97, N_prf_Get)]
noncomputable def q_prf_View : Nat → Option (MarkK tab) := mtbl [(7, K_prf_View_7)]
noncomputable def x_core_valued_1 : FnX := ⟨[0, 1, 2, 3, 4, 5], [], [true], []⟩
noncomputable def g_core_valued_1 : AFn tab := gOf Tryz.prog cx x_core_valued_1 Tryz.f100
noncomputable def N_core_valued_1 : FnK tab := ⟨[.val (.named .TRob) (.no), .rptr (.named .TCore)], Bool, fun a : TRob × TCore × Unit => F_core_valued_1 a.1 a.2.1, fun r : Bool => (.val (.bool) r (.no), [.undef, .undef])⟩
noncomputable def t_core_valued_1 : Nat → List (FnK tab) := tbl [(97, N_prf_Get)]
noncomputable def q_core_valued_1 : Nat → Option (MarkK tab) := fun _ => none
noncomputable def x_slices_IndexFunc_Rob_v1 : FnX := ⟨[0, 1, 4, 5, 7, 8, 9, 16], [], [true], [(5, [(0, .any), (1, .any), (7, .any), (8, .any)]), (6, [(4, .any)]), (7, [(0, .any), (1, .any), (7, .any), (8, .any)])]⟩
noncomputable def g_slices_IndexFunc_Rob_v1 : AFn tab := gOf Tryz.prog cx x_slices_IndexFunc_Rob_v1 Tryz.f116
noncomputable def K_slices_IndexFunc_Rob_v1_5 : MarkK tab := ⟨[(0, .val (.slice 248 (.named .TRob)) (.no)), (1, .fn 100 [] [.rptr (.named .TCore)]), (7, .val (.int .i64) (.no)), (8, .val (.int .i64) (.no))], [(.ret, [(4, .val (.int .i64) (.no))]), ((.exit 0), [(4, .undef)])], L_slices_IndexFunc_Rob_v1_5⟩
noncomputable def N_slices_IndexFunc_Rob_v1 : FnK tab := ⟨[.val (.slice 248 (.named .TRob)) (.no), .fn 100 [] [.rptr (.named .TCore)]], W .i64, fun a : Sl 248 (TRob) × ((Unit) × (TCore × Unit)) × Unit => F_slices_IndexFunc_Rob_v1 a.1 a.2.1.2.1, fun r : W .i64 => (.val (.int .i64) r (.no), [.undef, .undef])⟩
noncomputable def t_slices_IndexFunc_Rob_v1 : Nat → List (FnK tab) := tbl [(100, N_core_valued_1)]
noncomputable def q_slices_IndexFunc_Rob_v1 : Nat → Option (MarkK tab) := mtbl [(5, K_slices_IndexFunc_Rob_v1_5)]
noncomputable def x_slices_ContainsFunc_Rob_v1 : FnX := ⟨[0, 1, 4], [], [true], []⟩
noncomputable def g_slices_ContainsFunc_Rob_v1 : AFn tab := gOf Tryz.prog cx x_slices_ContainsFunc_Rob_v1 Tryz.f99
noncomputable def N_slices_ContainsFunc_Rob_v1 : FnK tab := ⟨[.val (.slice 248 (.named .TRob)) (.no), .fn 100 [] [.rptr (.named .TCore)]], Bool, fun a : Sl 248 (TRob) × ((Unit) × (TCore × Unit)) × Unit => F_slices_ContainsFunc_Rob_v1 a.1 a.2.1.2.1, fun r : Bool => (.val (.bool) r (.no), [.undef, .undef])⟩
noncomputable def t_slices_ContainsFunc_Rob_v1 : Nat → List (FnK tab) := tbl [(116, N_slices_IndexFunc_Rob_v1)]
noncomputable def q_slices_ContainsFunc_Rob_v1 : Nat → Option (MarkK tab) := fun _ => none
noncomputable def x_core_valued : FnX := ⟨[0, 1, 2], [], [true], []⟩
noncomputable def g_core_valued : AFn tab := gOf Tryz.prog cx x_core_valued Tryz.f53
noncomputable def N_core_valued : FnK tab := ⟨[.val (.named .TCore) (.no)], Bool, fun a : TCore × Unit => F_core_valued a.1, fun r : Bool => (.val (.bool) r (.no), [.undef])⟩
noncomputable def t_core_valued : Nat → List (FnK tab) := tbl [(99, N_slices_ContainsFunc_Rob_v1)]
noncomputable def q_core_valued : Nat → Option (MarkK tab) := fun _ => none
noncomputable def x_core_Broken : FnX := ⟨[0, 1, 2, 3, 4, 5, 6, 7, 10, 55, 56, 57, 58, 63], [], [true], [(15, [(5, .own), (55, .any), (56, .any), (57, .any)]), (16, [(5, .any)]), (17, [(5, .own), (55, .any), (56, .any), (57, .any)])]⟩
noncomputable def g_core_Broken : AFn tab := gOf Tryz.prog cx x_core_Broken Tryz.f12
noncomputable def K_core_Broken_15 : MarkK tab := ⟨[(5, .val (.slice 8 (.int .i64)) (.yes 0)), (55, .val (.slice 1 (.bool)) (.yes 0)), (56, .val (.int .i64) (.no)), (57, .val (.int .i64) (.no))], [((.exit 0), [(5, .val (.slice 8 (.int .i64)) (.yes 0))])], L_core_Broken_15⟩
noncomputable def N_core_Broken : FnK tab := ⟨[.val (.named .TCore) (.no)], Sl 8 (W .i64), fun a : TCore × Unit => F_core_Broken a.1, fun r : Sl 8 (W .i64) => (.val (.slice 8 (.int .i64)) r (.no), [.undef])⟩
noncomputable def t_core_Broken : Nat → List (FnK tab) := tbl [(43, N_core_rooms), (44, N_core_queued), (45, N_core_ordered), (46, N_rename_Right), (47, N_core_rens), (48, N_core_flying), (49, N_core_apart), (50, N_core_memory), (51, N_prf_View), (52, N_core_clean), (53, N_core_valued)]
noncomputable def q_core_Broken : Nat → Option (MarkK tab) := mtbl [(15, K_core_Broken_15)]
noncomputable def x_core_Arch : FnX := ⟨[0, 1, 2], [], [true], []⟩
noncomputable def g_core_Arch : AFn tab := gOf Tryz.prog cx x_core_Arch Tryz.f8
noncomputable def N_core_Arch : FnK tab := ⟨[.val (.named .TCore) (.no)], TArch, fun a : TCore × Unit => F_core_Arch a.1, fun r : TArch => (.val (.named .TArch) r (.no), [.undef])⟩
noncomputable def t_core_Arch : Nat → List (FnK tab) := tbl []
noncomputable def q_core_Arch : Nat → Option (MarkK tab) := fun _ => none
noncomputable def x_law42_awake : FnX := ⟨[0, 1, 2, 3, 4], [], [true], []⟩
noncomputable def g_law42_awake : AFn tab := gOf Tryz.prog cx x_law42_awake Tryz.f4
noncomputable def N_law42_awake : FnK tab := ⟨[], Bool, fun a : Unit => F_law42_awake, fun r : Bool => (.val (.bool) r (.no), [])⟩
noncomputable def t_law42_awake : Nat → List (FnK tab) := tbl [(5, N_core_New), (8, N_core_Arch), (9, N_core_Empty), (11, N_core_Plain), (12, N_core_Broken), (13, N_core_Conf)]
noncomputable def q_law42_awake : Nat → Option (MarkK tab) := fun _ => none
noncomputable def x_ref42_in : FnX := ⟨[0, 1, 2, 6], [], [true], []⟩
noncomputable def g_ref42_in : AFn tab := gOf Tryz.prog cx x_ref42_in Tryz.f66
noncomputable def N_ref42_in : FnK tab := ⟨[.val (.int .i64) (.no), .val (.int .i64) (.no), .val (.int .i64) (.no)], Bool, fun a : W .i64 × W .i64 × W .i64 × Unit => F_ref42_in a.1 a.2.1 a.2.2.1, fun r : Bool => (.val (.bool) r (.no), [.undef, .undef, .undef])⟩
noncomputable def t_ref42_in : Nat → List (FnK tab) := tbl []
noncomputable def q_ref42_in : Nat → Option (MarkK tab) := fun _ => none
noncomputable def x_ref42_Conf : FnX := ⟨[0, 1, 2, 3, 4, 5, 6, 113], [], [true], [(3, [(1, .any), (3, .any)]), (4, [(2, .any)]), (5, [(1, .any), (3, .any), (4, .any)]), (6, [(2, .any)]), (7, [(1, .any), (3, .any), (4, .any), (5, .any)]), (8, [(2, .any)]), (9, [(3, .any), (4, .any), (5, .any), (6, .any)]), (10, [(2, .any)]), (11, [(113, .any)]), (12, [(2, .any)]), (15, []), (16, [(2, .any)])]⟩
noncomputable def g_ref42_Conf : AFn tab := gOf Tryz.prog cx x_ref42_Conf Tryz.f22
noncomputable def K_ref42_Conf_11 : MarkK tab := ⟨[(113, .val (.bool) (.no))], [(.ret, [(2, .val (.int .i64) (.no))]), (.normal, [(2, .undef)])], L_ref42_Conf_11⟩
noncomputable def K_ref42_Conf_15 : MarkK tab := ⟨[], [(.ret, [(2, .val (.int .i64) (.no))])], L_ref42_Conf_15⟩
noncomputable def K_ref42_Conf_9 : MarkK tab := ⟨[(3, .val (.bool) (.no)), (4, .val (.bool) (.no)), (5, .val (.bool) (.no)), (6, .val (.bool) (.no))], [(.ret, [(2, .val (.int .i64) (.no))])], L_ref42_Conf_9⟩
noncomputable def K_ref42_Conf_7 : MarkK tab := ⟨[(1, .box (.named .TConf) (.no)), (3, .val (.bool) (.no)), (4, .val (.bool) (.no)), (5, .val (.bool) (.no))], [(.ret, [(2, .val (.int .i64) (.no))])], L_ref42_Conf_7⟩
noncomputable def K_ref42_Conf_5 : MarkK tab := ⟨[(1, .box (.named .TConf) (.no)), (3, .val (.bool) (.no)), (4, .val (.bool) (.no))], [(.ret, [(2, .val (.int .i64) (.no))])], L_ref42_Conf_5⟩
noncomputable def K_ref42_Conf_3 : MarkK tab := ⟨[(1, .box (.named .TConf) (.no)), (3, .val (.bool) (.no))], [(.ret, [(2, .val (.int .i64) (.no))])], L_ref42_Conf_3⟩
noncomputable def N_ref42_Conf : FnK tab := ⟨[.val (.named .TConf) (.no)], W .i64, fun a : TConf × Unit => F_ref42_Conf a.1, fun r : W .i64 => (.val (.int .i64) r (.no), [.undef])⟩
noncomputable def t_ref42_Conf : Nat → List (FnK tab) := tbl [(66, N_ref42_in)]
noncomputable def q_ref42_Conf : Nat → Option (MarkK tab) := mtbl [(11, K_ref42_Conf_11), (15, K_ref42_Conf_15), (9, K_ref42_Conf_9), (7, K_ref42_Conf_7), (5, K_ref42_Conf_5), (3, K_ref42_Conf_3)]
noncomputable def x_ref10_Right : FnX := ⟨[0, 2], [], [true], []⟩
noncomputable def g_ref10_Right : AFn tab := gOf Tryz.prog cx x_ref10_Right Tryz.f67
noncomputable def N_ref10_Right : FnK tab := ⟨[.val (.slice 1 (.int .u8)) (.no)], Bool, fun a : Sl 1 (W .u8) × Unit => F_ref10_Right a.1, fun r : Bool => (.val (.bool) r (.no), [.undef])⟩
noncomputable def t_ref10_Right : Nat → List (FnK tab) := tbl []
noncomputable def q_ref10_Right : Nat → Option (MarkK tab) := fun _ => none
noncomputable def x_ref11_Masked : FnX := ⟨[0, 2, 3, 4, 6, 8, 11, 18], [], [true], []⟩
noncomputable def g_ref11_Masked : AFn tab := gOf Tryz.prog cx x_ref11_Masked Tryz.f68
noncomputable def N_ref11_Masked : FnK tab := ⟨[.val (.int .i64) (.no)], W .u32, fun a : W .i64 × Unit => F_ref11_Masked a.1, fun r : W .u32 => (.val (.int .u32) r (.no), [.undef])⟩
noncomputable def t_ref11_Masked : Nat → List (FnK tab) := tbl []
noncomputable def q_ref11_Masked : Nat → Option (MarkK tab) := fun _ => none
noncomputable def x_ref15_Right : FnX := ⟨[0, 1, 2, 3, 23, 25, 41], [], [true], [(11, [(1, .any), (3, .any)]), (12, [(2, .any)]), (13, [(1, .any), (3, .any)])]⟩
noncomputable def g_ref15_Right : AFn tab := gOf Tryz.prog cx x_ref15_Right Tryz.f23
noncomputable def K_ref15_Right_11 : MarkK tab := ⟨[(1, .box (.named .TMach) (.no)), (3, .val (.int .i64) (.no))], [(.ret, [(2, .val (.bool) (.no))]), ((.exit 0), [(2, .undef)])], L_ref15_Right_11⟩
noncomputable def N_ref15_Right : FnK tab := ⟨[.val (.named .TMach) (.no)], Bool, fun a : TMach × Unit => F_ref15_Right a.1, fun r : Bool => (.val (.bool) r (.no), [.undef])⟩
noncomputable def t_ref15_Right : Nat → List (FnK tab) := tbl [(67, N_ref10_Right), (68, N_ref11_Masked)]
noncomputable def q_ref15_Right : Nat → Option (MarkK tab) := mtbl [(11, K_ref15_Right_11)]
noncomputable def x_ref21_Bits : FnX := ⟨[0, 1, 2], [], [true], []⟩
noncomputable def g_ref21_Bits : AFn tab := gOf Tryz.prog cx x_ref21_Bits Tryz.f70
noncomputable def N_ref21_Bits : FnK tab := ⟨[.val (.named .TConf) (.no)], W .i64, fun a : TConf × Unit => F_ref21_Bits a.1, fun r : W .i64 => (.val (.int .i64) r (.no), [.undef])⟩
noncomputable def t_ref21_Bits : Nat → List (FnK tab) := tbl []
noncomputable def q_ref21_Bits : Nat → Option (MarkK tab) := fun _ => none
noncomputable def x_ref18_brought : FnX := ⟨[0, 2], [], [true], []⟩
noncomputable def g_ref18_brought : AFn tab := gOf Tryz.prog cx x_ref18_brought Tryz.f119
noncomputable def N_ref18_brought : FnK tab := ⟨[.val (.int .i64) (.no)], W .i64, fun a : W .i64 × Unit => F_ref18_brought a.1, fun r : W .i64 => (.val (.int .i64) r (.no), [.undef])⟩
noncomputable def t_ref18_brought : Nat → List (FnK tab) := tbl []
noncomputable def q_ref18_brought : Nat → Option (MarkK tab) := fun _ => none
noncomputable def x_ref18_many : FnX := ⟨[0, 2, 3, 4, 8], [], [true], [(7, [(0, .any), (3, .any), (4, .any)]), (8, [(3, .any)]), (9, [(0, .any), (3, .any), (4, .any)])]⟩
noncomputable def g_ref18_many : AFn tab := gOf Tryz.prog cx x_ref18_many Tryz.f105
noncomputable def K_ref18_many_7 : MarkK tab := ⟨[(0, .val (.int .i64) (.no)), (3, .val (.int .i64) (.no)), (4, .val (.int .i64) (.no))], [((.exit 0), [(3, .val (.int .i64) (.no))])], L_ref18_many_7⟩
noncomputable def N_ref18_many : FnK tab := ⟨[.val (.int .i64) (.no)], W .i64, fun a : W .i64 × Unit => F_ref18_many a.1, fun r : W .i64 => (.val (.int .i64) r (.no), [.undef])⟩
noncomputable def t_ref18_many : Nat → List (FnK tab) := tbl [(119, N_ref18_brought)]
noncomputable def q_ref18_many : Nat → Option (MarkK tab) := mtbl [(7, K_ref18_many_7)]
noncomputable def x_ref18_New : FnX := ⟨[0, 2, 3, 4, 8], [], [true], [(7, [(0, .any), (3, .own), (4, .any)]), (8, [(3, .any)]), (9, [(0, .any), (3, .own), (4, .any)])]⟩
noncomputable def g_ref18_New : AFn tab := gOf Tryz.prog cx x_ref18_New Tryz.f69
noncomputable def K_ref18_New_7 : MarkK tab := ⟨[(0, .val (.int .i64) (.no)), (3, .val (.slice 1 (.int .u8)) (.yes 0)), (4, .val (.int .i64) (.no))], [((.exit 0), [(3, .val (.slice 1 (.int .u8)) (.yes 0))])], L_ref18_New_7⟩
noncomputable def N_ref18_New : FnK tab := ⟨[.val (.int .i64) (.no)], Sl 1 (W .u8), fun a : W .i64 × Unit => F_ref18_New a.1, fun r : Sl 1 (W .u8) => (.val (.slice 1 (.int .u8)) r (.no), [.undef])⟩
noncomputable def t_ref18_New : Nat → List (FnK tab) := tbl [(105, N_ref18_many)]
noncomputable def q_ref18_New : Nat → Option (MarkK tab) := mtbl [(7, K_ref18_New_7)]
noncomputable def x_ref19_within : FnX := ⟨[0, 1, 2, 6, 9, 13], [], [true], []⟩
noncomputable def g_ref19_within : AFn tab := gOf Tryz.prog cx x_ref19_within Tryz.f106
noncomputable def N_ref19_within : FnK tab := ⟨[.val (.int .i64) (.no), .val (.int .i64) (.no), .val (.int .i64) (.no)], W .i64, fun a : W .i64 × W .i64 × W .i64 × Unit => F_ref19_within a.1 a.2.1 a.2.2.1, fun r : W .i64 => (.val (.int .i64) r (.no), [.undef, .undef, .undef])⟩
noncomputable def t_ref19_within : Nat → List (FnK tab) := tbl []
noncomputable def q_ref19_within : Nat → Option (MarkK tab) := fun _ => none
noncomputable def x_ref19_New : FnX := ⟨[0, 2], [], [true], []⟩
noncomputable def g_ref19_New : AFn tab := gOf Tryz.prog cx x_ref19_New Tryz.f71
noncomputable def N_ref19_New : FnK tab := ⟨[.val (.int .i64) (.no)], Sl 16 (TBtb), fun a : W .i64 × Unit => F_ref19_New a.1, fun r : Sl 16 (TBtb) => (.val (.slice 16 (.named .TBtb)) r (.no), [.undef])⟩
noncomputable def t_ref19_New : Nat → List (FnK tab) := tbl [(106, N_ref19_within)]
noncomputable def q_ref19_New : Nat → Option (MarkK tab) := fun _ => none
noncomputable def x_ref20_New : FnX := ⟨[0, 2, 3, 4, 12], [], [true], [(7, [(0, .any), (3, .any), (4, .any)]), (8, [(3, .any)]), (9, [(0, .any), (3, .any), (4, .any)])]⟩
noncomputable def g_ref20_New : AFn tab := gOf Tryz.prog cx x_ref20_New Tryz.f72
noncomputable def K_ref20_New_7 : MarkK tab := ⟨[(0, .val (.int .i64) (.no)), (3, .val (.slice 4 (.int .u32)) (.yes 0)), (4, .val (.int .i64) (.no))], [((.exit 0), [(3, .val (.slice 4 (.int .u32)) (.yes 0))])], L_ref20_New_7⟩
noncomputable def N_ref20_New : FnK tab := ⟨[.val (.int .i64) (.no)], Sl 4 (W .u32), fun a : W .i64 × Unit => F_ref20_New a.1, fun r : Sl 4 (W .u32) => (.val (.slice 4 (.int .u32)) r (.no), [.undef])⟩
noncomputable def t_ref20_New : Nat → List (FnK tab) := tbl []
noncomputable def q_ref20_New : Nat → Option (MarkK tab) := mtbl [(7, K_ref20_New_7)]
noncomputable def x_ref21_New : FnX := ⟨[0, 1, 2], [], [true], []⟩
noncomputable def g_ref21_New : AFn tab := gOf Tryz.prog cx x_ref21_New Tryz.f24
noncomputable def N_ref21_New : FnK tab := ⟨[.val (.named .TConf) (.no)], TPred, fun a : TConf × Unit => F_ref21_New a.1, fun r : TPred => (.val (.named .TPred) r (.no), [.undef])⟩
noncomputable def t_ref21_New : Nat → List (FnK tab) := tbl [(69, N_ref18_New), (70, N_ref21_Bits), (71, N_ref19_New), (72, N_ref20_New)]
noncomputable def q_ref21_New : Nat → Option (MarkK tab) := fun _ => none
noncomputable def x_ref22_within : FnX := ⟨[0, 1, 2, 6, 9, 13], [], [true], []⟩
noncomputable def g_ref22_within : AFn tab := gOf Tryz.prog cx x_ref22_within Tryz.f73
noncomputable def N_ref22_within : FnK tab := ⟨[.val (.int .i64) (.no), .val (.int .i64) (.no), .val (.int .i64) (.no)], W .i64, fun a : W .i64 × W .i64 × W .i64 × Unit => F_ref22_within a.1 a.2.1 a.2.2.1, fun r : W .i64 => (.val (.int .i64) r (.no), [.undef, .undef, .undef])⟩
noncomputable def t_ref22_within : Nat → List (FnK tab) := tbl []
noncomputable def q_ref22_within : Nat → Option (MarkK tab) := fun _ => none
noncomputable def x_ref22_New : FnX := ⟨[0, 2], [], [true], []⟩
noncomputable def g_ref22_New : AFn tab := gOf Tryz.prog cx x_ref22_New Tryz.f25
noncomputable def N_ref22_New : FnK tab := ⟨[.val (.int .i64) (.no)], Sl 24 (TTlb), fun a : W .i64 × Unit => F_ref22_New a.1, fun r : Sl 24 (TTlb) => (.val (.slice 24 (.named .TTlb)) r (.no), [.undef])⟩
noncomputable def t_ref22_New : Nat → List (FnK tab) := tbl [(73, N_ref22_within)]
noncomputable def q_ref22_New : Nat → Option (MarkK tab) := fun _ => none
noncomputable def x_ref36_New : FnX := ⟨[0, 2, 3, 4, 11], [], [true], [(7, [(0, .any), (3, .own), (4, .any)]), (8, [(3, .any)]), (9, [(0, .any), (3, .own), (4, .any)])]⟩
noncomputable def g_ref36_New : AFn tab := gOf Tryz.prog cx x_ref36_New Tryz.f26
noncomputable def K_ref36_New_7 : MarkK tab := ⟨[(0, .val (.int .i64) (.no)), (3, .val (.slice 1 (.int .u8)) (.yes 0)), (4, .val (.int .i64) (.no))], [((.exit 0), [(3, .val (.slice 1 (.int .u8)) (.yes 0))])], L_ref36_New_7⟩
noncomputable def N_ref36_New : FnK tab := ⟨[.val (.int .i64) (.no)], Sl 1 (W .u8), fun a : W .i64 × Unit => F_ref36_New a.1, fun r : Sl 1 (W .u8) => (.val (.slice 1 (.int .u8)) r (.no), [.undef])⟩
noncomputable def t_ref36_New : Nat → List (FnK tab) := tbl []
noncomputable def q_ref36_New : Nat → Option (MarkK tab) := mtbl [(7, K_ref36_New_7)]
noncomputable def x_ref26_New : FnX := ⟨[0, 1, 2, 5], [], [true], [(7, [(0, .any), (1, .any), (2, .any)]), (8, [(0, .any), (1, .any)]), (9, [(0, .any), (1, .any), (2, .any)])]⟩
noncomputable def g_ref26_New : AFn tab := gOf Tryz.prog cx x_ref26_New Tryz.f74
noncomputable def K_ref26_New_7 : MarkK tab := ⟨[(0, .box (.arr 16 (.int .i64)) (.no)), (1, .box (.arr 16 (.int .i64)) (.no)), (2, .val (.int .i64) (.no))], [((.exit 0), [(0, .box (.arr 16 (.int .i64)) (.no)), (1, .box (.arr 16 (.int .i64)) (.no))])], L_ref26_New_7⟩
noncomputable def N_ref26_New : FnK tab := ⟨[], Arr 16 (W .i64), fun a : Unit => F_ref26_New, fun r : Arr 16 (W .i64) => (.val (.arr 16 (.int .i64)) r (.no), [])⟩
noncomputable def t_ref26_New : Nat → List (FnK tab) := tbl []
noncomputable def q_ref26_New : Nat → Option (MarkK tab) := mtbl [(7, K_ref26_New_7)]
noncomputable def x_ref25_within : FnX := ⟨[0, 1, 2, 6, 9, 13], [], [true], []⟩
noncomputable def g_ref25_within : AFn tab := gOf Tryz.prog cx x_ref25_within Tryz.f107
noncomputable def N_ref25_within : FnK tab := ⟨[.val (.int .i64) (.no), .val (.int .i64) (.no), .val (.int .i64) (.no)], W .i64, fun a : W .i64 × W .i64 × W .i64 × Unit => F_ref25_within a.1 a.2.1 a.2.2.1, fun r : W .i64 => (.val (.int .i64) r (.no), [.undef, .undef, .undef])⟩
noncomputable def t_ref25_within : Nat → List (FnK tab) := tbl []
noncomputable def q_ref25_within : Nat → Option (MarkK tab) := fun _ => none
noncomputable def x_ref25_New : FnX := ⟨[0, 1, 4, 5, 6, 7, 8, 23], [], [true], [(11, [(4, .any), (6, .any), (7, .any), (8, .any)]), (12, [(4, .any), (7, .any)]), (13, [(4, .any), (6, .any), (7, .any), (8, .any)])]⟩
noncomputable def g_ref25_New : AFn tab := gOf Tryz.prog cx x_ref25_New Tryz.f75
noncomputable def K_ref25_New_11 : MarkK tab := ⟨[(4, .box (.named .TFree) (.st [.yes 0, .no, .no])), (6, .val (.int .i64) (.no)), (7, .box (.named .TFree) (.st [.yes 0, .no, .no])), (8, .val (.int .i64) (.no))], [((.exit 0), [(4, .box (.named .TFree) (.st [.yes 0, .no, .no])), (7, .box (.named .TFree) (.st [.yes 0, .no, .no]))])], L_ref25_New_11⟩
noncomputable def N_ref25_New : FnK tab := ⟨[.val (.int .i64) (.no), .val (.int .i64) (.no)], TFree, fun a : W .i64 × W .i64 × Unit => F_ref25_New a.1 a.2.1, fun r : TFree => (.val (.named .TFree) r (.no), [.undef, .undef])⟩
noncomputable def t_ref25_New : Nat → List (FnK tab) := tbl [(107, N_ref25_within)]
noncomputable def q_ref25_New : Nat → Option (MarkK tab) := mtbl [(11, K_ref25_New_11)]
noncomputable def x_ref28_New : FnX := ⟨[0, 2], [], [true], []⟩
noncomputable def g_ref28_New : AFn tab := gOf Tryz.prog cx x_ref28_New Tryz.f27
noncomputable def N_ref28_New : FnK tab := ⟨[.val (.int .i64) (.no)], TNames, fun a : W .i64 × Unit => F_ref28_New a.1, fun r : TNames => (.val (.named .TNames) r (.no), [.undef])⟩
noncomputable def t_ref28_New : Nat → List (FnK tab) := tbl [(74, N_ref26_New), (75, N_ref25_New)]
noncomputable def q_ref28_New : Nat → Option (MarkK tab) := fun _ => none
noncomputable def x_ref27_New : FnX := ⟨[0, 2, 3, 4, 11], [], [true], [(7, [(0, .any), (2, .any), (3, .any), (4, .any)]), (8, [(2, .any), (3, .any)]), (9, [(0, .any), (2, .any), (3, .any), (4, .any)])]⟩
noncomputable def g_ref27_New : AFn tab := gOf Tryz.prog cx x_ref27_New Tryz.f28
noncomputable def K_ref27_New_7 : MarkK tab := ⟨[(0, .val (.int .i64) (.no)), (2, .box (.named .TPhys) (.st [.yes 0, .yes 0])), (3, .box (.named .TPhys) (.st [.yes 0, .yes 0])), (4, .val (.int .i64) (.no))], [((.exit 0), [(2, .box (.named .TPhys) (.st [.yes 0, .yes 0])), (3, .box (.named .TPhys) (.st [.yes 0, .yes 0]))])], L_ref27_New_7⟩
noncomputable def N_ref27_New : FnK tab := ⟨[.val (.int .i64) (.no)], TPhys, fun a : W .i64 × Unit => F_ref27_New a.1, fun r : TPhys => (.val (.named .TPhys) r (.no), [.undef])⟩
noncomputable def t_ref27_New : Nat → List (FnK tab) := tbl []
noncomputable def q_ref27_New : Nat → Option (MarkK tab) := mtbl [(7, K_ref27_New_7)]
noncomputable def x_ref27_copied : FnX := ⟨[0, 1, 2], [], [false], []⟩
noncomputable def g_ref27_copied : AFn tab := gOf Tryz.prog cx x_ref27_copied Tryz.f76
noncomputable def N_ref27_copied : FnK tab := ⟨[.val (.named .TPhys) (.no)], TPhys, fun a : TPhys × Unit => F_ref27_copied a.1, fun r : TPhys => (.val (.named .TPhys) r (.st [.yes 0, .yes 0]), [.undef])⟩
noncomputable def t_ref27_copied : Nat → List (FnK tab) := tbl []
noncomputable def q_ref27_copied : Nat → Option (MarkK tab) := fun _ => none
noncomputable def x_ref27_is : FnX := ⟨[0, 1, 2, 4], [], [true], []⟩
noncomputable def g_ref27_is : AFn tab := gOf Tryz.prog cx x_ref27_is Tryz.f77
noncomputable def N_ref27_is : FnK tab := ⟨[.val (.named .TPhys) (.no), .val (.int .i64) (.no)], Bool, fun a : TPhys × W .i64 × Unit => F_ref27_is a.1 a.2.1, fun r : Bool => (.val (.bool) r (.no), [.undef, .undef])⟩
noncomputable def t_ref27_is : Nat → List (FnK tab) := tbl []
noncomputable def q_ref27_is : Nat → Option (MarkK tab) := fun _ => none
noncomputable def x_ref27_Put : FnX := ⟨[0, 1, 2, 3, 6, 7, 12], [], [true], []⟩
noncomputable def g_ref27_Put : AFn tab := gOf Tryz.prog cx x_ref27_Put Tryz.f29
noncomputable def N_ref27_Put : FnK tab := ⟨[.val (.named .TPhys) (.no), .val (.int .i64) (.no), .val (.int .u32) (.no)], TPhys, fun a : TPhys × W .i64 × W .u32 × Unit => F_ref27_Put a.1 a.2.1 a.2.2.1, fun r : TPhys => (.val (.named .TPhys) r (.no), [.undef, .undef, .undef])⟩
noncomputable def t_ref27_Put : Nat → List (FnK tab) := tbl [(76, N_ref27_copied), (77, N_ref27_is)]
noncomputable def q_ref27_Put : Nat → Option (MarkK tab) := fun _ => none
noncomputable def x_ref42_New : FnX := ⟨[0, 1, 2, 3, 4, 5, 6, 7, 10, 14, 47], [], [true, true], [(29, [(3, .any), (4, .any), (6, .any), (7, .any)]), (30, [(4, .any), (6, .any)]), (31, [(3, .any), (4, .any), (6, .any), (7, .any)])]⟩
noncomputable def g_ref42_New : AFn tab := gOf Tryz.prog cx x_ref42_New Tryz.f6
noncomputable def K_ref42_New_29 : MarkK tab := ⟨[(3, .box (.named .TMach) (.no)), (4, .box (.named .TCore) (.st [.no, .no, .yes 0, .yes 0, .no, .no, .no, .yes 0, .no, .yes 0, .no, .no, .yes 0, .yes 0, .yes 0, .yes 0, .yes 0, .yes 0, .yes 0, .no, .no])), (6, .box (.named .TCore) (.st [.no, .no, .no, .no, .no, .no, .no, .no, .no, .yes 0, .no, .no, .yes 0, .yes 0, .yes 0, .yes 0, .yes 0, .yes 0, .no, .no, .no])), (7, .val (.int .i64) (.no))], [((.exit 0), [(4, .box (.named .TCore) (.st [.no, .no, .yes 0, .yes 0, .no, .no, .no, .yes 0, .no, .yes 0, .no, .no, .yes 0, .yes 0, .yes 0, .yes 0, .yes 0, .yes 0, .yes 0, .no, .no])), (6, .box (.named .TCore) (.st [.no, .no, .no, .no, .no, .no, .no, .no, .no, .yes 0, .no, .no, .yes 0, .yes 0, .yes 0, .yes 0, .yes 0, .yes 0, .no, .no, .no]))])], L_ref42_New_29⟩
noncomputable def N_ref42_New : FnK tab := ⟨[.val (.named .TConf) (.no), .val (.named .TMach) (.no)], TCore × W .i64, fun a : TConf × TMach × Unit => F_ref42_New a.1 a.2.1, fun r : TCore × W .i64 => (.tup [.val (.named .TCore) r.1 (.no), .val (.int .i64) r.2 (.no)], [.undef, .undef])⟩
noncomputable def t_ref42_New : Nat → List (FnK tab) := tbl [(22, N_ref42_Conf), (23, N_ref15_Right), (24, N_ref21_New), (25, N_ref22_New), (26, N_ref36_New), (27, N_ref28_New), (28, N_ref27_New), (29, N_ref27_Put)]
noncomputable def q_ref42_New : Nat → Option (MarkK tab) := mtbl [(29, K_ref42_New_29)]
noncomputable def x_same_Bytes : FnX := ⟨[0, 1, 4, 5, 10, 20, 31], [], [true], [(11, [(0, .any), (1, .any), (5, .any)]), (12, [(4, .any)]), (13, [(0, .any), (1, .any), (5, .any)])]⟩
noncomputable def g_same_Bytes : AFn tab := gOf Tryz.prog cx x_same_Bytes Tryz.f30
noncomputable def K_same_Bytes_11 : MarkK tab := ⟨[(0, .val (.slice 1 (.int .u8)) (.no)), (1, .val (.slice 1 (.int .u8)) (.no)), (5, .val (.int .i64) (.no))], [(.ret, [(4, .val (.bool) (.no))]), ((.exit 0), [(4, .undef)])], L_same_Bytes_11⟩
noncomputable def N_same_Bytes : FnK tab := ⟨[.val (.slice 1 (.int .u8)) (.no), .val (.slice 1 (.int .u8)) (.no)], Bool, fun a : Sl 1 (W .u8) × Sl 1 (W .u8) × Unit => F_same_Bytes a.1 a.2.1, fun r : Bool => (.val (.bool) r (.no), [.undef, .undef])⟩
noncomputable def t_same_Bytes : Nat → List (FnK tab) := tbl []
noncomputable def q_same_Bytes : Nat → Option (MarkK tab) := mtbl [(11, K_same_Bytes_11)]
noncomputable def x_same_Words : FnX := ⟨[0, 1, 4, 5, 10, 20, 31], [], [true], [(11, [(0, .any), (1, .any), (5, .any)]), (12, [(4, .any)]), (13, [(0, .any), (1, .any), (5, .any)])]⟩
noncomputable def g_same_Words : AFn tab := gOf Tryz.prog cx x_same_Words Tryz.f31
noncomputable def K_same_Words_11 : MarkK tab := ⟨[(0, .val (.slice 4 (.int .u32)) (.no)), (1, .val (.slice 4 (.int .u32)) (.no)), (5, .val (.int .i64) (.no))], [(.ret, [(4, .val (.bool) (.no))]), ((.exit 0), [(4, .undef)])], L_same_Words_11⟩
noncomputable def N_same_Words : FnK tab := ⟨[.val (.slice 4 (.int .u32)) (.no), .val (.slice 4 (.int .u32)) (.no)], Bool, fun a : Sl 4 (W .u32) × Sl 4 (W .u32) × Unit => F_same_Words a.1 a.2.1, fun r : Bool => (.val (.bool) r (.no), [.undef, .undef])⟩
noncomputable def t_same_Words : Nat → List (FnK tab) := tbl []
noncomputable def q_same_Words : Nat → Option (MarkK tab) := mtbl [(11, K_same_Words_11)]
noncomputable def x_same_Btbs : FnX := ⟨[0, 1, 4, 5, 10, 20, 31], [], [true], [(11, [(0, .any), (1, .any), (5, .any)]), (12, [(4, .any)]), (13, [(0, .any), (1, .any), (5, .any)])]⟩
noncomputable def g_same_Btbs : AFn tab := gOf Tryz.prog cx x_same_Btbs Tryz.f78
noncomputable def K_same_Btbs_11 : MarkK tab := ⟨[(0, .val (.slice 16 (.named .TBtb)) (.no)), (1, .val (.slice 16 (.named .TBtb)) (.no)), (5, .val (.int .i64) (.no))], [(.ret, [(4, .val (.bool) (.no))]), ((.exit 0), [(4, .undef)])], L_same_Btbs_11⟩
noncomputable def N_same_Btbs : FnK tab := ⟨[.val (.slice 16 (.named .TBtb)) (.no), .val (.slice 16 (.named .TBtb)) (.no)], Bool, fun a : Sl 16 (TBtb) × Sl 16 (TBtb) × Unit => F_same_Btbs a.1 a.2.1, fun r : Bool => (.val (.bool) r (.no), [.undef, .undef])⟩
noncomputable def t_same_Btbs : Nat → List (FnK tab) := tbl []
noncomputable def q_same_Btbs : Nat → Option (MarkK tab) := mtbl [(11, K_same_Btbs_11)]
noncomputable def x_same_Pred : FnX := ⟨[0, 1, 2, 3, 4], [], [true], []⟩
noncomputable def g_same_Pred : AFn tab := gOf Tryz.prog cx x_same_Pred Tryz.f32
noncomputable def N_same_Pred : FnK tab := ⟨[.val (.named .TPred) (.no), .val (.named .TPred) (.no)], Bool, fun a : TPred × TPred × Unit => F_same_Pred a.1 a.2.1, fun r : Bool => (.val (.bool) r (.no), [.undef, .undef])⟩
noncomputable def t_same_Pred : Nat → List (FnK tab) := tbl [(30, N_same_Bytes), (31, N_same_Words), (78, N_same_Btbs)]
noncomputable def q_same_Pred : Nat → Option (MarkK tab) := fun _ => none
noncomputable def x_same_Tlbs : FnX := ⟨[0, 1, 4, 5, 10, 20, 31], [], [true], [(11, [(0, .any), (1, .any), (5, .any)]), (12, [(4, .any)]), (13, [(0, .any), (1, .any), (5, .any)])]⟩
noncomputable def g_same_Tlbs : AFn tab := gOf Tryz.prog cx x_same_Tlbs Tryz.f33
noncomputable def K_same_Tlbs_11 : MarkK tab := ⟨[(0, .val (.slice 24 (.named .TTlb)) (.no)), (1, .val (.slice 24 (.named .TTlb)) (.no)), (5, .val (.int .i64) (.no))], [(.ret, [(4, .val (.bool) (.no))]), ((.exit 0), [(4, .undef)])], L_same_Tlbs_11⟩
noncomputable def N_same_Tlbs : FnK tab := ⟨[.val (.slice 24 (.named .TTlb)) (.no), .val (.slice 24 (.named .TTlb)) (.no)], Bool, fun a : Sl 24 (TTlb) × Sl 24 (TTlb) × Unit => F_same_Tlbs a.1 a.2.1, fun r : Bool => (.val (.bool) r (.no), [.undef, .undef])⟩
noncomputable def t_same_Tlbs : Nat → List (FnK tab) := tbl []
noncomputable def q_same_Tlbs : Nat → Option (MarkK tab) := mtbl [(11, K_same_Tlbs_11)]
noncomputable def x_same_Slots : FnX := ⟨[0, 1, 4, 5, 10, 20, 31], [], [true], [(11, [(0, .any), (1, .any), (5, .any)]), (12, [(4, .any)]), (13, [(0, .any), (1, .any), (5, .any)])]⟩
noncomputable def g_same_Slots : AFn tab := gOf Tryz.prog cx x_same_Slots Tryz.f34
noncomputable def K_same_Slots_11 : MarkK tab := ⟨[(0, .val (.slice 56 (.named .TSlot)) (.no)), (1, .val (.slice 56 (.named .TSlot)) (.no)), (5, .val (.int .i64) (.no))], [(.ret, [(4, .val (.bool) (.no))]), ((.exit 0), [(4, .undef)])], L_same_Slots_11⟩
noncomputable def N_same_Slots : FnK tab := ⟨[.val (.slice 56 (.named .TSlot)) (.no), .val (.slice 56 (.named .TSlot)) (.no)], Bool, fun a : Sl 56 (TSlot) × Sl 56 (TSlot) × Unit => F_same_Slots a.1 a.2.1, fun r : Bool => (.val (.bool) r (.no), [.undef, .undef])⟩
noncomputable def t_same_Slots : Nat → List (FnK tab) := tbl []
noncomputable def q_same_Slots : Nat → Option (MarkK tab) := mtbl [(11, K_same_Slots_11)]
noncomputable def x_same_Ints : FnX := ⟨[0, 1, 4, 5, 10, 20, 31], [], [true], [(11, [(0, .any), (1, .any), (5, .any)]), (12, [(4, .any)]), (13, [(0, .any), (1, .any), (5, .any)])]⟩
noncomputable def g_same_Ints : AFn tab := gOf Tryz.prog cx x_same_Ints Tryz.f108
noncomputable def K_same_Ints_11 : MarkK tab := ⟨[(0, .val (.slice 8 (.int .i64)) (.no)), (1, .val (.slice 8 (.int .i64)) (.no)), (5, .val (.int .i64) (.no))], [(.ret, [(4, .val (.bool) (.no))]), ((.exit 0), [(4, .undef)])], L_same_Ints_11⟩
noncomputable def N_same_Ints : FnK tab := ⟨[.val (.slice 8 (.int .i64)) (.no), .val (.slice 8 (.int .i64)) (.no)], Bool, fun a : Sl 8 (W .i64) × Sl 8 (W .i64) × Unit => F_same_Ints a.1 a.2.1, fun r : Bool => (.val (.bool) r (.no), [.undef, .undef])⟩
noncomputable def t_same_Ints : Nat → List (FnK tab) := tbl []
noncomputable def q_same_Ints : Nat → Option (MarkK tab) := mtbl [(11, K_same_Ints_11)]
noncomputable def x_same_Free : FnX := ⟨[0, 1, 2, 3, 4], [], [true], []⟩
noncomputable def g_same_Free : AFn tab := gOf Tryz.prog cx x_same_Free Tryz.f79
noncomputable def N_same_Free : FnK tab := ⟨[.val (.named .TFree) (.no), .val (.named .TFree) (.no)], Bool, fun a : TFree × TFree × Unit => F_same_Free a.1 a.2.1, fun r : Bool => (.val (.bool) r (.no), [.undef, .undef])⟩
noncomputable def t_same_Free : Nat → List (FnK tab) := tbl [(108, N_same_Ints)]
noncomputable def q_same_Free : Nat → Option (MarkK tab) := fun _ => none
noncomputable def x_same_Rename : FnX := ⟨[0, 1, 2, 3, 4], [], [true], []⟩
noncomputable def g_same_Rename : AFn tab := gOf Tryz.prog cx x_same_Rename Tryz.f35
noncomputable def N_same_Rename : FnK tab := ⟨[.val (.named .TNames) (.no), .val (.named .TNames) (.no)], Bool, fun a : TNames × TNames × Unit => F_same_Rename a.1 a.2.1, fun r : Bool => (.val (.bool) r (.no), [.undef, .undef])⟩
noncomputable def t_same_Rename : Nat → List (FnK tab) := tbl [(79, N_same_Free)]
noncomputable def q_same_Rename : Nat → Option (MarkK tab) := fun _ => none
noncomputable def x_same_Bools : FnX := ⟨[0, 1, 4, 5, 10, 20, 31], [], [true], [(11, [(0, .any), (1, .any), (5, .any)]), (12, [(4, .any)]), (13, [(0, .any), (1, .any), (5, .any)])]⟩
noncomputable def g_same_Bools : AFn tab := gOf Tryz.prog cx x_same_Bools Tryz.f80
noncomputable def K_same_Bools_11 : MarkK tab := ⟨[(0, .val (.slice 1 (.bool)) (.no)), (1, .val (.slice 1 (.bool)) (.no)), (5, .val (.int .i64) (.no))], [(.ret, [(4, .val (.bool) (.no))]), ((.exit 0), [(4, .undef)])], L_same_Bools_11⟩
noncomputable def N_same_Bools : FnK tab := ⟨[.val (.slice 1 (.bool)) (.no), .val (.slice 1 (.bool)) (.no)], Bool, fun a : Sl 1 (Bool) × Sl 1 (Bool) × Unit => F_same_Bools a.1 a.2.1, fun r : Bool => (.val (.bool) r (.no), [.undef, .undef])⟩
noncomputable def t_same_Bools : Nat → List (FnK tab) := tbl []
noncomputable def q_same_Bools : Nat → Option (MarkK tab) := mtbl [(11, K_same_Bools_11)]
noncomputable def x_same_Phys : FnX := ⟨[0, 1, 2, 3, 4], [], [true], []⟩
noncomputable def g_same_Phys : AFn tab := gOf Tryz.prog cx x_same_Phys Tryz.f36
noncomputable def N_same_Phys : FnK tab := ⟨[.val (.named .TPhys) (.no), .val (.named .TPhys) (.no)], Bool, fun a : TPhys × TPhys × Unit => F_same_Phys a.1 a.2.1, fun r : Bool => (.val (.bool) r (.no), [.undef, .undef])⟩
noncomputable def t_same_Phys : Nat → List (FnK tab) := tbl [(31, N_same_Words), (80, N_same_Bools)]
noncomputable def q_same_Phys : Nat → Option (MarkK tab) := fun _ => none
noncomputable def x_same_Robs : FnX := ⟨[0, 1, 4, 5, 10, 20, 31], [], [true], [(11, [(0, .any), (1, .any), (5, .any)]), (12, [(4, .any)]), (13, [(0, .any), (1, .any), (5, .any)])]⟩
noncomputable def g_same_Robs : AFn tab := gOf Tryz.prog cx x_same_Robs Tryz.f37
noncomputable def K_same_Robs_11 : MarkK tab := ⟨[(0, .val (.slice 248 (.named .TRob)) (.no)), (1, .val (.slice 248 (.named .TRob)) (.no)), (5, .val (.int .i64) (.no))], [(.ret, [(4, .val (.bool) (.no))]), ((.exit 0), [(4, .undef)])], L_same_Robs_11⟩
noncomputable def N_same_Robs : FnK tab := ⟨[.val (.slice 248 (.named .TRob)) (.no), .val (.slice 248 (.named .TRob)) (.no)], Bool, fun a : Sl 248 (TRob) × Sl 248 (TRob) × Unit => F_same_Robs a.1 a.2.1, fun r : Bool => (.val (.bool) r (.no), [.undef, .undef])⟩
noncomputable def t_same_Robs : Nat → List (FnK tab) := tbl []
noncomputable def q_same_Robs : Nat → Option (MarkK tab) := mtbl [(11, K_same_Robs_11)]
noncomputable def x_same_Iqs : FnX := ⟨[0, 1, 4, 5, 10, 20, 31], [], [true], [(11, [(0, .any), (1, .any), (5, .any)]), (12, [(4, .any)]), (13, [(0, .any), (1, .any), (5, .any)])]⟩
noncomputable def g_same_Iqs : AFn tab := gOf Tryz.prog cx x_same_Iqs Tryz.f38
noncomputable def K_same_Iqs_11 : MarkK tab := ⟨[(0, .val (.slice 224 (.named .TIq)) (.no)), (1, .val (.slice 224 (.named .TIq)) (.no)), (5, .val (.int .i64) (.no))], [(.ret, [(4, .val (.bool) (.no))]), ((.exit 0), [(4, .undef)])], L_same_Iqs_11⟩
noncomputable def N_same_Iqs : FnK tab := ⟨[.val (.slice 224 (.named .TIq)) (.no), .val (.slice 224 (.named .TIq)) (.no)], Bool, fun a : Sl 224 (TIq) × Sl 224 (TIq) × Unit => F_same_Iqs a.1 a.2.1, fun r : Bool => (.val (.bool) r (.no), [.undef, .undef])⟩
noncomputable def t_same_Iqs : Nat → List (FnK tab) := tbl []
noncomputable def q_same_Iqs : Nat → Option (MarkK tab) := mtbl [(11, K_same_Iqs_11)]
noncomputable def x_same_Lqs : FnX := ⟨[0, 1, 4, 5, 10, 20, 31], [], [true], [(11, [(0, .any), (1, .any), (5, .any)]), (12, [(4, .any)]), (13, [(0, .any), (1, .any), (5, .any)])]⟩
noncomputable def g_same_Lqs : AFn tab := gOf Tryz.prog cx x_same_Lqs Tryz.f39
noncomputable def K_same_Lqs_11 : MarkK tab := ⟨[(0, .val (.slice 48 (.named .TLq)) (.no)), (1, .val (.slice 48 (.named .TLq)) (.no)), (5, .val (.int .i64) (.no))], [(.ret, [(4, .val (.bool) (.no))]), ((.exit 0), [(4, .undef)])], L_same_Lqs_11⟩
noncomputable def N_same_Lqs : FnK tab := ⟨[.val (.slice 48 (.named .TLq)) (.no), .val (.slice 48 (.named .TLq)) (.no)], Bool, fun a : Sl 48 (TLq) × Sl 48 (TLq) × Unit => F_same_Lqs a.1 a.2.1, fun r : Bool => (.val (.bool) r (.no), [.undef, .undef])⟩
noncomputable def t_same_Lqs : Nat → List (FnK tab) := tbl []
noncomputable def q_same_Lqs : Nat → Option (MarkK tab) := mtbl [(11, K_same_Lqs_11)]
noncomputable def x_same_Sqs : FnX := ⟨[0, 1, 4, 5, 10, 20, 31], [], [true], [(11, [(0, .any), (1, .any), (5, .any)]), (12, [(4, .any)]), (13, [(0, .any), (1, .any), (5, .any)])]⟩
noncomputable def g_same_Sqs : AFn tab := gOf Tryz.prog cx x_same_Sqs Tryz.f40
noncomputable def K_same_Sqs_11 : MarkK tab := ⟨[(0, .val (.slice 32 (.named .TSq)) (.no)), (1, .val (.slice 32 (.named .TSq)) (.no)), (5, .val (.int .i64) (.no))], [(.ret, [(4, .val (.bool) (.no))]), ((.exit 0), [(4, .undef)])], L_same_Sqs_11⟩
noncomputable def N_same_Sqs : FnK tab := ⟨[.val (.slice 32 (.named .TSq)) (.no), .val (.slice 32 (.named .TSq)) (.no)], Bool, fun a : Sl 32 (TSq) × Sl 32 (TSq) × Unit => F_same_Sqs a.1 a.2.1, fun r : Bool => (.val (.bool) r (.no), [.undef, .undef])⟩
noncomputable def t_same_Sqs : Nat → List (FnK tab) := tbl []
noncomputable def q_same_Sqs : Nat → Option (MarkK tab) := mtbl [(11, K_same_Sqs_11)]
noncomputable def x_same_Sbs : FnX := ⟨[0, 1, 4, 5, 10, 20, 31], [], [true], [(11, [(0, .any), (1, .any), (5, .any)]), (12, [(4, .any)]), (13, [(0, .any), (1, .any), (5, .any)])]⟩
noncomputable def g_same_Sbs : AFn tab := gOf Tryz.prog cx x_same_Sbs Tryz.f41
noncomputable def K_same_Sbs_11 : MarkK tab := ⟨[(0, .val (.slice 16 (.named .TSb)) (.no)), (1, .val (.slice 16 (.named .TSb)) (.no)), (5, .val (.int .i64) (.no))], [(.ret, [(4, .val (.bool) (.no))]), ((.exit 0), [(4, .undef)])], L_same_Sbs_11⟩
noncomputable def N_same_Sbs : FnK tab := ⟨[.val (.slice 16 (.named .TSb)) (.no), .val (.slice 16 (.named .TSb)) (.no)], Bool, fun a : Sl 16 (TSb) × Sl 16 (TSb) × Unit => F_same_Sbs a.1 a.2.1, fun r : Bool => (.val (.bool) r (.no), [.undef, .undef])⟩
noncomputable def t_same_Sbs : Nat → List (FnK tab) := tbl []
noncomputable def q_same_Sbs : Nat → Option (MarkK tab) := mtbl [(11, K_same_Sbs_11)]
noncomputable def x_same_Flights : FnX := ⟨[0, 1, 4, 5, 10, 20, 31], [], [true], [(11, [(0, .any), (1, .any), (5, .any)]), (12, [(4, .any)]), (13, [(0, .any), (1, .any), (5, .any)])]⟩
noncomputable def g_same_Flights : AFn tab := gOf Tryz.prog cx x_same_Flights Tryz.f42
noncomputable def K_same_Flights_11 : MarkK tab := ⟨[(0, .val (.slice 256 (.named .TFlight)) (.no)), (1, .val (.slice 256 (.named .TFlight)) (.no)), (5, .val (.int .i64) (.no))], [(.ret, [(4, .val (.bool) (.no))]), ((.exit 0), [(4, .undef)])], L_same_Flights_11⟩
noncomputable def N_same_Flights : FnK tab := ⟨[.val (.slice 256 (.named .TFlight)) (.no), .val (.slice 256 (.named .TFlight)) (.no)], Bool, fun a : Sl 256 (TFlight) × Sl 256 (TFlight) × Unit => F_same_Flights a.1 a.2.1, fun r : Bool => (.val (.bool) r (.no), [.undef, .undef])⟩
noncomputable def t_same_Flights : Nat → List (FnK tab) := tbl []
noncomputable def q_same_Flights : Nat → Option (MarkK tab) := mtbl [(11, K_same_Flights_11)]
noncomputable def x_same_Core : FnX := ⟨[0, 1, 2, 3, 4, 51, 105], [], [true], []⟩
noncomputable def g_same_Core : AFn tab := gOf Tryz.prog cx x_same_Core Tryz.f7
noncomputable def N_same_Core : FnK tab := ⟨[.val (.named .TCore) (.no), .val (.named .TCore) (.no)], Bool, fun a : TCore × TCore × Unit => F_same_Core a.1 a.2.1, fun r : Bool => (.val (.bool) r (.no), [.undef, .undef])⟩
noncomputable def t_same_Core : Nat → List (FnK tab) := tbl [(30, N_same_Bytes), (31, N_same_Words), (32, N_same_Pred), (33, N_same_Tlbs), (34, N_same_Slots), (35, N_same_Rename), (36, N_same_Phys), (37, N_same_Robs), (38, N_same_Iqs), (39, N_same_Lqs), (40, N_same_Sqs), (41, N_same_Sbs), (42, N_same_Flights)]
noncomputable def q_same_Core : Nat → Option (MarkK tab) := fun _ => none
noncomputable def x_ref42_Empty : FnX := ⟨[0, 1, 2], [], [true], []⟩
noncomputable def g_ref42_Empty : AFn tab := gOf Tryz.prog cx x_ref42_Empty Tryz.f10
noncomputable def N_ref42_Empty : FnK tab := ⟨[.val (.named .TCore) (.no)], Bool, fun a : TCore × Unit => F_ref42_Empty a.1, fun r : Bool => (.val (.bool) r (.no), [.undef])⟩
noncomputable def t_ref42_Empty : Nat → List (FnK tab) := tbl []
noncomputable def q_ref42_Empty : Nat → Option (MarkK tab) := fun _ => none
noncomputable def x_law42_CoreMakes : FnX := ⟨[0, 1, 2, 3, 4, 5, 6, 7, 8, 24], [], [true], []⟩
noncomputable def g_law42_CoreMakes : AFn tab := gOf Tryz.prog cx x_law42_CoreMakes Tryz.f3
noncomputable def N_law42_CoreMakes : FnK tab := ⟨[.val (.named .TConf) (.no), .val (.named .TMach) (.no)], Bool, fun a : TConf × TMach × Unit => F_law42_CoreMakes a.1 a.2.1, fun r : Bool => (.val (.bool) r (.no), [.undef, .undef])⟩
noncomputable def t_law42_CoreMakes : Nat → List (FnK tab) := tbl [(4, N_law42_awake), (5, N_core_New), (6, N_ref42_New), (7, N_same_Core), (8, N_core_Arch), (9, N_core_Empty), (10, N_ref42_Empty)]
noncomputable def q_law42_CoreMakes : Nat → Option (MarkK tab) := fun _ => none
end Go.Proofs.YtdafegdnjedohaaGreat
