/- YtdafegdnjedohaaTabs: the tables of functions and marks. No statement of the seat is proved here. -/
import Derived.Test.YtdafegdnjedohaaTrees
import Derived.Test.YtdafegdnjedohaaChecked
import Derived.Test.YtdafegdnjedohaaA2G
set_option maxRecDepth 100000
namespace Go.Proofs.Ytdafegdnjedohaa
open Go Go.A2
noncomputable def x_law42_Light : FnX := ⟨[0, 1, 2], [], [true], []⟩
noncomputable def g_law42_Light : AFn tab := gOf Try.prog cx x_law42_Light Try.f11
noncomputable def N_law42_Light : FnK tab := ⟨[.val (.named .TCore) (.no)], Bool, fun a : TCore × Unit => F_law42_Light a.1, fun r : Bool => (.val (.bool) r (.no), [.undef])⟩
noncomputable def t_law42_Light : Nat → List (FnK tab) := tbl []
noncomputable def q_law42_Light : Nat → Option (MarkK tab) := fun _ => none
noncomputable def x_core_Plain : FnX := ⟨[0], [], [true], []⟩
noncomputable def g_core_Plain : AFn tab := gOf Try.prog cx x_core_Plain Try.f8
noncomputable def N_core_Plain : FnK tab := ⟨[], TConf, fun a : Unit => F_core_Plain, fun r : TConf => (.val (.named .TConf) r (.no), [])⟩
noncomputable def t_core_Plain : Nat → List (FnK tab) := tbl []
noncomputable def q_core_Plain : Nat → Option (MarkK tab) := fun _ => none
noncomputable def x_core_bounds : FnX := ⟨[0, 1, 2], [], [true], []⟩
noncomputable def g_core_bounds : AFn tab := gOf Try.prog cx x_core_bounds Try.f23
noncomputable def N_core_bounds : FnK tab := ⟨[.val (.named .TConf) (.no)], Sl 24 (TBound), fun a : TConf × Unit => F_core_bounds a.1, fun r : Sl 24 (TBound) => (.val (.slice 24 (.named .TBound)) r (.no), [.undef])⟩
noncomputable def t_core_bounds : Nat → List (FnK tab) := tbl []
noncomputable def q_core_bounds : Nat → Option (MarkK tab) := fun _ => none
noncomputable def x_core_Conf_1 : FnX := ⟨[0, 1, 2], [], [true], []⟩
noncomputable def g_core_Conf_1 : AFn tab := gOf Try.prog cx x_core_Conf_1 Try.f24
noncomputable def N_core_Conf_1 : FnK tab := ⟨[.val (.named .TBound) (.no)], Bool, fun a : TBound × Unit => F_core_Conf_1 a.1, fun r : Bool => (.val (.bool) r (.no), [.undef])⟩
noncomputable def t_core_Conf_1 : Nat → List (FnK tab) := tbl []
noncomputable def q_core_Conf_1 : Nat → Option (MarkK tab) := fun _ => none
noncomputable def x_slices_IndexFunc_bound_of_core_Conf_1 : FnX := ⟨[0, 1, 4, 5, 7, 8, 9, 16], [], [true], [(5, [(0, .any), (1, .any), (7, .any), (8, .any)]), (6, [(4, .any)]), (7, [(0, .any), (1, .any), (7, .any), (8, .any)])]⟩
noncomputable def g_slices_IndexFunc_bound_of_core_Conf_1 : AFn tab := gOf Try.prog cx x_slices_IndexFunc_bound_of_core_Conf_1 Try.f55
noncomputable def K_slices_IndexFunc_bound_of_core_Conf_1_5 : MarkK tab := ⟨[(0, .val (.slice 24 (.named .TBound)) (.no)), (1, .fn 24 [] []), (7, .val (.int .i64) (.no)), (8, .val (.int .i64) (.no))], [(.ret, [(4, .val (.int .i64) (.no))]), ((.exit 0), [(4, .undef)])], L_slices_IndexFunc_bound_of_core_Conf_1_5⟩
noncomputable def N_slices_IndexFunc_bound_of_core_Conf_1 : FnK tab := ⟨[.val (.slice 24 (.named .TBound)) (.no), .fn 24 [] []], W .i64, fun a : Sl 24 (TBound) × ((Unit) × (Unit)) × Unit => F_slices_IndexFunc_bound_of_core_Conf_1 a.1, fun r : W .i64 => (.val (.int .i64) r (.no), [.undef, .undef])⟩
noncomputable def t_slices_IndexFunc_bound_of_core_Conf_1 : Nat → List (FnK tab) := tbl [(24, N_core_Conf_1)]
noncomputable def q_slices_IndexFunc_bound_of_core_Conf_1 : Nat → Option (MarkK tab) := mtbl [(5, K_slices_IndexFunc_bound_of_core_Conf_1_5)]
noncomputable def x_slices_ContainsFunc_bound_of_core_Conf_1 : FnX := ⟨[0, 1, 4], [], [true], []⟩
noncomputable def g_slices_ContainsFunc_bound_of_core_Conf_1 : AFn tab := gOf Try.prog cx x_slices_ContainsFunc_bound_of_core_Conf_1 Try.f22
noncomputable def N_slices_ContainsFunc_bound_of_core_Conf_1 : FnK tab := ⟨[.val (.slice 24 (.named .TBound)) (.no), .fn 24 [] []], Bool, fun a : Sl 24 (TBound) × ((Unit) × (Unit)) × Unit => F_slices_ContainsFunc_bound_of_core_Conf_1 a.1, fun r : Bool => (.val (.bool) r (.no), [.undef, .undef])⟩
noncomputable def t_slices_ContainsFunc_bound_of_core_Conf_1 : Nat → List (FnK tab) := tbl [(55, N_slices_IndexFunc_bound_of_core_Conf_1)]
noncomputable def q_slices_ContainsFunc_bound_of_core_Conf_1 : Nat → Option (MarkK tab) := fun _ => none
noncomputable def x_core_Conf : FnX := ⟨[0, 1, 2, 5], [], [true], []⟩
noncomputable def g_core_Conf : AFn tab := gOf Try.prog cx x_core_Conf Try.f6
noncomputable def N_core_Conf : FnK tab := ⟨[.val (.named .TConf) (.no)], W .i64, fun a : TConf × Unit => F_core_Conf a.1, fun r : W .i64 => (.val (.int .i64) r (.no), [.undef])⟩
noncomputable def t_core_Conf : Nat → List (FnK tab) := tbl [(22, N_slices_ContainsFunc_bound_of_core_Conf_1), (23, N_core_bounds)]
noncomputable def q_core_Conf : Nat → Option (MarkK tab) := fun _ => none
noncomputable def x_csr_Masked : FnX := ⟨[0, 2, 3, 10], [], [true], []⟩
noncomputable def g_csr_Masked : AFn tab := gOf Try.prog cx x_csr_Masked Try.f73
noncomputable def N_csr_Masked : FnK tab := ⟨[.val (.int .i64) (.no)], W .u32, fun a : W .i64 × Unit => F_csr_Masked a.1, fun r : W .u32 => (.val (.int .u32) r (.no), [.undef])⟩
noncomputable def t_csr_Masked : Nat → List (FnK tab) := tbl []
noncomputable def q_csr_Masked : Nat → Option (MarkK tab) := fun _ => none
noncomputable def x_core_clean : FnX := ⟨[0, 1, 2, 3, 4, 6, 7, 8, 15], [], [true], [(5, [(1, .any), (6, .any), (7, .any)]), (6, [(1, .any), (2, .any)]), (7, [(1, .any), (6, .any), (7, .any)])]⟩
noncomputable def g_core_clean : AFn tab := gOf Try.prog cx x_core_clean Try.f35
noncomputable def K_core_clean_5 : MarkK tab := ⟨[(1, .box (.named .TArch) (.no)), (6, .val (.arr 12 (.int .u32)) (.no)), (7, .val (.int .i64) (.no))], [(.ret, [(1, .box (.named .TArch) (.no)), (2, .val (.bool) (.no))]), ((.exit 0), [(1, .box (.named .TArch) (.no)), (2, .undef)])], L_core_clean_5⟩
noncomputable def N_core_clean : FnK tab := ⟨[.val (.named .TArch) (.no)], Bool, fun a : TArch × Unit => F_core_clean a.1, fun r : Bool => (.val (.bool) r (.no), [.undef])⟩
noncomputable def t_core_clean : Nat → List (FnK tab) := tbl [(73, N_csr_Masked)]
noncomputable def q_core_clean : Nat → Option (MarkK tab) := mtbl [(5, K_core_clean_5)]
noncomputable def x_core_right : FnX := ⟨[0, 1, 2, 3, 24], [], [true], []⟩
noncomputable def g_core_right : AFn tab := gOf Try.prog cx x_core_right Try.f47
noncomputable def N_core_right : FnK tab := ⟨[.val (.named .TMach) (.no)], Bool, fun a : TMach × Unit => F_core_right a.1, fun r : Bool => (.val (.bool) r (.no), [.undef])⟩
noncomputable def t_core_right : Nat → List (FnK tab) := tbl [(35, N_core_clean)]
noncomputable def q_core_right : Nat → Option (MarkK tab) := fun _ => none
noncomputable def x_step_Copy : FnX := ⟨[0, 1, 2], [], [true], []⟩
noncomputable def g_step_Copy : AFn tab := gOf Try.prog cx x_step_Copy Try.f48
noncomputable def N_step_Copy : FnK tab := ⟨[.val (.named .TMach) (.no)], TMach, fun a : TMach × Unit => F_step_Copy a.1, fun r : TMach => (.val (.named .TMach) r (.no), [.undef])⟩
noncomputable def t_step_Copy : Nat → List (FnK tab) := tbl []
noncomputable def q_step_Copy : Nat → Option (MarkK tab) := fun _ => none
noncomputable def x_pht_clamp : FnX := ⟨[0, 2], [], [true], []⟩
noncomputable def g_pht_clamp : AFn tab := gOf Try.prog cx x_pht_clamp Try.f107
noncomputable def N_pht_clamp : FnK tab := ⟨[.val (.int .i64) (.no)], W .i64, fun a : W .i64 × Unit => F_pht_clamp a.1, fun r : W .i64 => (.val (.int .i64) r (.no), [.undef])⟩
noncomputable def t_pht_clamp : Nat → List (FnK tab) := tbl []
noncomputable def q_pht_clamp : Nat → Option (MarkK tab) := fun _ => none
noncomputable def x_bits_Mul64 : FnX := ⟨[0, 1, 4, 5, 6, 7, 8, 9, 10, 11, 12, 13], [], [true, true], []⟩
noncomputable def g_bits_Mul64 : AFn tab := gOf Try.prog cx x_bits_Mul64 Try.f111
noncomputable def N_bits_Mul64 : FnK tab := ⟨[.val (.int .u64) (.no), .val (.int .u64) (.no)], W .u64 × W .u64, fun a : W .u64 × W .u64 × Unit => F_bits_Mul64 a.1 a.2.1, fun r : W .u64 × W .u64 => (.tup [.val (.int .u64) r.1 (.no), .val (.int .u64) r.2 (.no)], [.undef, .undef])⟩
noncomputable def t_bits_Mul64 : Nat → List (FnK tab) := tbl []
noncomputable def q_bits_Mul64 : Nat → Option (MarkK tab) := fun _ => none
noncomputable def x_bits_Mul : FnX := ⟨[0, 1, 4, 5, 6, 7, 8, 9], [], [true, true], []⟩
noncomputable def g_bits_Mul : AFn tab := gOf Try.prog cx x_bits_Mul Try.f108
noncomputable def N_bits_Mul : FnK tab := ⟨[.val (.int .u64) (.no), .val (.int .u64) (.no)], W .u64 × W .u64, fun a : W .u64 × W .u64 × Unit => F_bits_Mul a.1 a.2.1, fun r : W .u64 × W .u64 => (.tup [.val (.int .u64) r.1 (.no), .val (.int .u64) r.2 (.no)], [.undef, .undef])⟩
noncomputable def t_bits_Mul : Nat → List (FnK tab) := tbl [(111, N_bits_Mul64)]
noncomputable def q_bits_Mul : Nat → Option (MarkK tab) := fun _ => none
noncomputable def x_slices_Repeat_uint8 : FnX := ⟨[0, 1, 4, 5, 6, 7, 8, 10, 26, 37], [], [true], [(17, [(7, .any), (8, .any)]), (18, [(7, .any)]), (19, [(7, .any), (8, .any)])]⟩
noncomputable def g_slices_Repeat_uint8 : AFn tab := gOf Try.prog cx x_slices_Repeat_uint8 Try.f106
noncomputable def K_slices_Repeat_uint8_17 : MarkK tab := ⟨[(7, .val (.slice 1 (.int .u8)) (.yes 0)), (8, .val (.int .i64) (.no))], [((.exit 0), [(7, .val (.slice 1 (.int .u8)) (.yes 0))])], L_slices_Repeat_uint8_17⟩
noncomputable def N_slices_Repeat_uint8 : FnK tab := ⟨[.val (.slice 1 (.int .u8)) (.no), .val (.int .i64) (.no)], Sl 1 (W .u8), fun a : Sl 1 (W .u8) × W .i64 × Unit => F_slices_Repeat_uint8 a.1 a.2.1, fun r : Sl 1 (W .u8) => (.val (.slice 1 (.int .u8)) r (.no), [.undef, .undef])⟩
noncomputable def t_slices_Repeat_uint8 : Nat → List (FnK tab) := tbl [(108, N_bits_Mul)]
noncomputable def q_slices_Repeat_uint8 : Nat → Option (MarkK tab) := mtbl [(17, K_slices_Repeat_uint8_17)]
noncomputable def x_pht_New : FnX := ⟨[0, 2], [], [true], []⟩
noncomputable def g_pht_New : AFn tab := gOf Try.prog cx x_pht_New Try.f85
noncomputable def N_pht_New : FnK tab := ⟨[.val (.int .i64) (.no)], Sl 1 (W .u8), fun a : W .i64 × Unit => F_pht_New a.1, fun r : Sl 1 (W .u8) => (.val (.slice 1 (.int .u8)) r (.no), [.undef])⟩
noncomputable def t_pht_New : Nat → List (FnK tab) := tbl [(106, N_slices_Repeat_uint8), (107, N_pht_clamp)]
noncomputable def q_pht_New : Nat → Option (MarkK tab) := fun _ => none
noncomputable def x_btb_New : FnX := ⟨[0, 2], [], [true], []⟩
noncomputable def g_btb_New : AFn tab := gOf Try.prog cx x_btb_New Try.f86
noncomputable def N_btb_New : FnK tab := ⟨[.val (.int .i64) (.no)], Sl 16 (TBtb), fun a : W .i64 × Unit => F_btb_New a.1, fun r : Sl 16 (TBtb) => (.val (.slice 16 (.named .TBtb)) r (.no), [.undef])⟩
noncomputable def t_btb_New : Nat → List (FnK tab) := tbl []
noncomputable def q_btb_New : Nat → Option (MarkK tab) := fun _ => none
noncomputable def x_ras_New : FnX := ⟨[0, 2], [], [true], []⟩
noncomputable def g_ras_New : AFn tab := gOf Try.prog cx x_ras_New Try.f87
noncomputable def N_ras_New : FnK tab := ⟨[.val (.int .i64) (.no)], Sl 4 (W .u32), fun a : W .i64 × Unit => F_ras_New a.1, fun r : Sl 4 (W .u32) => (.val (.slice 4 (.int .u32)) r (.no), [.undef])⟩
noncomputable def t_ras_New : Nat → List (FnK tab) := tbl []
noncomputable def q_ras_New : Nat → Option (MarkK tab) := fun _ => none
noncomputable def x_pred_New : FnX := ⟨[0, 1, 2], [], [true], []⟩
noncomputable def g_pred_New : AFn tab := gOf Try.prog cx x_pred_New Try.f49
noncomputable def N_pred_New : FnK tab := ⟨[.val (.named .TConf) (.no)], TPred, fun a : TConf × Unit => F_pred_New a.1, fun r : TPred => (.val (.named .TPred) r (.no), [.undef])⟩
noncomputable def t_pred_New : Nat → List (FnK tab) := tbl [(85, N_pht_New), (86, N_btb_New), (87, N_ras_New)]
noncomputable def q_pred_New : Nat → Option (MarkK tab) := fun _ => none
noncomputable def x_tlb_New : FnX := ⟨[0, 2], [], [true], []⟩
noncomputable def g_tlb_New : AFn tab := gOf Try.prog cx x_tlb_New Try.f50
noncomputable def N_tlb_New : FnK tab := ⟨[.val (.int .i64) (.no)], Sl 24 (TTlb), fun a : W .i64 × Unit => F_tlb_New a.1, fun r : Sl 24 (TTlb) => (.val (.slice 24 (.named .TTlb)) r (.no), [.undef])⟩
noncomputable def t_tlb_New : Nat → List (FnK tab) := tbl []
noncomputable def q_tlb_New : Nat → Option (MarkK tab) := fun _ => none
noncomputable def x_dep_New : FnX := ⟨[0, 2], [], [true], []⟩
noncomputable def g_dep_New : AFn tab := gOf Try.prog cx x_dep_New Try.f51
noncomputable def N_dep_New : FnK tab := ⟨[.val (.int .i64) (.no)], Sl 1 (W .u8), fun a : W .i64 × Unit => F_dep_New a.1, fun r : Sl 1 (W .u8) => (.val (.slice 1 (.int .u8)) r (.no), [.undef])⟩
noncomputable def t_dep_New : Nat → List (FnK tab) := tbl []
noncomputable def q_dep_New : Nat → Option (MarkK tab) := fun _ => none
noncomputable def x_rat_New : FnX := ⟨[0, 1, 2, 5], [], [true], [(7, [(0, .any), (1, .any), (2, .any)]), (8, [(0, .any), (1, .any)]), (9, [(0, .any), (1, .any), (2, .any)])]⟩
noncomputable def g_rat_New : AFn tab := gOf Try.prog cx x_rat_New Try.f88
noncomputable def K_rat_New_7 : MarkK tab := ⟨[(0, .box (.arr 16 (.int .i64)) (.no)), (1, .box (.arr 16 (.int .i64)) (.no)), (2, .val (.int .i64) (.no))], [((.exit 0), [(0, .box (.arr 16 (.int .i64)) (.no)), (1, .box (.arr 16 (.int .i64)) (.no))])], L_rat_New_7⟩
noncomputable def N_rat_New : FnK tab := ⟨[], Arr 16 (W .i64), fun a : Unit => F_rat_New, fun r : Arr 16 (W .i64) => (.val (.arr 16 (.int .i64)) r (.no), [])⟩
noncomputable def t_rat_New : Nat → List (FnK tab) := tbl []
noncomputable def q_rat_New : Nat → Option (MarkK tab) := mtbl [(7, K_rat_New_7)]
noncomputable def x_freel_New : FnX := ⟨[0, 1, 4, 5, 6, 21, 22, 23], [], [true], [(11, [(1, .any), (4, .any), (5, .any), (21, .any), (22, .any)]), (12, [(4, .any), (5, .any)]), (13, [(1, .any), (4, .any), (5, .any), (21, .any), (22, .any)])]⟩
noncomputable def g_freel_New : AFn tab := gOf Try.prog cx x_freel_New Try.f89
noncomputable def K_freel_New_11 : MarkK tab := ⟨[(1, .val (.int .i64) (.no)), (4, .box (.named .TFree) (.st [.yes 0, .no, .no])), (5, .box (.named .TFree) (.st [.yes 0, .no, .no])), (21, .val (.int .i64) (.no)), (22, .val (.int .i64) (.no))], [((.exit 0), [(4, .box (.named .TFree) (.st [.yes 0, .no, .no])), (5, .box (.named .TFree) (.st [.yes 0, .no, .no]))])], L_freel_New_11⟩
noncomputable def N_freel_New : FnK tab := ⟨[.val (.int .i64) (.no), .val (.int .i64) (.no)], TFree, fun a : W .i64 × W .i64 × Unit => F_freel_New a.1 a.2.1, fun r : TFree => (.val (.named .TFree) r (.no), [.undef, .undef])⟩
noncomputable def t_freel_New : Nat → List (FnK tab) := tbl []
noncomputable def q_freel_New : Nat → Option (MarkK tab) := mtbl [(11, K_freel_New_11)]
noncomputable def x_rename_New : FnX := ⟨[0, 2], [], [true], []⟩
noncomputable def g_rename_New : AFn tab := gOf Try.prog cx x_rename_New Try.f52
noncomputable def N_rename_New : FnK tab := ⟨[.val (.int .i64) (.no)], TNames, fun a : W .i64 × Unit => F_rename_New a.1, fun r : TNames => (.val (.named .TNames) r (.no), [.undef])⟩
noncomputable def t_rename_New : Nat → List (FnK tab) := tbl [(88, N_rat_New), (89, N_freel_New)]
noncomputable def q_rename_New : Nat → Option (MarkK tab) := fun _ => none
noncomputable def x_slices_Repeat_bool : FnX := ⟨[0, 1, 4, 5, 6, 7, 8, 10, 26, 37], [], [true], [(17, [(7, .any), (8, .any)]), (18, [(7, .any)]), (19, [(7, .any), (8, .any)])]⟩
noncomputable def g_slices_Repeat_bool : AFn tab := gOf Try.prog cx x_slices_Repeat_bool Try.f90
noncomputable def K_slices_Repeat_bool_17 : MarkK tab := ⟨[(7, .val (.slice 1 (.bool)) (.yes 0)), (8, .val (.int .i64) (.no))], [((.exit 0), [(7, .val (.slice 1 (.bool)) (.yes 0))])], L_slices_Repeat_bool_17⟩
noncomputable def N_slices_Repeat_bool : FnK tab := ⟨[.val (.slice 1 (.bool)) (.no), .val (.int .i64) (.no)], Sl 1 (Bool), fun a : Sl 1 (Bool) × W .i64 × Unit => F_slices_Repeat_bool a.1 a.2.1, fun r : Sl 1 (Bool) => (.val (.slice 1 (.bool)) r (.no), [.undef, .undef])⟩
noncomputable def t_slices_Repeat_bool : Nat → List (FnK tab) := tbl [(108, N_bits_Mul)]
noncomputable def q_slices_Repeat_bool : Nat → Option (MarkK tab) := mtbl [(17, K_slices_Repeat_bool_17)]
noncomputable def x_prf_New : FnX := ⟨[0, 2], [], [true], []⟩
noncomputable def g_prf_New : AFn tab := gOf Try.prog cx x_prf_New Try.f53
noncomputable def N_prf_New : FnK tab := ⟨[.val (.int .i64) (.no)], TPhys, fun a : W .i64 × Unit => F_prf_New a.1, fun r : TPhys => (.val (.named .TPhys) r (.no), [.undef])⟩
noncomputable def t_prf_New : Nat → List (FnK tab) := tbl [(90, N_slices_Repeat_bool)]
noncomputable def q_prf_New : Nat → Option (MarkK tab) := fun _ => none
noncomputable def N_slices_Clone_uint32 : FnK tab := cloneK 4 (.int .u32)
noncomputable def N_slices_Clone_bool : FnK tab := cloneK 1 (.bool)
noncomputable def x_prf_has : FnX := ⟨[0, 1, 2, 4], [], [true], []⟩
noncomputable def g_prf_has : AFn tab := gOf Try.prog cx x_prf_has Try.f93
noncomputable def N_prf_has : FnK tab := ⟨[.val (.named .TPhys) (.no), .val (.int .i64) (.no)], Bool, fun a : TPhys × W .i64 × Unit => F_prf_has a.1 a.2.1, fun r : Bool => (.val (.bool) r (.no), [.undef, .undef])⟩
noncomputable def t_prf_has : Nat → List (FnK tab) := tbl []
noncomputable def q_prf_has : Nat → Option (MarkK tab) := fun _ => none
noncomputable def x_prf_Put : FnX := ⟨[0, 1, 2, 3, 6, 7, 17], [], [true], []⟩
noncomputable def g_prf_Put : AFn tab := gOf Try.prog cx x_prf_Put Try.f54
noncomputable def N_prf_Put : FnK tab := ⟨[.val (.named .TPhys) (.no), .val (.int .i64) (.no), .val (.int .u32) (.no)], TPhys, fun a : TPhys × W .i64 × W .u32 × Unit => F_prf_Put a.1 a.2.1 a.2.2.1, fun r : TPhys => (.val (.named .TPhys) r (.no), [.undef, .undef, .undef])⟩
noncomputable def t_prf_Put : Nat → List (FnK tab) := tbl [(91, N_slices_Clone_uint32), (92, N_slices_Clone_bool), (93, N_prf_has)]
noncomputable def q_prf_Put : Nat → Option (MarkK tab) := fun _ => none
noncomputable def x_core_New : FnX := ⟨[0, 1, 2, 3, 4, 5, 6, 7, 8, 12, 17, 52], [], [true, true], [(27, [(3, .any), (4, .any), (7, .any), (8, .any)]), (28, [(4, .any), (7, .any)]), (29, [(3, .any), (4, .any), (7, .any), (8, .any)])]⟩
noncomputable def g_core_New : AFn tab := gOf Try.prog cx x_core_New Try.f19
noncomputable def K_core_New_27 : MarkK tab := ⟨[(3, .box (.named .TMach) (.no)), (4, .box (.named .TCore) (.st [.no, .no, .yes 0, .yes 0, .no, .no, .no, .yes 0, .no, .yes 0, .no, .no, .yes 0, .yes 0, .yes 0, .yes 0, .yes 0, .yes 0, .yes 0, .no, .no])), (7, .box (.named .TCore) (.st [.no, .no, .no, .no, .no, .no, .no, .no, .no, .yes 0, .no, .no, .yes 0, .yes 0, .yes 0, .yes 0, .yes 0, .yes 0, .no, .no, .no])), (8, .val (.int .i64) (.no))], [((.exit 0), [(4, .box (.named .TCore) (.st [.no, .no, .yes 0, .yes 0, .no, .no, .no, .yes 0, .no, .yes 0, .no, .no, .yes 0, .yes 0, .yes 0, .yes 0, .yes 0, .yes 0, .yes 0, .no, .no])), (7, .box (.named .TCore) (.st [.no, .no, .no, .no, .no, .no, .no, .no, .no, .yes 0, .no, .no, .yes 0, .yes 0, .yes 0, .yes 0, .yes 0, .yes 0, .no, .no, .no]))])], L_core_New_27⟩
noncomputable def N_core_New : FnK tab := ⟨[.val (.named .TConf) (.no), .val (.named .TMach) (.no)], TCore × W .i64, fun a : TConf × TMach × Unit => F_core_New a.1 a.2.1, fun r : TCore × W .i64 => (.tup [.val (.named .TCore) r.1 (.no), .val (.int .i64) r.2 (.no)], [.undef, .undef])⟩
noncomputable def t_core_New : Nat → List (FnK tab) := tbl [(6, N_core_Conf), (47, N_core_right), (48, N_step_Copy), (49, N_pred_New), (50, N_tlb_New), (51, N_dep_New), (52, N_rename_New), (53, N_prf_New), (54, N_prf_Put)]
noncomputable def q_core_New : Nat → Option (MarkK tab) := mtbl [(27, K_core_New_27)]
noncomputable def x_core_Empty : FnX := ⟨[0, 1, 2], [], [true], []⟩
noncomputable def g_core_Empty : AFn tab := gOf Try.prog cx x_core_Empty Try.f15
noncomputable def N_core_Empty : FnK tab := ⟨[.val (.named .TCore) (.no)], Bool, fun a : TCore × Unit => F_core_Empty a.1, fun r : Bool => (.val (.bool) r (.no), [.undef])⟩
noncomputable def t_core_Empty : Nat → List (FnK tab) := tbl []
noncomputable def q_core_Empty : Nat → Option (MarkK tab) := fun _ => none
noncomputable def x_core_rooms : FnX := ⟨[0, 1, 2, 3, 56], [], [true], []⟩
noncomputable def g_core_rooms : AFn tab := gOf Try.prog cx x_core_rooms Try.f26
noncomputable def N_core_rooms : FnK tab := ⟨[.val (.named .TCore) (.no)], Bool, fun a : TCore × Unit => F_core_rooms a.1, fun r : Bool => (.val (.bool) r (.no), [.undef])⟩
noncomputable def t_core_rooms : Nat → List (FnK tab) := tbl [(6, N_core_Conf)]
noncomputable def q_core_rooms : Nat → Option (MarkK tab) := fun _ => none
noncomputable def x_core_queued : FnX := ⟨[0, 1, 2, 3, 5, 7, 9, 10, 11, 12, 22, 23, 24, 25], [], [true, true], [(5, [(1, .any), (2, .own), (3, .own), (9, .any), (10, .any), (11, .any)]), (6, [(1, .any), (2, .any), (3, .own)]), (7, [(1, .any), (2, .own), (3, .own), (9, .any), (10, .any), (11, .any)]), (20, [(2, .any), (3, .own), (22, .any), (23, .any), (24, .any)]), (21, [(2, .any), (3, .any)]), (22, [(2, .any), (3, .own), (22, .any), (23, .any), (24, .any)])]⟩
noncomputable def g_core_queued : AFn tab := gOf Try.prog cx x_core_queued Try.f27
noncomputable def K_core_queued_5 : MarkK tab := ⟨[(1, .box (.named .TCore) (.no)), (2, .val (.slice 216 (.named .TRen)) (.yes 0)), (3, .val (.slice 216 (.named .TRen)) (.yes 0)), (9, .val (.slice 224 (.named .TIq)) (.no)), (10, .val (.int .i64) (.no)), (11, .val (.int .i64) (.no))], [((.exit 0), [(1, .box (.named .TCore) (.no)), (2, .val (.slice 216 (.named .TRen)) (.yes 0)), (3, .val (.slice 216 (.named .TRen)) (.yes 0))])], L_core_queued_5⟩
noncomputable def K_core_queued_20 : MarkK tab := ⟨[(2, .val (.slice 216 (.named .TRen)) (.yes 0)), (3, .val (.slice 216 (.named .TRen)) (.yes 0)), (22, .val (.slice 256 (.named .TFlight)) (.no)), (23, .val (.int .i64) (.no)), (24, .val (.int .i64) (.no))], [((.exit 2), [(2, .val (.slice 216 (.named .TRen)) (.yes 0)), (3, .val (.slice 216 (.named .TRen)) (.yes 0))])], L_core_queued_20⟩
noncomputable def N_core_queued : FnK tab := ⟨[.val (.named .TCore) (.no)], Sl 216 (TRen) × Sl 216 (TRen), fun a : TCore × Unit => F_core_queued a.1, fun r : Sl 216 (TRen) × Sl 216 (TRen) => (.tup [.val (.slice 216 (.named .TRen)) r.1 (.no), .val (.slice 216 (.named .TRen)) r.2 (.no)], [.undef])⟩
noncomputable def t_core_queued : Nat → List (FnK tab) := tbl []
noncomputable def q_core_queued : Nat → Option (MarkK tab) := mtbl [(5, K_core_queued_5), (20, K_core_queued_20)]
noncomputable def x_rob_Right : FnX := ⟨[0, 2, 3, 4, 6, 7, 8, 9, 10, 25, 34], [], [true], [(7, [(3, .any), (4, .any), (7, .any), (8, .any), (9, .any)]), (8, [(2, .any), (4, .any)]), (9, [(3, .any), (4, .any), (7, .any), (8, .any), (9, .any)])]⟩
noncomputable def g_rob_Right : AFn tab := gOf Try.prog cx x_rob_Right Try.f56
noncomputable def K_rob_Right_7 : MarkK tab := ⟨[(3, .val (.int .u64) (.no)), (4, .val (.int .i64) (.no)), (7, .val (.slice 248 (.named .TRob)) (.no)), (8, .val (.int .i64) (.no)), (9, .val (.int .i64) (.no))], [(.ret, [(2, .val (.bool) (.no)), (4, .val (.int .i64) (.no))]), ((.exit 0), [(2, .undef), (4, .val (.int .i64) (.no))])], L_rob_Right_7⟩
noncomputable def N_rob_Right : FnK tab := ⟨[.val (.slice 248 (.named .TRob)) (.no)], Bool, fun a : Sl 248 (TRob) × Unit => F_rob_Right a.1, fun r : Bool => (.val (.bool) r (.no), [.undef])⟩
noncomputable def t_rob_Right : Nat → List (FnK tab) := tbl []
noncomputable def q_rob_Right : Nat → Option (MarkK tab) := mtbl [(7, K_rob_Right_7)]
noncomputable def x_core_ordered : FnX := ⟨[0, 1, 2, 3], [], [true], []⟩
noncomputable def g_core_ordered : AFn tab := gOf Try.prog cx x_core_ordered Try.f28
noncomputable def N_core_ordered : FnK tab := ⟨[.val (.named .TCore) (.no)], Bool, fun a : TCore × Unit => F_core_ordered a.1, fun r : Bool => (.val (.bool) r (.no), [.undef])⟩
noncomputable def t_core_ordered : Nat → List (FnK tab) := tbl [(56, N_rob_Right)]
noncomputable def q_core_ordered : Nat → Option (MarkK tab) := fun _ => none
noncomputable def x_core_rens : FnX := ⟨[0, 1, 2, 3, 5, 7, 8, 9, 10], [], [true], [(7, [(3, .own), (7, .any), (8, .any), (9, .any)]), (8, [(3, .any)]), (9, [(3, .own), (7, .any), (8, .any), (9, .any)])]⟩
noncomputable def g_core_rens : AFn tab := gOf Try.prog cx x_core_rens Try.f30
noncomputable def K_core_rens_7 : MarkK tab := ⟨[(3, .val (.slice 216 (.named .TRen)) (.yes 0)), (7, .val (.slice 248 (.named .TRob)) (.no)), (8, .val (.int .i64) (.no)), (9, .val (.int .i64) (.no))], [((.exit 0), [(3, .val (.slice 216 (.named .TRen)) (.yes 0))])], L_core_rens_7⟩
noncomputable def N_core_rens : FnK tab := ⟨[.val (.named .TCore) (.no)], Sl 216 (TRen), fun a : TCore × Unit => F_core_rens a.1, fun r : Sl 216 (TRen) => (.val (.slice 216 (.named .TRen)) r (.no), [.undef])⟩
noncomputable def t_core_rens : Nat → List (FnK tab) := tbl []
noncomputable def q_core_rens : Nat → Option (MarkK tab) := mtbl [(7, K_core_rens_7)]
noncomputable def x_rat_Right : FnX := ⟨[0, 1, 2, 4, 5, 6, 9, 11, 16, 25, 36], [], [true], [(11, [(1, .any), (2, .any), (5, .any)]), (12, [(4, .any)]), (13, [(1, .any), (2, .any), (5, .any)]), (20, [(1, .any), (2, .any), (5, .any), (6, .any)]), (21, [(1, .any), (2, .any), (4, .any), (5, .any)]), (22, [(1, .any), (2, .any), (5, .any), (6, .any)])]⟩
noncomputable def g_rat_Right : AFn tab := gOf Try.prog cx x_rat_Right Try.f57
noncomputable def K_rat_Right_20 : MarkK tab := ⟨[(1, .val (.int .i64) (.no)), (2, .box (.arr 16 (.int .i64)) (.no)), (5, .val (.int .i64) (.no)), (6, .val (.int .i64) (.no))], [(.ret, [(1, .val (.int .i64) (.no)), (2, .box (.arr 16 (.int .i64)) (.no)), (4, .val (.bool) (.no)), (5, .val (.int .i64) (.no))]), ((.exit 2), [(1, .val (.int .i64) (.no)), (2, .box (.arr 16 (.int .i64)) (.no)), (4, .undef), (5, .val (.int .i64) (.no))])], L_rat_Right_20⟩
noncomputable def K_rat_Right_11 : MarkK tab := ⟨[(1, .val (.int .i64) (.no)), (2, .box (.arr 16 (.int .i64)) (.no)), (5, .val (.int .i64) (.no))], [(.ret, [(4, .val (.bool) (.no))]), ((.exit 0), [(4, .undef)])], L_rat_Right_11⟩
noncomputable def N_rat_Right : FnK tab := ⟨[.val (.arr 16 (.int .i64)) (.no), .val (.int .i64) (.no)], Bool, fun a : Arr 16 (W .i64) × W .i64 × Unit => F_rat_Right a.1 a.2.1, fun r : Bool => (.val (.bool) r (.no), [.undef, .undef])⟩
noncomputable def t_rat_Right : Nat → List (FnK tab) := tbl []
noncomputable def q_rat_Right : Nat → Option (MarkK tab) := mtbl [(20, K_rat_Right_20), (11, K_rat_Right_11)]
noncomputable def x_freel_ring_sound : FnX := ⟨[0, 1, 2, 3], [], [true], []⟩
noncomputable def g_freel_ring_sound : AFn tab := gOf Try.prog cx x_freel_ring_sound Try.f94
noncomputable def N_freel_ring_sound : FnK tab := ⟨[.val (.named .TFree) (.no)], Bool, fun a : TFree × Unit => F_freel_ring_sound a.1, fun r : Bool => (.val (.bool) r (.no), [.undef])⟩
noncomputable def t_freel_ring_sound : Nat → List (FnK tab) := tbl []
noncomputable def q_freel_ring_sound : Nat → Option (MarkK tab) := fun _ => none
noncomputable def x_freel_ring_at : FnX := ⟨[0, 1, 2, 4, 5], [], [true], []⟩
noncomputable def g_freel_ring_at : AFn tab := gOf Try.prog cx x_freel_ring_at Try.f95
noncomputable def N_freel_ring_at : FnK tab := ⟨[.val (.named .TFree) (.no), .val (.int .i64) (.no)], W .i64, fun a : TFree × W .i64 × Unit => F_freel_ring_at a.1 a.2.1, fun r : W .i64 => (.val (.int .i64) r (.no), [.undef, .undef])⟩
noncomputable def t_freel_ring_at : Nat → List (FnK tab) := tbl []
noncomputable def q_freel_ring_at : Nat → Option (MarkK tab) := fun _ => none
noncomputable def x_freel_List : FnX := ⟨[0, 1, 2, 3, 4, 5, 8, 12, 13, 14], [], [true], [(15, [(1, .any), (3, .any), (4, .own), (12, .any), (13, .any)]), (16, [(4, .any)]), (17, [(1, .any), (3, .any), (4, .own), (12, .any), (13, .any)])]⟩
noncomputable def g_freel_List : AFn tab := gOf Try.prog cx x_freel_List Try.f61
noncomputable def K_freel_List_15 : MarkK tab := ⟨[(1, .box (.named .TFree) (.no)), (3, .fn 95 [.val (.named .TFree) (.no)] []), (4, .val (.slice 8 (.int .i64)) (.yes 0)), (12, .val (.int .i64) (.no)), (13, .val (.int .i64) (.no))], [((.exit 0), [(4, .val (.slice 8 (.int .i64)) (.yes 0))])], L_freel_List_15⟩
noncomputable def N_freel_List : FnK tab := ⟨[.val (.named .TFree) (.no)], Sl 8 (W .i64), fun a : TFree × Unit => F_freel_List a.1, fun r : Sl 8 (W .i64) => (.val (.slice 8 (.int .i64)) r (.no), [.undef])⟩
noncomputable def t_freel_List : Nat → List (FnK tab) := tbl [(94, N_freel_ring_sound), (95, N_freel_ring_at)]
noncomputable def q_freel_List : Nat → Option (MarkK tab) := mtbl [(15, K_freel_List_15)]
noncomputable def x_freel_Right : FnX := ⟨[0, 1, 2, 4, 5, 7, 17, 19, 20, 21, 22, 36], [], [true], [(13, [(1, .any), (5, .any), (19, .any), (20, .any), (21, .any)]), (14, [(4, .any)]), (15, [(1, .any), (5, .any), (19, .any), (20, .any), (21, .any)])]⟩
noncomputable def g_freel_Right : AFn tab := gOf Try.prog cx x_freel_Right Try.f58
noncomputable def K_freel_Right_13 : MarkK tab := ⟨[(1, .val (.int .i64) (.no)), (5, .box (.arr 96 (.bool)) (.no)), (19, .val (.slice 8 (.int .i64)) (.no)), (20, .val (.int .i64) (.no)), (21, .val (.int .i64) (.no))], [(.ret, [(4, .val (.bool) (.no))]), ((.exit 0), [(4, .undef)])], L_freel_Right_13⟩
noncomputable def N_freel_Right : FnK tab := ⟨[.val (.named .TFree) (.no), .val (.int .i64) (.no)], Bool, fun a : TFree × W .i64 × Unit => F_freel_Right a.1 a.2.1, fun r : Bool => (.val (.bool) r (.no), [.undef, .undef])⟩
noncomputable def t_freel_Right : Nat → List (FnK tab) := tbl [(61, N_freel_List), (94, N_freel_ring_sound)]
noncomputable def q_freel_Right : Nat → Option (MarkK tab) := mtbl [(13, K_freel_Right_13)]
noncomputable def x_rename_Right_1 : FnX := ⟨[0, 1, 2, 3, 11], [1, 2, 3], [], []⟩
noncomputable def g_rename_Right_1 : AFn tab := gOf Try.prog cx x_rename_Right_1 Try.f59
noncomputable def N_rename_Right_1 : FnK tab := ⟨[.val (.int .i64) (.no), .box (.int .i64) (.no), .box (.bool) (.no), .box (.arr 96 (.int .i64)) (.no)], W .i64 × Bool × Arr 96 (W .i64), fun a : W .i64 × W .i64 × Bool × Arr 96 (W .i64) × Unit => F_rename_Right_1 a.1 a.2.1 a.2.2.1 a.2.2.2.1, fun r : W .i64 × Bool × Arr 96 (W .i64) => (.tup [], [.undef, .box 0 (.int .i64) r.1 (.no), .box 0 (.bool) r.2.1 (.no), .box 0 (.arr 96 (.int .i64)) r.2.2 (.no)])⟩
noncomputable def t_rename_Right_1 : Nat → List (FnK tab) := tbl []
noncomputable def q_rename_Right_1 : Nat → Option (MarkK tab) := fun _ => none
noncomputable def x_rename_writes : FnX := ⟨[0, 1, 2], [], [true], []⟩
noncomputable def g_rename_writes : AFn tab := gOf Try.prog cx x_rename_writes Try.f96
noncomputable def N_rename_writes : FnK tab := ⟨[.val (.named .TUop) (.no)], Bool, fun a : TUop × Unit => F_rename_writes a.1, fun r : Bool => (.val (.bool) r (.no), [.undef])⟩
noncomputable def t_rename_writes : Nat → List (FnK tab) := tbl []
noncomputable def q_rename_writes : Nat → Option (MarkK tab) := fun _ => none
noncomputable def x_rat_is : FnX := ⟨[0, 2], [], [true], []⟩
noncomputable def g_rat_is : AFn tab := gOf Try.prog cx x_rat_is Try.f109
noncomputable def N_rat_is : FnK tab := ⟨[.val (.int .i64) (.no)], Bool, fun a : W .i64 × Unit => F_rat_is a.1, fun r : Bool => (.val (.bool) r (.no), [.undef])⟩
noncomputable def t_rat_is : Nat → List (FnK tab) := tbl []
noncomputable def q_rat_is : Nat → Option (MarkK tab) := fun _ => none
noncomputable def x_rat_Get : FnX := ⟨[0, 1, 2, 4, 7], [], [true], []⟩
noncomputable def g_rat_Get : AFn tab := gOf Try.prog cx x_rat_Get Try.f97
noncomputable def N_rat_Get : FnK tab := ⟨[.val (.arr 16 (.int .i64)) (.no), .val (.int .i64) (.no)], W .i64, fun a : Arr 16 (W .i64) × W .i64 × Unit => F_rat_Get a.1 a.2.1, fun r : W .i64 => (.val (.int .i64) r (.no), [.undef, .undef])⟩
noncomputable def t_rat_Get : Nat → List (FnK tab) := tbl [(109, N_rat_is)]
noncomputable def q_rat_Get : Nat → Option (MarkK tab) := fun _ => none
noncomputable def x_rat_Set : FnX := ⟨[0, 1, 2, 3, 6, 8], [], [true], []⟩
noncomputable def g_rat_Set : AFn tab := gOf Try.prog cx x_rat_Set Try.f98
noncomputable def N_rat_Set : FnK tab := ⟨[.val (.arr 16 (.int .i64)) (.no), .val (.int .i64) (.no), .val (.int .i64) (.no)], Arr 16 (W .i64), fun a : Arr 16 (W .i64) × W .i64 × W .i64 × Unit => F_rat_Set a.1 a.2.1 a.2.2.1, fun r : Arr 16 (W .i64) => (.val (.arr 16 (.int .i64)) r (.no), [.undef, .undef, .undef])⟩
noncomputable def t_rat_Set : Nat → List (FnK tab) := tbl [(109, N_rat_is)]
noncomputable def q_rat_Set : Nat → Option (MarkK tab) := fun _ => none
noncomputable def x_rename_steps : FnX := ⟨[0, 1, 2, 4, 5, 6, 8, 11, 12, 13, 14, 27, 33, 41, 54], [], [true], [(7, [(2, .any), (5, .any), (6, .any), (11, .any), (12, .any), (13, .any)]), (8, [(2, .any), (4, .any), (5, .any)]), (9, [(2, .any), (5, .any), (6, .any), (11, .any), (12, .any), (13, .any)])]⟩
noncomputable def g_rename_steps : AFn tab := gOf Try.prog cx x_rename_steps Try.f62
noncomputable def K_rename_steps_7 : MarkK tab := ⟨[(2, .box (.named .TNames) (.no)), (5, .box (.arr 16 (.int .i64)) (.no)), (6, .val (.int .u64) (.no)), (11, .val (.slice 216 (.named .TRen)) (.no)), (12, .val (.int .i64) (.no)), (13, .val (.int .i64) (.no))], [(.ret, [(2, .box (.named .TNames) (.no)), (4, .val (.bool) (.no)), (5, .box (.arr 16 (.int .i64)) (.no))]), ((.exit 0), [(2, .box (.named .TNames) (.no)), (4, .undef), (5, .box (.arr 16 (.int .i64)) (.no))])], L_rename_steps_7⟩
noncomputable def N_rename_steps : FnK tab := ⟨[.val (.named .TNames) (.no), .val (.slice 216 (.named .TRen)) (.no)], Bool, fun a : TNames × Sl 216 (TRen) × Unit => F_rename_steps a.1 a.2.1, fun r : Bool => (.val (.bool) r (.no), [.undef, .undef])⟩
noncomputable def t_rename_steps : Nat → List (FnK tab) := tbl [(96, N_rename_writes), (97, N_rat_Get), (98, N_rat_Set)]
noncomputable def q_rename_steps : Nat → Option (MarkK tab) := mtbl [(7, K_rename_steps_7)]
noncomputable def x_rename_Right_2 : FnX := ⟨[0, 1, 2, 3, 4, 5, 6, 7, 12, 20, 30], [0, 2, 3, 4, 5], [], [(3, [(0, .any), (1, .any), (2, .any), (3, .any), (4, .any), (5, .any), (6, .any)]), (4, [(0, .any), (2, .any), (3, .any), (4, .any), (5, .any)]), (5, [(0, .any), (1, .any), (2, .any), (3, .any), (4, .any), (5, .any), (6, .any)]), (18, [(0, .any), (2, .any), (3, .any), (4, .any), (5, .any), (7, .any)]), (19, [(0, .any), (2, .any), (3, .any), (4, .any), (5, .any)]), (20, [(0, .any), (2, .any), (3, .any), (4, .any), (5, .any), (7, .any)])]⟩
noncomputable def g_rename_Right_2 : AFn tab := gOf Try.prog cx x_rename_Right_2 Try.f60
noncomputable def K_rename_Right_2_3 : MarkK tab := ⟨[(0, .box (.slice 216 (.named .TRen)) (.no)), (1, .rfn 59 [] [.ptr 2 [], .ptr 5 [], .ptr 4 []]), (2, .box (.int .i64) (.no)), (3, .box (.bool) (.no)), (4, .box (.arr 96 (.int .i64)) (.no)), (5, .box (.bool) (.no)), (6, .val (.int .i64) (.no))], [((.exit 0), [(0, .box (.slice 216 (.named .TRen)) (.no)), (2, .box (.int .i64) (.no)), (3, .box (.bool) (.no)), (4, .box (.arr 96 (.int .i64)) (.no)), (5, .box (.bool) (.no))])], L_rename_Right_2_3⟩
noncomputable def K_rename_Right_2_18 : MarkK tab := ⟨[(0, .box (.slice 216 (.named .TRen)) (.no)), (2, .box (.int .i64) (.no)), (3, .box (.bool) (.no)), (4, .box (.arr 96 (.int .i64)) (.no)), (5, .box (.bool) (.no)), (7, .val (.int .i64) (.no))], [((.exit 2), [(0, .box (.slice 216 (.named .TRen)) (.no)), (2, .box (.int .i64) (.no)), (3, .box (.bool) (.no)), (4, .box (.arr 96 (.int .i64)) (.no)), (5, .box (.bool) (.no))])], L_rename_Right_2_18⟩
noncomputable def N_rename_Right_2 : FnK tab := ⟨[.box (.slice 216 (.named .TRen)) (.no), .rfn 59 [] [.ptr 2 [], .ptr 5 [], .ptr 4 []], .box (.int .i64) (.no), .box (.bool) (.no), .box (.arr 96 (.int .i64)) (.no), .box (.bool) (.no)], Sl 216 (TRen) × W .i64 × Bool × Arr 96 (W .i64) × Bool, fun a : Sl 216 (TRen) × ((Unit) × (Unit × Unit × Unit × Unit)) × W .i64 × Bool × Arr 96 (W .i64) × Bool × Unit => F_rename_Right_2 a.1 a.2.2.1 a.2.2.2.1 a.2.2.2.2.1 a.2.2.2.2.2.1, fun r : Sl 216 (TRen) × W .i64 × Bool × Arr 96 (W .i64) × Bool => (.tup [], [.box 0 (.slice 216 (.named .TRen)) r.1 (.no), .undef, .box 0 (.int .i64) r.2.1 (.no), .box 0 (.bool) r.2.2.1 (.no), .box 0 (.arr 96 (.int .i64)) r.2.2.2.1 (.no), .box 0 (.bool) r.2.2.2.2 (.no)])⟩
noncomputable def t_rename_Right_2 : Nat → List (FnK tab) := tbl [(59, N_rename_Right_1)]
noncomputable def q_rename_Right_2 : Nat → Option (MarkK tab) := mtbl [(3, K_rename_Right_2_3), (18, K_rename_Right_2_18)]
noncomputable def x_rename_Right : FnX := ⟨[0, 1, 2, 3, 4, 5, 6, 7, 8, 9, 11, 12, 39, 41, 44, 45, 46, 47, 55], [], [true], [(19, [(3, .any), (4, .any), (5, .any), (6, .any), (7, .any), (8, .any), (9, .any), (41, .any), (44, .any), (45, .any), (46, .any)]), (20, [(3, .any), (4, .any), (5, .any), (6, .any), (7, .any), (8, .any), (9, .any), (41, .any)]), (21, [(3, .any), (4, .any), (5, .any), (6, .any), (7, .any), (8, .any), (9, .any), (41, .any), (44, .any), (45, .any), (46, .any)]), (34, [(3, .any), (4, .any), (5, .any), (6, .any), (7, .any), (8, .any), (9, .any), (12, .any), (41, .any)]), (35, [(3, .any), (4, .any), (5, .any), (6, .any), (7, .any), (8, .any), (41, .any)]), (36, [(3, .any), (4, .any), (5, .any), (6, .any), (7, .any), (8, .any), (9, .any), (12, .any), (41, .any)])]⟩
noncomputable def g_rename_Right : AFn tab := gOf Try.prog cx x_rename_Right Try.f29
noncomputable def K_rename_Right_19 : MarkK tab := ⟨[(3, .box (.named .TNames) (.no)), (4, .box (.int .i64) (.no)), (5, .box (.slice 216 (.named .TRen)) (.no)), (6, .box (.bool) (.no)), (7, .box (.arr 96 (.int .i64)) (.no)), (8, .box (.bool) (.no)), (9, .rfn 59 [] [.ptr 4 [], .ptr 8 [], .ptr 7 []]), (41, .fn 60 [] [.ptr 5 [], .rfn 59 [] [.ptr 4 [], .ptr 8 [], .ptr 7 []], .ptr 4 [], .ptr 6 [], .ptr 7 [], .ptr 8 []]), (44, .val (.slice 8 (.int .i64)) (.no)), (45, .val (.int .i64) (.no)), (46, .val (.int .i64) (.no))], [((.exit 0), [(3, .box (.named .TNames) (.no)), (4, .box (.int .i64) (.no)), (5, .box (.slice 216 (.named .TRen)) (.no)), (6, .box (.bool) (.no)), (7, .box (.arr 96 (.int .i64)) (.no)), (8, .box (.bool) (.no)), (9, .rfn 59 [] [.ptr 4 [], .ptr 8 [], .ptr 7 []]), (41, .fn 60 [] [.ptr 5 [], .rfn 59 [] [.ptr 4 [], .ptr 8 [], .ptr 7 []], .ptr 4 [], .ptr 6 [], .ptr 7 [], .ptr 8 []])])], L_rename_Right_19⟩
noncomputable def K_rename_Right_34 : MarkK tab := ⟨[(3, .box (.named .TNames) (.no)), (4, .box (.int .i64) (.no)), (5, .box (.slice 216 (.named .TRen)) (.no)), (6, .box (.bool) (.no)), (7, .box (.arr 96 (.int .i64)) (.no)), (8, .box (.bool) (.no)), (9, .rfn 59 [] [.ptr 4 [], .ptr 8 [], .ptr 7 []]), (12, .val (.int .i64) (.no)), (41, .fn 60 [] [.ptr 5 [], .rfn 59 [] [.ptr 4 [], .ptr 8 [], .ptr 7 []], .ptr 4 [], .ptr 6 [], .ptr 7 [], .ptr 8 []])], [((.exit 2), [(3, .box (.named .TNames) (.no)), (4, .box (.int .i64) (.no)), (5, .box (.slice 216 (.named .TRen)) (.no)), (6, .box (.bool) (.no)), (7, .box (.arr 96 (.int .i64)) (.no)), (8, .box (.bool) (.no)), (41, .fn 60 [] [.ptr 5 [], .rfn 59 [] [.ptr 4 [], .ptr 8 [], .ptr 7 []], .ptr 4 [], .ptr 6 [], .ptr 7 [], .ptr 8 []])])], L_rename_Right_34⟩
noncomputable def N_rename_Right : FnK tab := ⟨[.val (.named .TNames) (.no), .val (.int .i64) (.no), .val (.slice 216 (.named .TRen)) (.no)], Bool, fun a : TNames × W .i64 × Sl 216 (TRen) × Unit => F_rename_Right a.1 a.2.1 a.2.2.1, fun r : Bool => (.val (.bool) r (.no), [.undef, .undef, .undef])⟩
noncomputable def t_rename_Right : Nat → List (FnK tab) := tbl [(57, N_rat_Right), (58, N_freel_Right), (59, N_rename_Right_1), (60, N_rename_Right_2), (61, N_freel_List), (62, N_rename_steps)]
noncomputable def q_rename_Right : Nat → Option (MarkK tab) := mtbl [(19, K_rename_Right_19), (34, K_rename_Right_34)]
noncomputable def x_core_waits_1 : FnX := ⟨[0, 1, 2, 3], [], [true], []⟩
noncomputable def g_core_waits_1 : AFn tab := gOf Try.prog cx x_core_waits_1 Try.f99
noncomputable def N_core_waits_1 : FnK tab := ⟨[.val (.named .TRob) (.no), .rptr (.named .TRen)], Bool, fun a : TRob × TRen × Unit => F_core_waits_1 a.1 a.2.1, fun r : Bool => (.val (.bool) r (.no), [.undef, .undef])⟩
noncomputable def t_core_waits_1 : Nat → List (FnK tab) := tbl []
noncomputable def q_core_waits_1 : Nat → Option (MarkK tab) := fun _ => none
noncomputable def x_slices_IndexFunc_Rob_of_core_waits_1 : FnX := ⟨[0, 1, 4, 5, 7, 8, 9, 16], [], [true], [(5, [(0, .any), (1, .any), (7, .any), (8, .any)]), (6, [(4, .any)]), (7, [(0, .any), (1, .any), (7, .any), (8, .any)])]⟩
noncomputable def g_slices_IndexFunc_Rob_of_core_waits_1 : AFn tab := gOf Try.prog cx x_slices_IndexFunc_Rob_of_core_waits_1 Try.f101
noncomputable def K_slices_IndexFunc_Rob_of_core_waits_1_5 : MarkK tab := ⟨[(0, .val (.slice 248 (.named .TRob)) (.no)), (1, .fn 99 [] [.rptr (.named .TRen)]), (7, .val (.int .i64) (.no)), (8, .val (.int .i64) (.no))], [(.ret, [(4, .val (.int .i64) (.no))]), ((.exit 0), [(4, .undef)])], L_slices_IndexFunc_Rob_of_core_waits_1_5⟩
noncomputable def N_slices_IndexFunc_Rob_of_core_waits_1 : FnK tab := ⟨[.val (.slice 248 (.named .TRob)) (.no), .fn 99 [] [.rptr (.named .TRen)]], W .i64, fun a : Sl 248 (TRob) × ((Unit) × (TRen × Unit)) × Unit => F_slices_IndexFunc_Rob_of_core_waits_1 a.1 a.2.1.2.1, fun r : W .i64 => (.val (.int .i64) r (.no), [.undef, .undef])⟩
noncomputable def t_slices_IndexFunc_Rob_of_core_waits_1 : Nat → List (FnK tab) := tbl [(99, N_core_waits_1)]
noncomputable def q_slices_IndexFunc_Rob_of_core_waits_1 : Nat → Option (MarkK tab) := mtbl [(5, K_slices_IndexFunc_Rob_of_core_waits_1_5)]
noncomputable def x_slices_ContainsFunc_Rob_of_core_waits_1 : FnX := ⟨[0, 1, 4], [], [true], []⟩
noncomputable def g_slices_ContainsFunc_Rob_of_core_waits_1 : AFn tab := gOf Try.prog cx x_slices_ContainsFunc_Rob_of_core_waits_1 Try.f74
noncomputable def N_slices_ContainsFunc_Rob_of_core_waits_1 : FnK tab := ⟨[.val (.slice 248 (.named .TRob)) (.no), .fn 99 [] [.rptr (.named .TRen)]], Bool, fun a : Sl 248 (TRob) × ((Unit) × (TRen × Unit)) × Unit => F_slices_ContainsFunc_Rob_of_core_waits_1 a.1 a.2.1.2.1, fun r : Bool => (.val (.bool) r (.no), [.undef, .undef])⟩
noncomputable def t_slices_ContainsFunc_Rob_of_core_waits_1 : Nat → List (FnK tab) := tbl [(101, N_slices_IndexFunc_Rob_of_core_waits_1)]
noncomputable def q_slices_ContainsFunc_Rob_of_core_waits_1 : Nat → Option (MarkK tab) := fun _ => none
noncomputable def x_core_waits : FnX := ⟨[0, 1, 2, 3, 4], [], [true], []⟩
noncomputable def g_core_waits : AFn tab := gOf Try.prog cx x_core_waits Try.f63
noncomputable def N_core_waits : FnK tab := ⟨[.val (.named .TCore) (.no), .val (.named .TRen) (.no)], Bool, fun a : TCore × TRen × Unit => F_core_waits a.1 a.2.1, fun r : Bool => (.val (.bool) r (.no), [.undef, .undef])⟩
noncomputable def t_core_waits : Nat → List (FnK tab) := tbl [(74, N_slices_ContainsFunc_Rob_of_core_waits_1)]
noncomputable def q_core_waits : Nat → Option (MarkK tab) := fun _ => none
noncomputable def x_core_flying : FnX := ⟨[0, 1, 2, 4, 5, 7, 9, 10, 11, 12, 30], [], [true], [(7, [(2, .any), (5, .any), (9, .any), (10, .any), (11, .any)]), (8, [(4, .any)]), (9, [(2, .any), (5, .any), (9, .any), (10, .any), (11, .any)])]⟩
noncomputable def g_core_flying : AFn tab := gOf Try.prog cx x_core_flying Try.f31
noncomputable def K_core_flying_7 : MarkK tab := ⟨[(2, .box (.named .TCore) (.no)), (5, .val (.map (.int .u64) (.int .i64)) (.yes 0)), (9, .val (.slice 216 (.named .TRen)) (.no)), (10, .val (.int .i64) (.no)), (11, .val (.int .i64) (.no))], [(.ret, [(4, .val (.bool) (.no))]), ((.exit 0), [(4, .undef)])], L_core_flying_7⟩
noncomputable def N_core_flying : FnK tab := ⟨[.val (.named .TCore) (.no), .val (.slice 216 (.named .TRen)) (.no)], Bool, fun a : TCore × Sl 216 (TRen) × Unit => F_core_flying a.1 a.2.1, fun r : Bool => (.val (.bool) r (.no), [.undef, .undef])⟩
noncomputable def t_core_flying : Nat → List (FnK tab) := tbl [(63, N_core_waits)]
noncomputable def q_core_flying : Nat → Option (MarkK tab) := mtbl [(7, K_core_flying_7)]
noncomputable def x_core_apart_1_1 : FnX := ⟨[0, 1, 2, 3], [], [true], []⟩
noncomputable def g_core_apart_1_1 : AFn tab := gOf Try.prog cx x_core_apart_1_1 Try.f66
noncomputable def N_core_apart_1_1 : FnK tab := ⟨[.val (.named .TRen) (.no), .rptr (.named .TRen)], Bool, fun a : TRen × TRen × Unit => F_core_apart_1_1 a.1 a.2.1, fun r : Bool => (.val (.bool) r (.no), [.undef, .undef])⟩
noncomputable def t_core_apart_1_1 : Nat → List (FnK tab) := tbl []
noncomputable def q_core_apart_1_1 : Nat → Option (MarkK tab) := fun _ => none
noncomputable def x_slices_IndexFunc_Ren_of_core_apart_1_1 : FnX := ⟨[0, 1, 4, 5, 7, 8, 9, 16], [], [true], [(5, [(0, .any), (1, .any), (7, .any), (8, .any)]), (6, [(4, .any)]), (7, [(0, .any), (1, .any), (7, .any), (8, .any)])]⟩
noncomputable def g_slices_IndexFunc_Ren_of_core_apart_1_1 : AFn tab := gOf Try.prog cx x_slices_IndexFunc_Ren_of_core_apart_1_1 Try.f100
noncomputable def K_slices_IndexFunc_Ren_of_core_apart_1_1_5 : MarkK tab := ⟨[(0, .val (.slice 216 (.named .TRen)) (.no)), (1, .fn 66 [] [.rptr (.named .TRen)]), (7, .val (.int .i64) (.no)), (8, .val (.int .i64) (.no))], [(.ret, [(4, .val (.int .i64) (.no))]), ((.exit 0), [(4, .undef)])], L_slices_IndexFunc_Ren_of_core_apart_1_1_5⟩
noncomputable def N_slices_IndexFunc_Ren_of_core_apart_1_1 : FnK tab := ⟨[.val (.slice 216 (.named .TRen)) (.no), .fn 66 [] [.rptr (.named .TRen)]], W .i64, fun a : Sl 216 (TRen) × ((Unit) × (TRen × Unit)) × Unit => F_slices_IndexFunc_Ren_of_core_apart_1_1 a.1 a.2.1.2.1, fun r : W .i64 => (.val (.int .i64) r (.no), [.undef, .undef])⟩
noncomputable def t_slices_IndexFunc_Ren_of_core_apart_1_1 : Nat → List (FnK tab) := tbl [(66, N_core_apart_1_1)]
noncomputable def q_slices_IndexFunc_Ren_of_core_apart_1_1 : Nat → Option (MarkK tab) := mtbl [(5, K_slices_IndexFunc_Ren_of_core_apart_1_1_5)]
noncomputable def x_slices_ContainsFunc_Ren_of_core_apart_1_1 : FnX := ⟨[0, 1, 4], [], [true], []⟩
noncomputable def g_slices_ContainsFunc_Ren_of_core_apart_1_1 : AFn tab := gOf Try.prog cx x_slices_ContainsFunc_Ren_of_core_apart_1_1 Try.f64
noncomputable def N_slices_ContainsFunc_Ren_of_core_apart_1_1 : FnK tab := ⟨[.val (.slice 216 (.named .TRen)) (.no), .fn 66 [] [.rptr (.named .TRen)]], Bool, fun a : Sl 216 (TRen) × ((Unit) × (TRen × Unit)) × Unit => F_slices_ContainsFunc_Ren_of_core_apart_1_1 a.1 a.2.1.2.1, fun r : Bool => (.val (.bool) r (.no), [.undef, .undef])⟩
noncomputable def t_slices_ContainsFunc_Ren_of_core_apart_1_1 : Nat → List (FnK tab) := tbl [(100, N_slices_IndexFunc_Ren_of_core_apart_1_1)]
noncomputable def q_slices_ContainsFunc_Ren_of_core_apart_1_1 : Nat → Option (MarkK tab) := fun _ => none
noncomputable def x_core_apart_1 : FnX := ⟨[0, 1, 2, 3], [], [true], []⟩
noncomputable def g_core_apart_1 : AFn tab := gOf Try.prog cx x_core_apart_1 Try.f65
noncomputable def N_core_apart_1 : FnK tab := ⟨[.val (.named .TRen) (.no), .rptr (.slice 216 (.named .TRen))], Bool, fun a : TRen × Sl 216 (TRen) × Unit => F_core_apart_1 a.1 a.2.1, fun r : Bool => (.val (.bool) r (.no), [.undef, .undef])⟩
noncomputable def t_core_apart_1 : Nat → List (FnK tab) := tbl [(64, N_slices_ContainsFunc_Ren_of_core_apart_1_1)]
noncomputable def q_core_apart_1 : Nat → Option (MarkK tab) := fun _ => none
noncomputable def x_slices_IndexFunc_Ren_of_core_apart_1 : FnX := ⟨[0, 1, 4, 5, 7, 8, 9, 16], [], [true], [(5, [(0, .any), (1, .any), (7, .any), (8, .any)]), (6, [(4, .any)]), (7, [(0, .any), (1, .any), (7, .any), (8, .any)])]⟩
noncomputable def g_slices_IndexFunc_Ren_of_core_apart_1 : AFn tab := gOf Try.prog cx x_slices_IndexFunc_Ren_of_core_apart_1 Try.f100
noncomputable def K_slices_IndexFunc_Ren_of_core_apart_1_5 : MarkK tab := ⟨[(0, .val (.slice 216 (.named .TRen)) (.no)), (1, .fn 65 [] [.rptr (.slice 216 (.named .TRen))]), (7, .val (.int .i64) (.no)), (8, .val (.int .i64) (.no))], [(.ret, [(4, .val (.int .i64) (.no))]), ((.exit 0), [(4, .undef)])], L_slices_IndexFunc_Ren_of_core_apart_1_5⟩
noncomputable def N_slices_IndexFunc_Ren_of_core_apart_1 : FnK tab := ⟨[.val (.slice 216 (.named .TRen)) (.no), .fn 65 [] [.rptr (.slice 216 (.named .TRen))]], W .i64, fun a : Sl 216 (TRen) × ((Unit) × (Sl 216 (TRen) × Unit)) × Unit => F_slices_IndexFunc_Ren_of_core_apart_1 a.1 a.2.1.2.1, fun r : W .i64 => (.val (.int .i64) r (.no), [.undef, .undef])⟩
noncomputable def t_slices_IndexFunc_Ren_of_core_apart_1 : Nat → List (FnK tab) := tbl [(65, N_core_apart_1)]
noncomputable def q_slices_IndexFunc_Ren_of_core_apart_1 : Nat → Option (MarkK tab) := mtbl [(5, K_slices_IndexFunc_Ren_of_core_apart_1_5)]
noncomputable def x_slices_ContainsFunc_Ren_of_core_apart_1 : FnX := ⟨[0, 1, 4], [], [true], []⟩
noncomputable def g_slices_ContainsFunc_Ren_of_core_apart_1 : AFn tab := gOf Try.prog cx x_slices_ContainsFunc_Ren_of_core_apart_1 Try.f64
noncomputable def N_slices_ContainsFunc_Ren_of_core_apart_1 : FnK tab := ⟨[.val (.slice 216 (.named .TRen)) (.no), .fn 65 [] [.rptr (.slice 216 (.named .TRen))]], Bool, fun a : Sl 216 (TRen) × ((Unit) × (Sl 216 (TRen) × Unit)) × Unit => F_slices_ContainsFunc_Ren_of_core_apart_1 a.1 a.2.1.2.1, fun r : Bool => (.val (.bool) r (.no), [.undef, .undef])⟩
noncomputable def t_slices_ContainsFunc_Ren_of_core_apart_1 : Nat → List (FnK tab) := tbl [(100, N_slices_IndexFunc_Ren_of_core_apart_1)]
noncomputable def q_slices_ContainsFunc_Ren_of_core_apart_1 : Nat → Option (MarkK tab) := fun _ => none
noncomputable def x_core_apart : FnX := ⟨[0, 1, 3, 4], [], [true], []⟩
noncomputable def g_core_apart : AFn tab := gOf Try.prog cx x_core_apart Try.f32
noncomputable def N_core_apart : FnK tab := ⟨[.val (.slice 216 (.named .TRen)) (.no), .val (.slice 216 (.named .TRen)) (.no)], Bool, fun a : Sl 216 (TRen) × Sl 216 (TRen) × Unit => F_core_apart a.1 a.2.1, fun r : Bool => (.val (.bool) r (.no), [.undef, .undef])⟩
noncomputable def t_core_apart : Nat → List (FnK tab) := tbl [(64, N_slices_ContainsFunc_Ren_of_core_apart_1)]
noncomputable def q_core_apart : Nat → Option (MarkK tab) := fun _ => none
noncomputable def x_core_seqs : FnX := ⟨[0, 1, 2, 4, 5, 7, 9, 10, 11, 12, 20], [], [true], [(7, [(1, .any), (5, .own), (9, .any), (10, .any), (11, .any)]), (8, [(5, .any)]), (9, [(1, .any), (5, .own), (9, .any), (10, .any), (11, .any)])]⟩
noncomputable def g_core_seqs : AFn tab := gOf Try.prog cx x_core_seqs Try.f68
noncomputable def K_core_seqs_7 : MarkK tab := ⟨[(1, .val (.int .i64) (.no)), (5, .val (.slice 8 (.int .u64)) (.yes 0)), (9, .val (.slice 248 (.named .TRob)) (.no)), (10, .val (.int .i64) (.no)), (11, .val (.int .i64) (.no))], [((.exit 0), [(5, .val (.slice 8 (.int .u64)) (.yes 0))])], L_core_seqs_7⟩
noncomputable def N_core_seqs : FnK tab := ⟨[.val (.named .TCore) (.no), .val (.int .i64) (.no)], Sl 8 (W .u64), fun a : TCore × W .i64 × Unit => F_core_seqs a.1 a.2.1, fun r : Sl 8 (W .u64) => (.val (.slice 8 (.int .u64)) r (.no), [.undef, .undef])⟩
noncomputable def t_core_seqs : Nat → List (FnK tab) := tbl []
noncomputable def q_core_seqs : Nat → Option (MarkK tab) := mtbl [(7, K_core_seqs_7)]
noncomputable def x_core_memory_1 : FnX := ⟨[0, 1, 2, 4], [], [true], []⟩
noncomputable def g_core_memory_1 : AFn tab := gOf Try.prog cx x_core_memory_1 Try.f69
noncomputable def N_core_memory_1 : FnK tab := ⟨[.val (.named .TLq) (.no), .val (.int .u64) (.no)], Bool, fun a : TLq × W .u64 × Unit => F_core_memory_1 a.1 a.2.1, fun r : Bool => (.val (.bool) r (.no), [.undef, .undef])⟩
noncomputable def t_core_memory_1 : Nat → List (FnK tab) := tbl []
noncomputable def q_core_memory_1 : Nat → Option (MarkK tab) := fun _ => none
noncomputable def x_slices_EqualFunc_Lq_uint64_of_core_memory_1 : FnX := ⟨[0, 1, 2, 6, 7, 8, 9, 14, 15, 16, 17, 18, 30], [], [true], [(11, [(1, .any), (2, .any), (15, .any), (16, .any), (17, .any)]), (12, [(6, .any)]), (13, [(1, .any), (2, .any), (15, .any), (16, .any), (17, .any)])]⟩
noncomputable def g_slices_EqualFunc_Lq_uint64_of_core_memory_1 : AFn tab := gOf Try.prog cx x_slices_EqualFunc_Lq_uint64_of_core_memory_1 Try.f67
noncomputable def K_slices_EqualFunc_Lq_uint64_of_core_memory_1_11 : MarkK tab := ⟨[(1, .val (.slice 8 (.int .u64)) (.no)), (2, .fn 69 [] []), (15, .val (.slice 48 (.named .TLq)) (.no)), (16, .val (.int .i64) (.no)), (17, .val (.int .i64) (.no))], [(.ret, [(6, .val (.bool) (.no))]), ((.exit 0), [(6, .undef)])], L_slices_EqualFunc_Lq_uint64_of_core_memory_1_11⟩
noncomputable def N_slices_EqualFunc_Lq_uint64_of_core_memory_1 : FnK tab := ⟨[.val (.slice 48 (.named .TLq)) (.no), .val (.slice 8 (.int .u64)) (.no), .fn 69 [] []], Bool, fun a : Sl 48 (TLq) × Sl 8 (W .u64) × ((Unit) × (Unit)) × Unit => F_slices_EqualFunc_Lq_uint64_of_core_memory_1 a.1 a.2.1, fun r : Bool => (.val (.bool) r (.no), [.undef, .undef, .undef])⟩
noncomputable def t_slices_EqualFunc_Lq_uint64_of_core_memory_1 : Nat → List (FnK tab) := tbl [(69, N_core_memory_1)]
noncomputable def q_slices_EqualFunc_Lq_uint64_of_core_memory_1 : Nat → Option (MarkK tab) := mtbl [(11, K_slices_EqualFunc_Lq_uint64_of_core_memory_1_11)]
noncomputable def x_core_memory_2 : FnX := ⟨[0, 1, 2, 4], [], [true], []⟩
noncomputable def g_core_memory_2 : AFn tab := gOf Try.prog cx x_core_memory_2 Try.f71
noncomputable def N_core_memory_2 : FnK tab := ⟨[.val (.named .TSq) (.no), .val (.int .u64) (.no)], Bool, fun a : TSq × W .u64 × Unit => F_core_memory_2 a.1 a.2.1, fun r : Bool => (.val (.bool) r (.no), [.undef, .undef])⟩
noncomputable def t_core_memory_2 : Nat → List (FnK tab) := tbl []
noncomputable def q_core_memory_2 : Nat → Option (MarkK tab) := fun _ => none
noncomputable def x_slices_EqualFunc_Sq_uint64_of_core_memory_2 : FnX := ⟨[0, 1, 2, 6, 7, 8, 9, 14, 15, 16, 17, 18, 30], [], [true], [(11, [(1, .any), (2, .any), (15, .any), (16, .any), (17, .any)]), (12, [(6, .any)]), (13, [(1, .any), (2, .any), (15, .any), (16, .any), (17, .any)])]⟩
noncomputable def g_slices_EqualFunc_Sq_uint64_of_core_memory_2 : AFn tab := gOf Try.prog cx x_slices_EqualFunc_Sq_uint64_of_core_memory_2 Try.f70
noncomputable def K_slices_EqualFunc_Sq_uint64_of_core_memory_2_11 : MarkK tab := ⟨[(1, .val (.slice 8 (.int .u64)) (.no)), (2, .fn 71 [] []), (15, .val (.slice 32 (.named .TSq)) (.no)), (16, .val (.int .i64) (.no)), (17, .val (.int .i64) (.no))], [(.ret, [(6, .val (.bool) (.no))]), ((.exit 0), [(6, .undef)])], L_slices_EqualFunc_Sq_uint64_of_core_memory_2_11⟩
noncomputable def N_slices_EqualFunc_Sq_uint64_of_core_memory_2 : FnK tab := ⟨[.val (.slice 32 (.named .TSq)) (.no), .val (.slice 8 (.int .u64)) (.no), .fn 71 [] []], Bool, fun a : Sl 32 (TSq) × Sl 8 (W .u64) × ((Unit) × (Unit)) × Unit => F_slices_EqualFunc_Sq_uint64_of_core_memory_2 a.1 a.2.1, fun r : Bool => (.val (.bool) r (.no), [.undef, .undef, .undef])⟩
noncomputable def t_slices_EqualFunc_Sq_uint64_of_core_memory_2 : Nat → List (FnK tab) := tbl [(71, N_core_memory_2)]
noncomputable def q_slices_EqualFunc_Sq_uint64_of_core_memory_2 : Nat → Option (MarkK tab) := mtbl [(11, K_slices_EqualFunc_Sq_uint64_of_core_memory_2_11)]
noncomputable def x_core_memory : FnX := ⟨[0, 1, 2, 3], [], [true], []⟩
noncomputable def g_core_memory : AFn tab := gOf Try.prog cx x_core_memory Try.f33
noncomputable def N_core_memory : FnK tab := ⟨[.val (.named .TCore) (.no)], Bool, fun a : TCore × Unit => F_core_memory a.1, fun r : Bool => (.val (.bool) r (.no), [.undef])⟩
noncomputable def t_core_memory : Nat → List (FnK tab) := tbl [(67, N_slices_EqualFunc_Lq_uint64_of_core_memory_1), (68, N_core_seqs), (70, N_slices_EqualFunc_Sq_uint64_of_core_memory_2)]
noncomputable def q_core_memory : Nat → Option (MarkK tab) := fun _ => none
noncomputable def x_prf_Get : FnX := ⟨[0, 1, 2, 4, 5, 6, 11], [], [true, true], []⟩
noncomputable def g_prf_Get : AFn tab := gOf Try.prog cx x_prf_Get Try.f72
noncomputable def N_prf_Get : FnK tab := ⟨[.val (.named .TPhys) (.no), .val (.int .i64) (.no)], W .u32 × Bool, fun a : TPhys × W .i64 × Unit => F_prf_Get a.1 a.2.1, fun r : W .u32 × Bool => (.tup [.val (.int .u32) r.1 (.no), .val (.bool) r.2 (.no)], [.undef, .undef])⟩
noncomputable def t_prf_Get : Nat → List (FnK tab) := tbl [(93, N_prf_has)]
noncomputable def q_prf_Get : Nat → Option (MarkK tab) := fun _ => none
noncomputable def x_prf_View : FnX := ⟨[0, 1, 2, 3, 4, 5, 6, 8], [], [true], [(7, [(2, .any), (3, .any), (4, .any), (5, .any), (6, .any)]), (8, [(4, .any), (5, .any)]), (9, [(2, .any), (3, .any), (4, .any), (5, .any), (6, .any)])]⟩
noncomputable def g_prf_View : AFn tab := gOf Try.prog cx x_prf_View Try.f34
noncomputable def K_prf_View_7 : MarkK tab := ⟨[(2, .box (.named .TPhys) (.no)), (3, .box (.arr 16 (.int .i64)) (.no)), (4, .box (.arr 16 (.int .u32)) (.no)), (5, .box (.arr 16 (.int .u32)) (.no)), (6, .val (.int .i64) (.no))], [((.exit 0), [(4, .box (.arr 16 (.int .u32)) (.no)), (5, .box (.arr 16 (.int .u32)) (.no))])], L_prf_View_7⟩
noncomputable def N_prf_View : FnK tab := ⟨[.val (.named .TPhys) (.no), .val (.arr 16 (.int .i64)) (.no)], Arr 16 (W .u32), fun a : TPhys × Arr 16 (W .i64) × Unit => F_prf_View a.1 a.2.1, fun r : Arr 16 (W .u32) => (.val (.arr 16 (.int .u32)) r (.no), [.undef, .undef])⟩
noncomputable def t_prf_View : Nat → List (FnK tab) := tbl [(72, N_prf_Get)]
noncomputable def q_prf_View : Nat → Option (MarkK tab) := mtbl [(7, K_prf_View_7)]
noncomputable def x_core_valued_1 : FnX := ⟨[0, 1, 2, 3, 4, 5], [], [true], []⟩
noncomputable def g_core_valued_1 : AFn tab := gOf Try.prog cx x_core_valued_1 Try.f75
noncomputable def N_core_valued_1 : FnK tab := ⟨[.val (.named .TRob) (.no), .rptr (.named .TCore)], Bool, fun a : TRob × TCore × Unit => F_core_valued_1 a.1 a.2.1, fun r : Bool => (.val (.bool) r (.no), [.undef, .undef])⟩
noncomputable def t_core_valued_1 : Nat → List (FnK tab) := tbl [(72, N_prf_Get)]
noncomputable def q_core_valued_1 : Nat → Option (MarkK tab) := fun _ => none
noncomputable def x_slices_IndexFunc_Rob_of_core_valued_1 : FnX := ⟨[0, 1, 4, 5, 7, 8, 9, 16], [], [true], [(5, [(0, .any), (1, .any), (7, .any), (8, .any)]), (6, [(4, .any)]), (7, [(0, .any), (1, .any), (7, .any), (8, .any)])]⟩
noncomputable def g_slices_IndexFunc_Rob_of_core_valued_1 : AFn tab := gOf Try.prog cx x_slices_IndexFunc_Rob_of_core_valued_1 Try.f101
noncomputable def K_slices_IndexFunc_Rob_of_core_valued_1_5 : MarkK tab := ⟨[(0, .val (.slice 248 (.named .TRob)) (.no)), (1, .fn 75 [] [.rptr (.named .TCore)]), (7, .val (.int .i64) (.no)), (8, .val (.int .i64) (.no))], [(.ret, [(4, .val (.int .i64) (.no))]), ((.exit 0), [(4, .undef)])], L_slices_IndexFunc_Rob_of_core_valued_1_5⟩
noncomputable def N_slices_IndexFunc_Rob_of_core_valued_1 : FnK tab := ⟨[.val (.slice 248 (.named .TRob)) (.no), .fn 75 [] [.rptr (.named .TCore)]], W .i64, fun a : Sl 248 (TRob) × ((Unit) × (TCore × Unit)) × Unit => F_slices_IndexFunc_Rob_of_core_valued_1 a.1 a.2.1.2.1, fun r : W .i64 => (.val (.int .i64) r (.no), [.undef, .undef])⟩
noncomputable def t_slices_IndexFunc_Rob_of_core_valued_1 : Nat → List (FnK tab) := tbl [(75, N_core_valued_1)]
noncomputable def q_slices_IndexFunc_Rob_of_core_valued_1 : Nat → Option (MarkK tab) := mtbl [(5, K_slices_IndexFunc_Rob_of_core_valued_1_5)]
noncomputable def x_slices_ContainsFunc_Rob_of_core_valued_1 : FnX := ⟨[0, 1, 4], [], [true], []⟩
noncomputable def g_slices_ContainsFunc_Rob_of_core_valued_1 : AFn tab := gOf Try.prog cx x_slices_ContainsFunc_Rob_of_core_valued_1 Try.f74
noncomputable def N_slices_ContainsFunc_Rob_of_core_valued_1 : FnK tab := ⟨[.val (.slice 248 (.named .TRob)) (.no), .fn 75 [] [.rptr (.named .TCore)]], Bool, fun a : Sl 248 (TRob) × ((Unit) × (TCore × Unit)) × Unit => F_slices_ContainsFunc_Rob_of_core_valued_1 a.1 a.2.1.2.1, fun r : Bool => (.val (.bool) r (.no), [.undef, .undef])⟩
noncomputable def t_slices_ContainsFunc_Rob_of_core_valued_1 : Nat → List (FnK tab) := tbl [(101, N_slices_IndexFunc_Rob_of_core_valued_1)]
noncomputable def q_slices_ContainsFunc_Rob_of_core_valued_1 : Nat → Option (MarkK tab) := fun _ => none
noncomputable def x_core_valued : FnX := ⟨[0, 1, 2], [], [true], []⟩
noncomputable def g_core_valued : AFn tab := gOf Try.prog cx x_core_valued Try.f36
noncomputable def N_core_valued : FnK tab := ⟨[.val (.named .TCore) (.no)], Bool, fun a : TCore × Unit => F_core_valued a.1, fun r : Bool => (.val (.bool) r (.no), [.undef])⟩
noncomputable def t_core_valued : Nat → List (FnK tab) := tbl [(74, N_slices_ContainsFunc_Rob_of_core_valued_1)]
noncomputable def q_core_valued : Nat → Option (MarkK tab) := fun _ => none
noncomputable def x_core_Broken : FnX := ⟨[0, 1, 2, 3, 4, 5, 6, 7, 10, 55, 56, 57, 58, 63], [], [true], [(15, [(5, .own), (55, .any), (56, .any), (57, .any)]), (16, [(5, .any)]), (17, [(5, .own), (55, .any), (56, .any), (57, .any)])]⟩
noncomputable def g_core_Broken : AFn tab := gOf Try.prog cx x_core_Broken Try.f13
noncomputable def K_core_Broken_15 : MarkK tab := ⟨[(5, .val (.slice 8 (.int .i64)) (.yes 0)), (55, .val (.slice 1 (.bool)) (.yes 0)), (56, .val (.int .i64) (.no)), (57, .val (.int .i64) (.no))], [((.exit 0), [(5, .val (.slice 8 (.int .i64)) (.yes 0))])], L_core_Broken_15⟩
noncomputable def N_core_Broken : FnK tab := ⟨[.val (.named .TCore) (.no)], Sl 8 (W .i64), fun a : TCore × Unit => F_core_Broken a.1, fun r : Sl 8 (W .i64) => (.val (.slice 8 (.int .i64)) r (.no), [.undef])⟩
noncomputable def t_core_Broken : Nat → List (FnK tab) := tbl [(26, N_core_rooms), (27, N_core_queued), (28, N_core_ordered), (29, N_rename_Right), (30, N_core_rens), (31, N_core_flying), (32, N_core_apart), (33, N_core_memory), (34, N_prf_View), (35, N_core_clean), (36, N_core_valued)]
noncomputable def q_core_Broken : Nat → Option (MarkK tab) := mtbl [(15, K_core_Broken_15)]
noncomputable def x_core_Arch : FnX := ⟨[0, 1, 2], [], [true], []⟩
noncomputable def g_core_Arch : AFn tab := gOf Try.prog cx x_core_Arch Try.f17
noncomputable def N_core_Arch : FnK tab := ⟨[.val (.named .TCore) (.no)], TArch, fun a : TCore × Unit => F_core_Arch a.1, fun r : TArch => (.val (.named .TArch) r (.no), [.undef])⟩
noncomputable def t_core_Arch : Nat → List (FnK tab) := tbl []
noncomputable def q_core_Arch : Nat → Option (MarkK tab) := fun _ => none
noncomputable def x_law42_awake : FnX := ⟨[0, 1, 2, 3, 4], [], [true], []⟩
noncomputable def g_law42_awake : AFn tab := gOf Try.prog cx x_law42_awake Try.f10
noncomputable def N_law42_awake : FnK tab := ⟨[], Bool, fun a : Unit => F_law42_awake, fun r : Bool => (.val (.bool) r (.no), [])⟩
noncomputable def t_law42_awake : Nat → List (FnK tab) := tbl [(6, N_core_Conf), (8, N_core_Plain), (13, N_core_Broken), (15, N_core_Empty), (17, N_core_Arch), (19, N_core_New)]
noncomputable def q_law42_awake : Nat → Option (MarkK tab) := fun _ => none
noncomputable def x_ref42_in : FnX := ⟨[0, 1, 2, 6], [], [true], []⟩
noncomputable def g_ref42_in : AFn tab := gOf Try.prog cx x_ref42_in Try.f25
noncomputable def N_ref42_in : FnK tab := ⟨[.val (.int .i64) (.no), .val (.int .i64) (.no), .val (.int .i64) (.no)], Bool, fun a : W .i64 × W .i64 × W .i64 × Unit => F_ref42_in a.1 a.2.1 a.2.2.1, fun r : Bool => (.val (.bool) r (.no), [.undef, .undef, .undef])⟩
noncomputable def t_ref42_in : Nat → List (FnK tab) := tbl []
noncomputable def q_ref42_in : Nat → Option (MarkK tab) := fun _ => none
noncomputable def x_ref42_Conf : FnX := ⟨[0, 1, 2, 3, 4, 5, 6, 113], [], [true], [(3, [(1, .any), (3, .any)]), (4, [(2, .any)]), (5, [(1, .any), (3, .any), (4, .any)]), (6, [(2, .any)]), (7, [(1, .any), (3, .any), (4, .any), (5, .any)]), (8, [(2, .any)]), (9, [(3, .any), (4, .any), (5, .any), (6, .any)]), (10, [(2, .any)]), (11, [(113, .any)]), (12, [(2, .any)]), (15, []), (16, [(2, .any)])]⟩
noncomputable def g_ref42_Conf : AFn tab := gOf Try.prog cx x_ref42_Conf Try.f7
noncomputable def K_ref42_Conf_11 : MarkK tab := ⟨[(113, .val (.bool) (.no))], [(.ret, [(2, .val (.int .i64) (.no))]), (.normal, [(2, .undef)])], L_ref42_Conf_11⟩
noncomputable def K_ref42_Conf_15 : MarkK tab := ⟨[], [(.ret, [(2, .val (.int .i64) (.no))])], L_ref42_Conf_15⟩
noncomputable def K_ref42_Conf_9 : MarkK tab := ⟨[(3, .val (.bool) (.no)), (4, .val (.bool) (.no)), (5, .val (.bool) (.no)), (6, .val (.bool) (.no))], [(.ret, [(2, .val (.int .i64) (.no))])], L_ref42_Conf_9⟩
noncomputable def K_ref42_Conf_7 : MarkK tab := ⟨[(1, .box (.named .TConf) (.no)), (3, .val (.bool) (.no)), (4, .val (.bool) (.no)), (5, .val (.bool) (.no))], [(.ret, [(2, .val (.int .i64) (.no))])], L_ref42_Conf_7⟩
noncomputable def K_ref42_Conf_5 : MarkK tab := ⟨[(1, .box (.named .TConf) (.no)), (3, .val (.bool) (.no)), (4, .val (.bool) (.no))], [(.ret, [(2, .val (.int .i64) (.no))])], L_ref42_Conf_5⟩
noncomputable def K_ref42_Conf_3 : MarkK tab := ⟨[(1, .box (.named .TConf) (.no)), (3, .val (.bool) (.no))], [(.ret, [(2, .val (.int .i64) (.no))])], L_ref42_Conf_3⟩
noncomputable def N_ref42_Conf : FnK tab := ⟨[.val (.named .TConf) (.no)], W .i64, fun a : TConf × Unit => F_ref42_Conf a.1, fun r : W .i64 => (.val (.int .i64) r (.no), [.undef])⟩
noncomputable def t_ref42_Conf : Nat → List (FnK tab) := tbl [(25, N_ref42_in)]
noncomputable def q_ref42_Conf : Nat → Option (MarkK tab) := mtbl [(11, K_ref42_Conf_11), (15, K_ref42_Conf_15), (9, K_ref42_Conf_9), (7, K_ref42_Conf_7), (5, K_ref42_Conf_5), (3, K_ref42_Conf_3)]
noncomputable def x_ref42_rooms : FnX := ⟨[0, 1, 2, 3], [], [true], []⟩
noncomputable def g_ref42_rooms : AFn tab := gOf Try.prog cx x_ref42_rooms Try.f37
noncomputable def N_ref42_rooms : FnK tab := ⟨[.val (.named .TCore) (.no)], Bool, fun a : TCore × Unit => F_ref42_rooms a.1, fun r : Bool => (.val (.bool) r (.no), [.undef])⟩
noncomputable def t_ref42_rooms : Nat → List (FnK tab) := tbl [(7, N_ref42_Conf)]
noncomputable def q_ref42_rooms : Nat → Option (MarkK tab) := fun _ => none
noncomputable def x_ref29_Right : FnX := ⟨[0, 2, 3, 4, 8, 37, 50, 68], [], [true], [(5, [(0, .any), (3, .any)]), (6, [(0, .any), (2, .any)]), (7, [(0, .any), (3, .any)])]⟩
noncomputable def g_ref29_Right : AFn tab := gOf Try.prog cx x_ref29_Right Try.f38
noncomputable def K_ref29_Right_5 : MarkK tab := ⟨[(0, .val (.slice 248 (.named .TRob)) (.no)), (3, .val (.int .i64) (.no))], [(.ret, [(0, .val (.slice 248 (.named .TRob)) (.no)), (2, .val (.bool) (.no))]), ((.exit 0), [(0, .val (.slice 248 (.named .TRob)) (.no)), (2, .undef)])], L_ref29_Right_5⟩
noncomputable def N_ref29_Right : FnK tab := ⟨[.val (.slice 248 (.named .TRob)) (.no)], Bool, fun a : Sl 248 (TRob) × Unit => F_ref29_Right a.1, fun r : Bool => (.val (.bool) r (.no), [.undef])⟩
noncomputable def t_ref29_Right : Nat → List (FnK tab) := tbl []
noncomputable def q_ref29_Right : Nat → Option (MarkK tab) := mtbl [(5, K_ref29_Right_5)]
noncomputable def x_ref26_Right : FnX := ⟨[0, 1, 2, 4, 5, 6, 9, 11, 24, 27, 36], [], [true], [(11, [(1, .any), (2, .any), (5, .any)]), (12, [(4, .any)]), (13, [(1, .any), (2, .any), (5, .any)]), (26, [(1, .any), (2, .any), (5, .any), (6, .any)]), (27, [(1, .any), (2, .any), (4, .any), (5, .any)]), (28, [(1, .any), (2, .any), (5, .any), (6, .any)])]⟩
noncomputable def g_ref26_Right : AFn tab := gOf Try.prog cx x_ref26_Right Try.f76
noncomputable def K_ref26_Right_26 : MarkK tab := ⟨[(1, .val (.int .i64) (.no)), (2, .box (.arr 16 (.int .i64)) (.no)), (5, .val (.int .i64) (.no)), (6, .val (.int .i64) (.no))], [(.ret, [(1, .val (.int .i64) (.no)), (2, .box (.arr 16 (.int .i64)) (.no)), (4, .val (.bool) (.no)), (5, .val (.int .i64) (.no))]), ((.exit 2), [(1, .val (.int .i64) (.no)), (2, .box (.arr 16 (.int .i64)) (.no)), (4, .undef), (5, .val (.int .i64) (.no))])], L_ref26_Right_26⟩
noncomputable def K_ref26_Right_11 : MarkK tab := ⟨[(1, .val (.int .i64) (.no)), (2, .box (.arr 16 (.int .i64)) (.no)), (5, .val (.int .i64) (.no))], [(.ret, [(4, .val (.bool) (.no))]), ((.exit 0), [(4, .undef)])], L_ref26_Right_11⟩
noncomputable def N_ref26_Right : FnK tab := ⟨[.val (.arr 16 (.int .i64)) (.no), .val (.int .i64) (.no)], Bool, fun a : Arr 16 (W .i64) × W .i64 × Unit => F_ref26_Right a.1 a.2.1, fun r : Bool => (.val (.bool) r (.no), [.undef, .undef])⟩
noncomputable def t_ref26_Right : Nat → List (FnK tab) := tbl []
noncomputable def q_ref26_Right : Nat → Option (MarkK tab) := mtbl [(26, K_ref26_Right_26), (11, K_ref26_Right_11)]
noncomputable def x_ref25_Is : FnX := ⟨[0, 1, 2, 3, 19], [], [true], []⟩
noncomputable def g_ref25_Is : AFn tab := gOf Try.prog cx x_ref25_Is Try.f102
noncomputable def N_ref25_Is : FnK tab := ⟨[.val (.named .TFree) (.no)], Bool, fun a : TFree × Unit => F_ref25_Is a.1, fun r : Bool => (.val (.bool) r (.no), [.undef])⟩
noncomputable def t_ref25_Is : Nat → List (FnK tab) := tbl []
noncomputable def q_ref25_Is : Nat → Option (MarkK tab) := fun _ => none
noncomputable def x_ref25_List : FnX := ⟨[0, 1, 2, 3, 4, 8, 13], [], [false], [(13, [(1, .any), (3, .any), (4, .any)]), (14, [(3, .any)]), (15, [(1, .any), (3, .any), (4, .any)])]⟩
noncomputable def g_ref25_List : AFn tab := gOf Try.prog cx x_ref25_List Try.f103
noncomputable def K_ref25_List_13 : MarkK tab := ⟨[(1, .box (.named .TFree) (.no)), (3, .val (.slice 8 (.int .i64)) (.yes 0)), (4, .val (.int .i64) (.no))], [((.exit 0), [(3, .val (.slice 8 (.int .i64)) (.yes 0))])], L_ref25_List_13⟩
noncomputable def N_ref25_List : FnK tab := ⟨[.val (.named .TFree) (.no)], Sl 8 (W .i64), fun a : TFree × Unit => F_ref25_List a.1, fun r : Sl 8 (W .i64) => (.val (.slice 8 (.int .i64)) r (.yes 0), [.undef])⟩
noncomputable def t_ref25_List : Nat → List (FnK tab) := tbl [(102, N_ref25_Is)]
noncomputable def q_ref25_List : Nat → Option (MarkK tab) := mtbl [(13, K_ref25_List_13)]
noncomputable def x_ref25_Right : FnX := ⟨[0, 1, 2, 4, 5, 6, 7, 17, 23, 38, 41, 52], [], [true], [(13, [(1, .any), (5, .any), (6, .any)]), (14, [(4, .any)]), (15, [(1, .any), (5, .any), (6, .any)]), (28, [(1, .any), (5, .any), (6, .any), (7, .any)]), (29, [(1, .any), (4, .any), (5, .any), (6, .any)]), (30, [(1, .any), (5, .any), (6, .any), (7, .any)])]⟩
noncomputable def g_ref25_Right : AFn tab := gOf Try.prog cx x_ref25_Right Try.f77
noncomputable def K_ref25_Right_28 : MarkK tab := ⟨[(1, .val (.int .i64) (.no)), (5, .val (.slice 8 (.int .i64)) (.yes 0)), (6, .val (.int .i64) (.no)), (7, .val (.int .i64) (.no))], [(.ret, [(1, .val (.int .i64) (.no)), (4, .val (.bool) (.no)), (5, .val (.slice 8 (.int .i64)) (.yes 0)), (6, .val (.int .i64) (.no))]), ((.exit 2), [(1, .val (.int .i64) (.no)), (4, .undef), (5, .val (.slice 8 (.int .i64)) (.yes 0)), (6, .val (.int .i64) (.no))])], L_ref25_Right_28⟩
noncomputable def K_ref25_Right_13 : MarkK tab := ⟨[(1, .val (.int .i64) (.no)), (5, .val (.slice 8 (.int .i64)) (.yes 0)), (6, .val (.int .i64) (.no))], [(.ret, [(4, .val (.bool) (.no))]), ((.exit 0), [(4, .undef)])], L_ref25_Right_13⟩
noncomputable def N_ref25_Right : FnK tab := ⟨[.val (.named .TFree) (.no), .val (.int .i64) (.no)], Bool, fun a : TFree × W .i64 × Unit => F_ref25_Right a.1 a.2.1, fun r : Bool => (.val (.bool) r (.no), [.undef, .undef])⟩
noncomputable def t_ref25_Right : Nat → List (FnK tab) := tbl [(102, N_ref25_Is), (103, N_ref25_List)]
noncomputable def q_ref25_Right : Nat → Option (MarkK tab) := mtbl [(28, K_ref25_Right_28), (13, K_ref25_Right_13)]
noncomputable def x_ref28_Writes : FnX := ⟨[0, 1, 2], [], [true], []⟩
noncomputable def g_ref28_Writes : AFn tab := gOf Try.prog cx x_ref28_Writes Try.f78
noncomputable def N_ref28_Writes : FnK tab := ⟨[.val (.named .TUop) (.no)], Bool, fun a : TUop × Unit => F_ref28_Writes a.1, fun r : Bool => (.val (.bool) r (.no), [.undef])⟩
noncomputable def t_ref28_Writes : Nat → List (FnK tab) := tbl []
noncomputable def q_ref28_Writes : Nat → Option (MarkK tab) := fun _ => none
noncomputable def x_ref28_times : FnX := ⟨[0, 1, 4, 5, 6, 10, 18], [], [true], [(7, [(0, .any), (1, .any), (5, .any), (6, .any)]), (8, [(5, .any)]), (9, [(0, .any), (1, .any), (5, .any), (6, .any)])]⟩
noncomputable def g_ref28_times : AFn tab := gOf Try.prog cx x_ref28_times Try.f104
noncomputable def K_ref28_times_7 : MarkK tab := ⟨[(0, .val (.slice 8 (.int .i64)) (.no)), (1, .val (.int .i64) (.no)), (5, .val (.int .i64) (.no)), (6, .val (.int .i64) (.no))], [((.exit 0), [(5, .val (.int .i64) (.no))])], L_ref28_times_7⟩
noncomputable def N_ref28_times : FnK tab := ⟨[.val (.slice 8 (.int .i64)) (.no), .val (.int .i64) (.no)], W .i64, fun a : Sl 8 (W .i64) × W .i64 × Unit => F_ref28_times a.1 a.2.1, fun r : W .i64 => (.val (.int .i64) r (.no), [.undef, .undef])⟩
noncomputable def t_ref28_times : Nat → List (FnK tab) := tbl []
noncomputable def q_ref28_times : Nat → Option (MarkK tab) := mtbl [(7, K_ref28_times_7)]
noncomputable def x_ref28_parted : FnX := ⟨[0, 1, 2, 3, 6, 7, 8, 9, 10, 15, 28, 36, 47, 53], [], [true], [(7, [(1, .any), (2, .any), (3, .any), (7, .any), (8, .any)]), (8, [(1, .any), (2, .any), (7, .any)]), (9, [(1, .any), (2, .any), (3, .any), (7, .any), (8, .any)]), (20, [(1, .any), (2, .any), (7, .any), (9, .any)]), (21, [(1, .any), (7, .any)]), (22, [(1, .any), (2, .any), (7, .any), (9, .any)]), (35, [(1, .any), (7, .any), (10, .any)]), (36, [(1, .any), (6, .any), (7, .any)]), (37, [(1, .any), (7, .any), (10, .any)])]⟩
noncomputable def g_ref28_parted : AFn tab := gOf Try.prog cx x_ref28_parted Try.f79
noncomputable def K_ref28_parted_7 : MarkK tab := ⟨[(1, .val (.int .i64) (.no)), (2, .val (.slice 216 (.named .TRen)) (.no)), (3, .box (.named .TNames) (.no)), (7, .val (.slice 8 (.int .i64)) (.yes 0)), (8, .val (.int .i64) (.no))], [((.exit 0), [(1, .val (.int .i64) (.no)), (2, .val (.slice 216 (.named .TRen)) (.no)), (7, .val (.slice 8 (.int .i64)) (.yes 0))])], L_ref28_parted_7⟩
noncomputable def K_ref28_parted_20 : MarkK tab := ⟨[(1, .val (.int .i64) (.no)), (2, .val (.slice 216 (.named .TRen)) (.no)), (7, .val (.slice 8 (.int .i64)) (.yes 0)), (9, .val (.int .i64) (.no))], [((.exit 2), [(1, .val (.int .i64) (.no)), (7, .val (.slice 8 (.int .i64)) (.yes 0))])], L_ref28_parted_20⟩
noncomputable def K_ref28_parted_35 : MarkK tab := ⟨[(1, .val (.int .i64) (.no)), (7, .val (.slice 8 (.int .i64)) (.yes 0)), (10, .val (.int .i64) (.no))], [(.ret, [(1, .val (.int .i64) (.no)), (6, .val (.bool) (.no)), (7, .val (.slice 8 (.int .i64)) (.yes 0))]), ((.exit 4), [(1, .val (.int .i64) (.no)), (6, .undef), (7, .val (.slice 8 (.int .i64)) (.yes 0))])], L_ref28_parted_35⟩
noncomputable def N_ref28_parted : FnK tab := ⟨[.val (.named .TNames) (.no), .val (.int .i64) (.no), .val (.slice 216 (.named .TRen)) (.no)], Bool, fun a : TNames × W .i64 × Sl 216 (TRen) × Unit => F_ref28_parted a.1 a.2.1 a.2.2.1, fun r : Bool => (.val (.bool) r (.no), [.undef, .undef, .undef])⟩
noncomputable def t_ref28_parted : Nat → List (FnK tab) := tbl [(103, N_ref25_List), (104, N_ref28_times)]
noncomputable def q_ref28_parted : Nat → Option (MarkK tab) := mtbl [(7, K_ref28_parted_7), (20, K_ref28_parted_20), (35, K_ref28_parted_35)]
noncomputable def x_ref28_Right : FnX := ⟨[0, 1, 2, 3, 6, 7, 8, 9, 10, 37, 43, 60, 66, 74, 87], [], [true], [(15, [(1, .any), (2, .any), (3, .any), (7, .any), (8, .any), (9, .any)]), (16, [(1, .any), (2, .any), (3, .any), (6, .any), (7, .any)]), (17, [(1, .any), (2, .any), (3, .any), (7, .any), (8, .any), (9, .any)])]⟩
noncomputable def g_ref28_Right : AFn tab := gOf Try.prog cx x_ref28_Right Try.f39
noncomputable def K_ref28_Right_15 : MarkK tab := ⟨[(1, .val (.int .i64) (.no)), (2, .val (.slice 216 (.named .TRen)) (.no)), (3, .box (.named .TNames) (.no)), (7, .box (.arr 16 (.int .i64)) (.no)), (8, .val (.int .u64) (.no)), (9, .val (.int .i64) (.no))], [(.ret, [(1, .val (.int .i64) (.no)), (2, .val (.slice 216 (.named .TRen)) (.no)), (3, .box (.named .TNames) (.no)), (6, .val (.bool) (.no)), (7, .box (.arr 16 (.int .i64)) (.no))]), ((.exit 0), [(1, .val (.int .i64) (.no)), (2, .val (.slice 216 (.named .TRen)) (.no)), (3, .box (.named .TNames) (.no)), (6, .undef), (7, .box (.arr 16 (.int .i64)) (.no))])], L_ref28_Right_15⟩
noncomputable def N_ref28_Right : FnK tab := ⟨[.val (.named .TNames) (.no), .val (.int .i64) (.no), .val (.slice 216 (.named .TRen)) (.no)], Bool, fun a : TNames × W .i64 × Sl 216 (TRen) × Unit => F_ref28_Right a.1 a.2.1 a.2.2.1, fun r : Bool => (.val (.bool) r (.no), [.undef, .undef, .undef])⟩
noncomputable def t_ref28_Right : Nat → List (FnK tab) := tbl [(76, N_ref26_Right), (77, N_ref25_Right), (78, N_ref28_Writes), (79, N_ref28_parted)]
noncomputable def q_ref28_Right : Nat → Option (MarkK tab) := mtbl [(15, K_ref28_Right_15)]
noncomputable def x_ref42_waits : FnX := ⟨[0, 1, 2, 3, 4, 5, 10, 29], [], [true], [(5, [(2, .any), (3, .any), (5, .any)]), (6, [(4, .any)]), (7, [(2, .any), (3, .any), (5, .any)])]⟩
noncomputable def g_ref42_waits : AFn tab := gOf Try.prog cx x_ref42_waits Try.f80
noncomputable def K_ref42_waits_5 : MarkK tab := ⟨[(2, .box (.named .TCore) (.no)), (3, .box (.named .TRen) (.no)), (5, .val (.int .i64) (.no))], [(.ret, [(4, .val (.bool) (.no))]), ((.exit 0), [(4, .undef)])], L_ref42_waits_5⟩
noncomputable def N_ref42_waits : FnK tab := ⟨[.val (.named .TCore) (.no), .val (.named .TRen) (.no)], Bool, fun a : TCore × TRen × Unit => F_ref42_waits a.1 a.2.1, fun r : Bool => (.val (.bool) r (.no), [.undef, .undef])⟩
noncomputable def t_ref42_waits : Nat → List (FnK tab) := tbl []
noncomputable def q_ref42_waits : Nat → Option (MarkK tab) := mtbl [(5, K_ref42_waits_5)]
noncomputable def x_ref42_queued : FnX := ⟨[0, 1, 2, 3, 4, 9, 20, 23, 40], [], [true], [(5, [(1, .any), (3, .any)]), (6, [(2, .any)]), (7, [(1, .any), (3, .any)]), (20, [(1, .any), (3, .any), (4, .any)]), (21, [(1, .any), (2, .any), (3, .any)]), (22, [(1, .any), (3, .any), (4, .any)])]⟩
noncomputable def g_ref42_queued : AFn tab := gOf Try.prog cx x_ref42_queued Try.f40
noncomputable def K_ref42_queued_20 : MarkK tab := ⟨[(1, .box (.named .TCore) (.no)), (3, .val (.int .i64) (.no)), (4, .val (.int .i64) (.no))], [(.ret, [(1, .box (.named .TCore) (.no)), (2, .val (.bool) (.no)), (3, .val (.int .i64) (.no))]), ((.exit 2), [(1, .box (.named .TCore) (.no)), (2, .undef), (3, .val (.int .i64) (.no))])], L_ref42_queued_20⟩
noncomputable def K_ref42_queued_5 : MarkK tab := ⟨[(1, .box (.named .TCore) (.no)), (3, .val (.int .i64) (.no))], [(.ret, [(2, .val (.bool) (.no))]), ((.exit 0), [(2, .undef)])], L_ref42_queued_5⟩
noncomputable def N_ref42_queued : FnK tab := ⟨[.val (.named .TCore) (.no)], Bool, fun a : TCore × Unit => F_ref42_queued a.1, fun r : Bool => (.val (.bool) r (.no), [.undef])⟩
noncomputable def t_ref42_queued : Nat → List (FnK tab) := tbl [(80, N_ref42_waits)]
noncomputable def q_ref42_queued : Nat → Option (MarkK tab) := mtbl [(20, K_ref42_queued_20), (5, K_ref42_queued_5)]
noncomputable def x_ref42_flying : FnX := ⟨[0, 1, 2, 3, 4, 5, 6, 11, 23, 26, 38, 43, 55], [], [true], [(5, [(1, .any), (3, .any)]), (6, [(2, .any)]), (7, [(1, .any), (3, .any)]), (22, [(1, .any), (3, .any), (4, .any), (5, .any)]), (23, [(1, .any), (2, .any), (3, .any), (4, .any)]), (24, [(1, .any), (3, .any), (4, .any), (5, .any)]), (39, [(1, .any), (3, .any), (4, .any), (6, .any)]), (40, [(1, .any), (2, .any), (3, .any)]), (41, [(1, .any), (3, .any), (4, .any), (6, .any)])]⟩
noncomputable def g_ref42_flying : AFn tab := gOf Try.prog cx x_ref42_flying Try.f41
noncomputable def K_ref42_flying_22 : MarkK tab := ⟨[(1, .box (.named .TCore) (.no)), (3, .val (.int .i64) (.no)), (4, .box (.named .TRen) (.no)), (5, .val (.int .i64) (.no))], [(.ret, [(1, .box (.named .TCore) (.no)), (2, .val (.bool) (.no)), (3, .val (.int .i64) (.no)), (4, .box (.named .TRen) (.no))]), ((.exit 2), [(1, .box (.named .TCore) (.no)), (2, .undef), (3, .val (.int .i64) (.no)), (4, .box (.named .TRen) (.no))])], L_ref42_flying_22⟩
noncomputable def K_ref42_flying_39 : MarkK tab := ⟨[(1, .box (.named .TCore) (.no)), (3, .val (.int .i64) (.no)), (4, .box (.named .TRen) (.no)), (6, .val (.int .i64) (.no))], [(.ret, [(1, .box (.named .TCore) (.no)), (2, .val (.bool) (.no)), (3, .val (.int .i64) (.no))]), ((.exit 4), [(1, .box (.named .TCore) (.no)), (2, .undef), (3, .val (.int .i64) (.no))])], L_ref42_flying_39⟩
noncomputable def K_ref42_flying_5 : MarkK tab := ⟨[(1, .box (.named .TCore) (.no)), (3, .val (.int .i64) (.no))], [(.ret, [(2, .val (.bool) (.no))]), ((.exit 0), [(2, .undef)])], L_ref42_flying_5⟩
noncomputable def N_ref42_flying : FnK tab := ⟨[.val (.named .TCore) (.no)], Bool, fun a : TCore × Unit => F_ref42_flying a.1, fun r : Bool => (.val (.bool) r (.no), [.undef])⟩
noncomputable def t_ref42_flying : Nat → List (FnK tab) := tbl [(80, N_ref42_waits)]
noncomputable def q_ref42_flying : Nat → Option (MarkK tab) := mtbl [(22, K_ref42_flying_22), (39, K_ref42_flying_39), (5, K_ref42_flying_5)]
noncomputable def x_ref42_seqs : FnX := ⟨[0, 1, 2, 4, 5, 6, 12, 24], [], [true], [(7, [(1, .any), (2, .any), (5, .any), (6, .any)]), (8, [(5, .any)]), (9, [(1, .any), (2, .any), (5, .any), (6, .any)])]⟩
noncomputable def g_ref42_seqs : AFn tab := gOf Try.prog cx x_ref42_seqs Try.f81
noncomputable def K_ref42_seqs_7 : MarkK tab := ⟨[(1, .val (.int .i64) (.no)), (2, .box (.named .TCore) (.no)), (5, .val (.slice 8 (.int .u64)) (.yes 0)), (6, .val (.int .i64) (.no))], [((.exit 0), [(5, .val (.slice 8 (.int .u64)) (.yes 0))])], L_ref42_seqs_7⟩
noncomputable def N_ref42_seqs : FnK tab := ⟨[.val (.named .TCore) (.no), .val (.int .i64) (.no)], Sl 8 (W .u64), fun a : TCore × W .i64 × Unit => F_ref42_seqs a.1 a.2.1, fun r : Sl 8 (W .u64) => (.val (.slice 8 (.int .u64)) r (.no), [.undef, .undef])⟩
noncomputable def t_ref42_seqs : Nat → List (FnK tab) := tbl []
noncomputable def q_ref42_seqs : Nat → Option (MarkK tab) := mtbl [(7, K_ref42_seqs_7)]
noncomputable def x_ref42_memory : FnX := ⟨[0, 1, 2, 3, 4, 5, 6, 24, 35, 48, 59, 72], [], [true], [(13, [(1, .any), (3, .any), (4, .any), (5, .any)]), (14, [(1, .any), (2, .any), (4, .any)]), (15, [(1, .any), (3, .any), (4, .any), (5, .any)]), (30, [(1, .any), (4, .any), (6, .any)]), (31, [(2, .any)]), (32, [(1, .any), (4, .any), (6, .any)])]⟩
noncomputable def g_ref42_memory : AFn tab := gOf Try.prog cx x_ref42_memory Try.f42
noncomputable def K_ref42_memory_13 : MarkK tab := ⟨[(1, .box (.named .TCore) (.no)), (3, .val (.slice 8 (.int .u64)) (.no)), (4, .val (.slice 8 (.int .u64)) (.no)), (5, .val (.int .i64) (.no))], [(.ret, [(1, .box (.named .TCore) (.no)), (2, .val (.bool) (.no)), (4, .val (.slice 8 (.int .u64)) (.no))]), ((.exit 0), [(1, .box (.named .TCore) (.no)), (2, .undef), (4, .val (.slice 8 (.int .u64)) (.no))])], L_ref42_memory_13⟩
noncomputable def K_ref42_memory_30 : MarkK tab := ⟨[(1, .box (.named .TCore) (.no)), (4, .val (.slice 8 (.int .u64)) (.no)), (6, .val (.int .i64) (.no))], [(.ret, [(2, .val (.bool) (.no))]), ((.exit 2), [(2, .undef)])], L_ref42_memory_30⟩
noncomputable def N_ref42_memory : FnK tab := ⟨[.val (.named .TCore) (.no)], Bool, fun a : TCore × Unit => F_ref42_memory a.1, fun r : Bool => (.val (.bool) r (.no), [.undef])⟩
noncomputable def t_ref42_memory : Nat → List (FnK tab) := tbl [(81, N_ref42_seqs)]
noncomputable def q_ref42_memory : Nat → Option (MarkK tab) := mtbl [(13, K_ref42_memory_13), (30, K_ref42_memory_30)]
noncomputable def x_ref27_is : FnX := ⟨[0, 1, 2, 4], [], [true], []⟩
noncomputable def g_ref27_is : AFn tab := gOf Try.prog cx x_ref27_is Try.f105
noncomputable def N_ref27_is : FnK tab := ⟨[.val (.named .TPhys) (.no), .val (.int .i64) (.no)], Bool, fun a : TPhys × W .i64 × Unit => F_ref27_is a.1 a.2.1, fun r : Bool => (.val (.bool) r (.no), [.undef, .undef])⟩
noncomputable def t_ref27_is : Nat → List (FnK tab) := tbl []
noncomputable def q_ref27_is : Nat → Option (MarkK tab) := fun _ => none
noncomputable def x_ref27_Get : FnX := ⟨[0, 1, 2, 4, 5, 9, 15], [], [true, true], []⟩
noncomputable def g_ref27_Get : AFn tab := gOf Try.prog cx x_ref27_Get Try.f82
noncomputable def N_ref27_Get : FnK tab := ⟨[.val (.named .TPhys) (.no), .val (.int .i64) (.no)], W .u32 × Bool, fun a : TPhys × W .i64 × Unit => F_ref27_Get a.1 a.2.1, fun r : W .u32 × Bool => (.tup [.val (.int .u32) r.1 (.no), .val (.bool) r.2 (.no)], [.undef, .undef])⟩
noncomputable def t_ref27_Get : Nat → List (FnK tab) := tbl [(105, N_ref27_is)]
noncomputable def q_ref27_Get : Nat → Option (MarkK tab) := fun _ => none
noncomputable def x_ref27_View : FnX := ⟨[0, 1, 2, 3, 4, 5, 6, 8], [], [true], [(7, [(2, .any), (3, .any), (4, .any), (5, .any), (6, .any)]), (8, [(4, .any), (5, .any)]), (9, [(2, .any), (3, .any), (4, .any), (5, .any), (6, .any)])]⟩
noncomputable def g_ref27_View : AFn tab := gOf Try.prog cx x_ref27_View Try.f43
noncomputable def K_ref27_View_7 : MarkK tab := ⟨[(2, .box (.named .TPhys) (.no)), (3, .box (.arr 16 (.int .i64)) (.no)), (4, .box (.arr 16 (.int .u32)) (.no)), (5, .box (.arr 16 (.int .u32)) (.no)), (6, .val (.int .i64) (.no))], [((.exit 0), [(4, .box (.arr 16 (.int .u32)) (.no)), (5, .box (.arr 16 (.int .u32)) (.no))])], L_ref27_View_7⟩
noncomputable def N_ref27_View : FnK tab := ⟨[.val (.named .TPhys) (.no), .val (.arr 16 (.int .i64)) (.no)], Arr 16 (W .u32), fun a : TPhys × Arr 16 (W .i64) × Unit => F_ref27_View a.1 a.2.1, fun r : Arr 16 (W .u32) => (.val (.arr 16 (.int .u32)) r (.no), [.undef, .undef])⟩
noncomputable def t_ref27_View : Nat → List (FnK tab) := tbl [(82, N_ref27_Get)]
noncomputable def q_ref27_View : Nat → Option (MarkK tab) := mtbl [(7, K_ref27_View_7)]
noncomputable def x_ref11_Masked : FnX := ⟨[0, 2, 3, 4, 6, 8, 11, 18], [], [true], []⟩
noncomputable def g_ref11_Masked : AFn tab := gOf Try.prog cx x_ref11_Masked Try.f83
noncomputable def N_ref11_Masked : FnK tab := ⟨[.val (.int .i64) (.no)], W .u32, fun a : W .i64 × Unit => F_ref11_Masked a.1, fun r : W .u32 => (.val (.int .u32) r (.no), [.undef])⟩
noncomputable def t_ref11_Masked : Nat → List (FnK tab) := tbl []
noncomputable def q_ref11_Masked : Nat → Option (MarkK tab) := fun _ => none
noncomputable def x_ref42_control : FnX := ⟨[0, 1, 2, 3, 5, 19], [], [true], [(5, [(1, .any), (3, .any)]), (6, [(1, .any), (2, .any)]), (7, [(1, .any), (3, .any)])]⟩
noncomputable def g_ref42_control : AFn tab := gOf Try.prog cx x_ref42_control Try.f44
noncomputable def K_ref42_control_5 : MarkK tab := ⟨[(1, .box (.named .TArch) (.no)), (3, .val (.int .i64) (.no))], [(.ret, [(1, .box (.named .TArch) (.no)), (2, .val (.bool) (.no))]), ((.exit 0), [(1, .box (.named .TArch) (.no)), (2, .undef)])], L_ref42_control_5⟩
noncomputable def N_ref42_control : FnK tab := ⟨[.val (.named .TArch) (.no)], Bool, fun a : TArch × Unit => F_ref42_control a.1, fun r : Bool => (.val (.bool) r (.no), [.undef])⟩
noncomputable def t_ref42_control : Nat → List (FnK tab) := tbl [(83, N_ref11_Masked)]
noncomputable def q_ref42_control : Nat → Option (MarkK tab) := mtbl [(5, K_ref42_control_5)]
noncomputable def x_ref42_there : FnX := ⟨[0, 1, 2, 3, 4, 5, 6, 11, 32, 49], [], [true], [(5, [(1, .any), (3, .any)]), (6, [(2, .any)]), (7, [(1, .any), (3, .any)])]⟩
noncomputable def g_ref42_there : AFn tab := gOf Try.prog cx x_ref42_there Try.f45
noncomputable def K_ref42_there_5 : MarkK tab := ⟨[(1, .box (.named .TCore) (.no)), (3, .val (.int .i64) (.no))], [(.ret, [(2, .val (.bool) (.no))]), ((.exit 0), [(2, .undef)])], L_ref42_there_5⟩
noncomputable def N_ref42_there : FnK tab := ⟨[.val (.named .TCore) (.no)], Bool, fun a : TCore × Unit => F_ref42_there a.1, fun r : Bool => (.val (.bool) r (.no), [.undef])⟩
noncomputable def t_ref42_there : Nat → List (FnK tab) := tbl [(82, N_ref27_Get)]
noncomputable def q_ref42_there : Nat → Option (MarkK tab) := mtbl [(5, K_ref42_there_5)]
noncomputable def x_ref42_Broken : FnX := ⟨[0, 1, 2, 3, 4, 5, 8, 16, 53, 64, 70, 76, 82, 95, 102, 108], [], [true], [(7, [(1, .any)]), (8, [(2, .any), (3, .any)]), (15, [(1, .any), (3, .any), (4, .any), (5, .any)]), (16, [(1, .any), (3, .any), (4, .any)]), (17, [(1, .any), (3, .any), (4, .any), (5, .any)]), (20, [(1, .any), (3, .any), (4, .any), (5, .any)]), (21, [(1, .any), (3, .any), (4, .any), (5, .any)]), (24, [(1, .any), (3, .any), (4, .any)]), (25, [(2, .any), (3, .any)]), (26, [(1, .any), (3, .any), (4, .any), (53, .any)]), (27, [(1, .any), (3, .any), (4, .any)]), (28, [(1, .any), (3, .any), (4, .any)]), (29, [(2, .any), (3, .any)]), (32, [(1, .any), (3, .any)]), (33, [(2, .any), (3, .any)]), (36, [(1, .any), (3, .any)]), (37, [(2, .any), (3, .any)]), (40, [(1, .any), (3, .any)]), (41, [(2, .any), (3, .any)]), (44, [(1, .any), (3, .any)]), (45, [(2, .any), (3, .any)]), (48, [(1, .any), (3, .any)]), (49, [(2, .any), (3, .any)]), (52, [(1, .any), (3, .any)]), (53, [(2, .any), (3, .any)]), (56, [(3, .any)]), (57, [(2, .any), (3, .any)])]⟩
noncomputable def g_ref42_Broken : AFn tab := gOf Try.prog cx x_ref42_Broken Try.f14
noncomputable def K_ref42_Broken_20 : MarkK tab := ⟨[(1, .box (.named .TCore) (.no)), (3, .val (.slice 8 (.int .i64)) (.yes 0)), (4, .val (.slice 216 (.named .TRen)) (.yes 0)), (5, .val (.int .i64) (.no))], [(.normal, [(1, .box (.named .TCore) (.no)), (3, .val (.slice 8 (.int .i64)) (.yes 0)), (4, .val (.slice 216 (.named .TRen)) (.yes 0)), (5, .val (.int .i64) (.no))])], L_ref42_Broken_20⟩
noncomputable def K_ref42_Broken_15 : MarkK tab := ⟨[(1, .box (.named .TCore) (.no)), (3, .val (.slice 8 (.int .i64)) (.yes 0)), (4, .val (.slice 216 (.named .TRen)) (.yes 0)), (5, .val (.int .i64) (.no))], [((.exit 0), [(1, .box (.named .TCore) (.no)), (3, .val (.slice 8 (.int .i64)) (.yes 0)), (4, .val (.slice 216 (.named .TRen)) (.yes 0))])], L_ref42_Broken_15⟩
noncomputable def K_ref42_Broken_26 : MarkK tab := ⟨[(1, .box (.named .TCore) (.no)), (3, .val (.slice 8 (.int .i64)) (.yes 0)), (4, .val (.slice 216 (.named .TRen)) (.yes 0)), (53, .val (.bool) (.no))], [(.normal, [(1, .box (.named .TCore) (.no)), (3, .val (.slice 8 (.int .i64)) (.yes 0)), (4, .val (.slice 216 (.named .TRen)) (.yes 0))])], L_ref42_Broken_26⟩
noncomputable def K_ref42_Broken_56 : MarkK tab := ⟨[(3, .val (.slice 8 (.int .i64)) (.yes 0))], [(.ret, [(2, .ref 3 []), (3, .val (.slice 8 (.int .i64)) (.yes 0))])], L_ref42_Broken_56⟩
noncomputable def K_ref42_Broken_52 : MarkK tab := ⟨[(1, .box (.named .TCore) (.no)), (3, .val (.slice 8 (.int .i64)) (.yes 0))], [(.ret, [(2, .ref 3 []), (3, .val (.slice 8 (.int .i64)) (.yes 0))])], L_ref42_Broken_52⟩
noncomputable def K_ref42_Broken_48 : MarkK tab := ⟨[(1, .box (.named .TCore) (.no)), (3, .val (.slice 8 (.int .i64)) (.yes 0))], [(.ret, [(2, .ref 3 []), (3, .val (.slice 8 (.int .i64)) (.yes 0))])], L_ref42_Broken_48⟩
noncomputable def K_ref42_Broken_44 : MarkK tab := ⟨[(1, .box (.named .TCore) (.no)), (3, .val (.slice 8 (.int .i64)) (.yes 0))], [(.ret, [(2, .ref 3 []), (3, .val (.slice 8 (.int .i64)) (.yes 0))])], L_ref42_Broken_44⟩
noncomputable def K_ref42_Broken_40 : MarkK tab := ⟨[(1, .box (.named .TCore) (.no)), (3, .val (.slice 8 (.int .i64)) (.yes 0))], [(.ret, [(2, .ref 3 []), (3, .val (.slice 8 (.int .i64)) (.yes 0))])], L_ref42_Broken_40⟩
noncomputable def K_ref42_Broken_36 : MarkK tab := ⟨[(1, .box (.named .TCore) (.no)), (3, .val (.slice 8 (.int .i64)) (.yes 0))], [(.ret, [(2, .ref 3 []), (3, .val (.slice 8 (.int .i64)) (.yes 0))])], L_ref42_Broken_36⟩
noncomputable def K_ref42_Broken_32 : MarkK tab := ⟨[(1, .box (.named .TCore) (.no)), (3, .val (.slice 8 (.int .i64)) (.yes 0))], [(.ret, [(2, .ref 3 []), (3, .val (.slice 8 (.int .i64)) (.yes 0))])], L_ref42_Broken_32⟩
noncomputable def K_ref42_Broken_28 : MarkK tab := ⟨[(1, .box (.named .TCore) (.no)), (3, .val (.slice 8 (.int .i64)) (.yes 0)), (4, .val (.slice 216 (.named .TRen)) (.yes 0))], [(.ret, [(2, .ref 3 []), (3, .val (.slice 8 (.int .i64)) (.yes 0))])], L_ref42_Broken_28⟩
noncomputable def K_ref42_Broken_24 : MarkK tab := ⟨[(1, .box (.named .TCore) (.no)), (3, .val (.slice 8 (.int .i64)) (.yes 0)), (4, .val (.slice 216 (.named .TRen)) (.yes 0))], [(.ret, [(2, .ref 3 []), (3, .val (.slice 8 (.int .i64)) (.yes 0))])], L_ref42_Broken_24⟩
noncomputable def K_ref42_Broken_7 : MarkK tab := ⟨[(1, .box (.named .TCore) (.no))], [(.ret, [(2, .ref 3 []), (3, .val (.slice 8 (.int .i64)) (.yes 0))])], L_ref42_Broken_7⟩
noncomputable def N_ref42_Broken : FnK tab := ⟨[.val (.named .TCore) (.no)], Sl 8 (W .i64), fun a : TCore × Unit => F_ref42_Broken a.1, fun r : Sl 8 (W .i64) => (.val (.slice 8 (.int .i64)) r (.no), [.undef])⟩
noncomputable def t_ref42_Broken : Nat → List (FnK tab) := tbl [(37, N_ref42_rooms), (38, N_ref29_Right), (39, N_ref28_Right), (40, N_ref42_queued), (41, N_ref42_flying), (42, N_ref42_memory), (43, N_ref27_View), (44, N_ref42_control), (45, N_ref42_there)]
noncomputable def q_ref42_Broken : Nat → Option (MarkK tab) := mtbl [(20, K_ref42_Broken_20), (15, K_ref42_Broken_15), (26, K_ref42_Broken_26), (56, K_ref42_Broken_56), (52, K_ref42_Broken_52), (48, K_ref42_Broken_48), (44, K_ref42_Broken_44), (40, K_ref42_Broken_40), (36, K_ref42_Broken_36), (32, K_ref42_Broken_32), (28, K_ref42_Broken_28), (24, K_ref42_Broken_24), (7, K_ref42_Broken_7)]
noncomputable def x_same_Ints : FnX := ⟨[0, 1, 4, 5, 10, 20, 31], [], [true], [(11, [(0, .any), (1, .any), (5, .any)]), (12, [(4, .any)]), (13, [(0, .any), (1, .any), (5, .any)])]⟩
noncomputable def g_same_Ints : AFn tab := gOf Try.prog cx x_same_Ints Try.f12
noncomputable def K_same_Ints_11 : MarkK tab := ⟨[(0, .val (.slice 8 (.int .i64)) (.no)), (1, .val (.slice 8 (.int .i64)) (.no)), (5, .val (.int .i64) (.no))], [(.ret, [(4, .val (.bool) (.no))]), ((.exit 0), [(4, .undef)])], L_same_Ints_11⟩
noncomputable def N_same_Ints : FnK tab := ⟨[.val (.slice 8 (.int .i64)) (.no), .val (.slice 8 (.int .i64)) (.no)], Bool, fun a : Sl 8 (W .i64) × Sl 8 (W .i64) × Unit => F_same_Ints a.1 a.2.1, fun r : Bool => (.val (.bool) r (.no), [.undef, .undef])⟩
noncomputable def t_same_Ints : Nat → List (FnK tab) := tbl []
noncomputable def q_same_Ints : Nat → Option (MarkK tab) := mtbl [(11, K_same_Ints_11)]
noncomputable def x_ref42_Empty : FnX := ⟨[0, 1, 2], [], [true], []⟩
noncomputable def g_ref42_Empty : AFn tab := gOf Try.prog cx x_ref42_Empty Try.f16
noncomputable def N_ref42_Empty : FnK tab := ⟨[.val (.named .TCore) (.no)], Bool, fun a : TCore × Unit => F_ref42_Empty a.1, fun r : Bool => (.val (.bool) r (.no), [.undef])⟩
noncomputable def t_ref42_Empty : Nat → List (FnK tab) := tbl []
noncomputable def q_ref42_Empty : Nat → Option (MarkK tab) := fun _ => none
noncomputable def x_law42_CoreBreaks : FnX := ⟨[0, 1, 2, 5], [], [true], []⟩
noncomputable def g_law42_CoreBreaks : AFn tab := gOf Try.prog cx x_law42_CoreBreaks Try.f4
noncomputable def N_law42_CoreBreaks : FnK tab := ⟨[.val (.named .TCore) (.no)], Bool, fun a : TCore × Unit => F_law42_CoreBreaks a.1, fun r : Bool => (.val (.bool) r (.no), [.undef])⟩
noncomputable def t_law42_CoreBreaks : Nat → List (FnK tab) := tbl [(10, N_law42_awake), (11, N_law42_Light), (12, N_same_Ints), (13, N_core_Broken), (14, N_ref42_Broken), (15, N_core_Empty), (16, N_ref42_Empty), (17, N_core_Arch)]
noncomputable def q_law42_CoreBreaks : Nat → Option (MarkK tab) := fun _ => none
end Go.Proofs.Ytdafegdnjedohaa
