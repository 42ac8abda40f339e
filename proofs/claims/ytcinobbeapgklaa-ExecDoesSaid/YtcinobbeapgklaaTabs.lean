/- YtcinobbeapgklaaTabs: the tables of functions and marks. No statement of the seat is proved here. -/
import Derived.Test.YtcinobbeapgklaaCode
import Derived.Test.YtcinobbeapgklaaTrees
namespace Go.Proofs.Ytcinobbeapgklaa
open Go Go.A2
def N_exec_behind : FnK tab := { sk := [.val (.named .TUop) (.no)], R := W .u32, f := fun a : TUop × Unit => F_exec_behind a.1, enc := fun r : W .u32 => (.val (.int .u32) r (.no), [.undef]) }
def t_exec_behind : Nat → List (FnK tab) := fun _ => []
def q_exec_behind : Nat → Option (MarkK tab) := fun _ => none
def N_exec_between : FnK tab := { sk := [.val (.int .i64) (.no), .val (.int .i64) (.no), .val (.int .i64) (.no)], R := Bool, f := fun a : W .i64 × W .i64 × W .i64 × Unit => F_exec_between a.1 a.2.1 a.2.2.1, enc := fun r : Bool => (.val (.bool) r (.no), [.undef, .undef, .undef]) }
def t_exec_between : Nat → List (FnK tab) := fun _ => []
def q_exec_between : Nat → Option (MarkK tab) := fun _ => none
def N_mul_New : FnK tab := { sk := [.val (.int .u32) (.no), .val (.int .u32) (.no)], R := TMul, f := fun a : W .u32 × W .u32 × Unit => F_mul_New a.1 a.2.1, enc := fun r : TMul => (.val (.named .TMul) r (.no), [.undef, .undef]) }
def t_mul_New : Nat → List (FnK tab) := fun _ => []
def q_mul_New : Nat → Option (MarkK tab) := fun _ => none
def N_mul_Step : FnK tab := { sk := [.val (.named .TMul) (.no)], R := TMul, f := fun a : TMul × Unit => F_mul_Step a.1, enc := fun r : TMul => (.val (.named .TMul) r (.no), [.undef]) }
def t_mul_Step : Nat → List (FnK tab) := fun _ => []
def q_mul_Step : Nat → Option (MarkK tab) := fun _ => none
def K_mul_Run_7 : MarkK tab := { sk := [(1, .box (.named .TMul) (.no)), (10, .val (.int .i64) (.no)), (11, .val (.int .i64) (.no))], outs := [((.exit 0), [(1, .box (.named .TMul) (.no))])], f := fun a : TMul × W .i64 × W .i64 × Unit => L_mul_Run_7 a }
def N_mul_Run : FnK tab := { sk := [.val (.named .TMul) (.no)], R := W .u32 × W .u32, f := fun a : TMul × Unit => F_mul_Run a.1, enc := fun r : W .u32 × W .u32 => (.tup [.val (.int .u32) r.1 (.no), .val (.int .u32) r.2 (.no)], [.undef]) }
def t_mul_Run : Nat → List (FnK tab)
  | 66 => [N_mul_Step]
  | _ => []
def q_mul_Run : Nat → Option (MarkK tab)
  | 7 => some K_mul_Run_7
  | _ => none
def N_mul_less : FnK tab := { sk := [.val (.int .u32) (.no), .val (.int .u32) (.no)], R := W .u32, f := fun a : W .u32 × W .u32 × Unit => F_mul_less a.1 a.2.1, enc := fun r : W .u32 => (.val (.int .u32) r (.no), [.undef, .undef]) }
def t_mul_less : Nat → List (FnK tab) := fun _ => []
def q_mul_less : Nat → Option (MarkK tab) := fun _ => none
def N_mul_Do : FnK tab := { sk := [.val (.int .i64) (.no), .val (.int .u32) (.no), .val (.int .u32) (.no)], R := W .u32 × Bool, f := fun a : W .i64 × W .u32 × W .u32 × Unit => F_mul_Do a.1 a.2.1 a.2.2.1, enc := fun r : W .u32 × Bool => (.tup [.val (.int .u32) r.1 (.no), .val (.bool) r.2 (.no)], [.undef, .undef, .undef]) }
def t_mul_Do : Nat → List (FnK tab)
  | 48 => [N_mul_Run]
  | 49 => [N_mul_New]
  | 50 => [N_mul_less]
  | _ => []
def q_mul_Do : Nat → Option (MarkK tab) := fun _ => none
def N_div_New : FnK tab := { sk := [.val (.int .u32) (.no), .val (.int .u32) (.no)], R := TDiv, f := fun a : W .u32 × W .u32 × Unit => F_div_New a.1 a.2.1, enc := fun r : TDiv => (.val (.named .TDiv) r (.no), [.undef, .undef]) }
def t_div_New : Nat → List (FnK tab) := fun _ => []
def q_div_New : Nat → Option (MarkK tab) := fun _ => none
def N_div_left : FnK tab := { sk := [.val (.int .i64) (.no)], R := W .i64, f := fun a : W .i64 × Unit => F_div_left a.1, enc := fun r : W .i64 => (.val (.int .i64) r (.no), [.undef]) }
def t_div_left : Nat → List (FnK tab) := fun _ => []
def q_div_left : Nat → Option (MarkK tab) := fun _ => none
def N_div_Step : FnK tab := { sk := [.val (.named .TDiv) (.no)], R := TDiv, f := fun a : TDiv × Unit => F_div_Step a.1, enc := fun r : TDiv => (.val (.named .TDiv) r (.no), [.undef]) }
def t_div_Step : Nat → List (FnK tab)
  | 67 => [N_div_left]
  | _ => []
def q_div_Step : Nat → Option (MarkK tab) := fun _ => none
def K_div_Run_5 : MarkK tab := { sk := [(1, .box (.named .TDiv) (.no)), (6, .val (.int .i64) (.no)), (7, .val (.int .i64) (.no))], outs := [((.exit 0), [(1, .box (.named .TDiv) (.no))])], f := fun a : TDiv × W .i64 × W .i64 × Unit => L_div_Run_5 a }
def N_div_Run : FnK tab := { sk := [.val (.named .TDiv) (.no)], R := W .u32 × W .u32, f := fun a : TDiv × Unit => F_div_Run a.1, enc := fun r : W .u32 × W .u32 => (.tup [.val (.int .u32) r.1 (.no), .val (.int .u32) r.2 (.no)], [.undef]) }
def t_div_Run : Nat → List (FnK tab)
  | 67 => [N_div_left]
  | 68 => [N_div_Step]
  | _ => []
def q_div_Run : Nat → Option (MarkK tab)
  | 5 => some K_div_Run_5
  | _ => none
def N_div_away : FnK tab := { sk := [.val (.int .u32) (.no)], R := W .u32, f := fun a : W .u32 × Unit => F_div_away a.1, enc := fun r : W .u32 => (.val (.int .u32) r (.no), [.undef]) }
def t_div_away : Nat → List (FnK tab) := fun _ => []
def q_div_away : Nat → Option (MarkK tab) := fun _ => none
def N_div_Do : FnK tab := { sk := [.val (.int .i64) (.no), .val (.int .u32) (.no), .val (.int .u32) (.no)], R := W .u32 × Bool, f := fun a : W .i64 × W .u32 × W .u32 × Unit => F_div_Do a.1 a.2.1 a.2.2.1, enc := fun r : W .u32 × Bool => (.tup [.val (.int .u32) r.1 (.no), .val (.bool) r.2 (.no)], [.undef, .undef, .undef]) }
def t_div_Do : Nat → List (FnK tab)
  | 51 => [N_div_Run]
  | 52 => [N_div_New]
  | 53 => [N_div_away]
  | _ => []
def q_div_Do : Nat → Option (MarkK tab) := fun _ => none
def N_alu_one : FnK tab := { sk := [.val (.bool) (.no)], R := W .u32, f := fun a : Bool × Unit => F_alu_one a.1, enc := fun r : W .u32 => (.val (.int .u32) r (.no), [.undef]) }
def t_alu_one : Nat → List (FnK tab) := fun _ => []
def q_alu_one : Nat → Option (MarkK tab) := fun _ => none
def K_alu_Clz_5 : MarkK tab := { sk := [(0, .val (.int .u32) (.no)), (3, .val (.int .i64) (.no))], outs := [((.exit 0), [(3, .val (.int .i64) (.no))])], f := fun a : W .u32 × W .i64 × Unit => L_alu_Clz_5 a }
def N_alu_Clz : FnK tab := { sk := [.val (.int .u32) (.no)], R := W .i64, f := fun a : W .u32 × Unit => F_alu_Clz a.1, enc := fun r : W .i64 => (.val (.int .i64) r (.no), [.undef]) }
def t_alu_Clz : Nat → List (FnK tab) := fun _ => []
def q_alu_Clz : Nat → Option (MarkK tab)
  | 5 => some K_alu_Clz_5
  | _ => none
def K_alu_Pop_5 : MarkK tab := { sk := [(0, .val (.int .u32) (.no)), (3, .val (.int .i64) (.no))], outs := [((.exit 0), [(3, .val (.int .i64) (.no))])], f := fun a : W .u32 × W .i64 × Unit => L_alu_Pop_5 a }
def N_alu_Pop : FnK tab := { sk := [.val (.int .u32) (.no)], R := W .i64, f := fun a : W .u32 × Unit => F_alu_Pop a.1, enc := fun r : W .i64 => (.val (.int .i64) r (.no), [.undef]) }
def t_alu_Pop : Nat → List (FnK tab) := fun _ => []
def q_alu_Pop : Nat → Option (MarkK tab)
  | 5 => some K_alu_Pop_5
  | _ => none
def N_alu_Rev : FnK tab := { sk := [.val (.int .u32) (.no)], R := W .u32, f := fun a : W .u32 × Unit => F_alu_Rev a.1, enc := fun r : W .u32 => (.val (.int .u32) r (.no), [.undef]) }
def t_alu_Rev : Nat → List (FnK tab) := fun _ => []
def q_alu_Rev : Nat → Option (MarkK tab) := fun _ => none
def N_alu_single : FnK tab := { sk := [.val (.int .i64) (.no), .val (.int .u32) (.no)], R := W .u32 × Bool, f := fun a : W .i64 × W .u32 × Unit => F_alu_single a.1 a.2.1, enc := fun r : W .u32 × Bool => (.tup [.val (.int .u32) r.1 (.no), .val (.bool) r.2 (.no)], [.undef, .undef]) }
def t_alu_single : Nat → List (FnK tab)
  | 69 => [N_alu_Clz]
  | 70 => [N_alu_Pop]
  | 71 => [N_alu_Rev]
  | _ => []
def q_alu_single : Nat → Option (MarkK tab) := fun _ => none
def N_alu_low : FnK tab := { sk := [.val (.int .u32) (.no)], R := W .u32, f := fun a : W .u32 × Unit => F_alu_low a.1, enc := fun r : W .u32 => (.val (.int .u32) r (.no), [.undef]) }
def t_alu_low : Nat → List (FnK tab) := fun _ => []
def q_alu_low : Nat → Option (MarkK tab) := fun _ => none
def N_bits_RotateLeft32 : FnK tab := { sk := [.val (.int .u32) (.no), .val (.int .i64) (.no)], R := W .u32, f := fun a : W .u32 × W .i64 × Unit => F_bits_RotateLeft32 a.1 a.2.1, enc := fun r : W .u32 => (.val (.int .u32) r (.no), [.undef, .undef]) }
def t_bits_RotateLeft32 : Nat → List (FnK tab) := fun _ => []
def q_bits_RotateLeft32 : Nat → Option (MarkK tab) := fun _ => none
def N_bits_Rot : FnK tab := { sk := [.val (.int .u32) (.no), .val (.int .i64) (.no)], R := W .u32, f := fun a : W .u32 × W .i64 × Unit => F_bits_Rot a.1 a.2.1, enc := fun r : W .u32 => (.val (.int .u32) r (.no), [.undef, .undef]) }
def t_bits_Rot : Nat → List (FnK tab)
  | 75 => [N_bits_RotateLeft32]
  | _ => []
def q_bits_Rot : Nat → Option (MarkK tab) := fun _ => none
def N_alu_logic : FnK tab := { sk := [.val (.int .i64) (.no), .val (.int .u32) (.no), .val (.int .u32) (.no)], R := W .u32 × Bool, f := fun a : W .i64 × W .u32 × W .u32 × Unit => F_alu_logic a.1 a.2.1 a.2.2.1, enc := fun r : W .u32 × Bool => (.tup [.val (.int .u32) r.1 (.no), .val (.bool) r.2 (.no)], [.undef, .undef, .undef]) }
def t_alu_logic : Nat → List (FnK tab)
  | 72 => [N_alu_low]
  | 73 => [N_bits_Rot]
  | _ => []
def q_alu_logic : Nat → Option (MarkK tab) := fun _ => none
def N_alu_Do : FnK tab := { sk := [.val (.int .i64) (.no), .val (.int .u32) (.no), .val (.int .u32) (.no)], R := W .u32 × Bool, f := fun a : W .i64 × W .u32 × W .u32 × Unit => F_alu_Do a.1 a.2.1 a.2.2.1, enc := fun r : W .u32 × Bool => (.tup [.val (.int .u32) r.1 (.no), .val (.bool) r.2 (.no)], [.undef, .undef, .undef]) }
def t_alu_Do : Nat → List (FnK tab)
  | 54 => [N_alu_one]
  | 55 => [N_alu_single]
  | 56 => [N_alu_logic]
  | _ => []
def q_alu_Do : Nat → Option (MarkK tab) := fun _ => none
def N_exec_two : FnK tab := { sk := [.val (.int .i64) (.no), .val (.int .u32) (.no), .val (.int .u32) (.no)], R := W .u32, f := fun a : W .i64 × W .u32 × W .u32 × Unit => F_exec_two a.1 a.2.1 a.2.2.1, enc := fun r : W .u32 => (.val (.int .u32) r (.no), [.undef, .undef, .undef]) }
def t_exec_two : Nat → List (FnK tab)
  | 35 => [N_mul_Do]
  | 36 => [N_div_Do]
  | 37 => [N_alu_Do]
  | _ => []
def q_exec_two : Nat → Option (MarkK tab) := fun _ => none
def N_alu_Cmov : FnK tab := { sk := [.val (.int .u32) (.no), .val (.int .u32) (.no), .val (.int .u32) (.no)], R := W .u32, f := fun a : W .u32 × W .u32 × W .u32 × Unit => F_alu_Cmov a.1 a.2.1 a.2.2.1, enc := fun r : W .u32 => (.val (.int .u32) r (.no), [.undef, .undef, .undef]) }
def t_alu_Cmov : Nat → List (FnK tab) := fun _ => []
def q_alu_Cmov : Nat → Option (MarkK tab) := fun _ => none
def N_alu_Taken : FnK tab := { sk := [.val (.int .i64) (.no), .val (.int .u32) (.no), .val (.int .u32) (.no)], R := Bool, f := fun a : W .i64 × W .u32 × W .u32 × Unit => F_alu_Taken a.1 a.2.1 a.2.2.1, enc := fun r : Bool => (.val (.bool) r (.no), [.undef, .undef, .undef]) }
def t_alu_Taken : Nat → List (FnK tab) := fun _ => []
def q_alu_Taken : Nat → Option (MarkK tab) := fun _ => none
def N_exec_ahead : FnK tab := { sk := [.val (.named .TUop) (.no)], R := W .u32, f := fun a : TUop × Unit => F_exec_ahead a.1, enc := fun r : W .u32 => (.val (.int .u32) r (.no), [.undef]) }
def t_exec_ahead : Nat → List (FnK tab) := fun _ => []
def q_exec_ahead : Nat → Option (MarkK tab) := fun _ => none
def N_exec_Do : FnK tab := { sk := [.val (.named .TUop) (.no), .val (.arr 3 (.int .u32)) (.no)], R := W .u32 × W .u32 × W .i64 × W .u32, f := fun a : TUop × Arr 3 (W .u32) × Unit => F_exec_Do a.1 a.2.1, enc := fun r : W .u32 × W .u32 × W .i64 × W .u32 => (.tup [.val (.int .u32) r.1 (.no), .val (.int .u32) r.2.1 (.no), .val (.int .i64) r.2.2.1 (.no), .val (.int .u32) r.2.2.2 (.no)], [.undef, .undef]) }
def t_exec_Do : Nat → List (FnK tab)
  | 21 => [N_exec_behind]
  | 22 => [N_exec_between]
  | 23 => [N_exec_two]
  | 24 => [N_alu_Cmov]
  | 25 => [N_alu_Taken]
  | 26 => [N_exec_ahead]
  | _ => []
def q_exec_Do : Nat → Option (MarkK tab) := fun _ => none
def N_ref04_signed : FnK tab := { sk := [.val (.int .u32) (.no)], R := W .i64, f := fun a : W .u32 × Unit => F_ref04_signed a.1, enc := fun r : W .i64 => (.val (.int .i64) r (.no), [.undef]) }
def t_ref04_signed : Nat → List (FnK tab) := fun _ => []
def q_ref04_signed : Nat → Option (MarkK tab) := fun _ => none
def N_ref04_Do : FnK tab := { sk := [.val (.int .i64) (.no), .val (.int .u32) (.no), .val (.int .u32) (.no)], R := W .u32 × Bool, f := fun a : W .i64 × W .u32 × W .u32 × Unit => F_ref04_Do a.1 a.2.1 a.2.2.1, enc := fun r : W .u32 × Bool => (.tup [.val (.int .u32) r.1 (.no), .val (.bool) r.2 (.no)], [.undef, .undef, .undef]) }
def t_ref04_Do : Nat → List (FnK tab)
  | 57 => [N_ref04_signed]
  | _ => []
def q_ref04_Do : Nat → Option (MarkK tab) := fun _ => none
def N_ref05_Do : FnK tab := { sk := [.val (.int .i64) (.no), .val (.int .u32) (.no), .val (.int .u32) (.no)], R := W .u32 × Bool, f := fun a : W .i64 × W .u32 × W .u32 × Unit => F_ref05_Do a.1 a.2.1 a.2.2.1, enc := fun r : W .u32 × Bool => (.tup [.val (.int .u32) r.1 (.no), .val (.bool) r.2 (.no)], [.undef, .undef, .undef]) }
def t_ref05_Do : Nat → List (FnK tab) := fun _ => []
def q_ref05_Do : Nat → Option (MarkK tab) := fun _ => none
def N_ref03_Cmov : FnK tab := { sk := [.val (.int .u32) (.no), .val (.int .u32) (.no), .val (.int .u32) (.no)], R := W .u32, f := fun a : W .u32 × W .u32 × W .u32 × Unit => F_ref03_Cmov a.1 a.2.1 a.2.2.1, enc := fun r : W .u32 => (.val (.int .u32) r (.no), [.undef, .undef, .undef]) }
def t_ref03_Cmov : Nat → List (FnK tab) := fun _ => []
def q_ref03_Cmov : Nat → Option (MarkK tab) := fun _ => none
def K_ref03_bit_5 : MarkK tab := { sk := [(0, .val (.int .u32) (.no)), (1, .val (.int .i64) (.no)), (5, .val (.int .i64) (.no))], outs := [((.exit 0), [(0, .val (.int .u32) (.no))])], f := fun a : W .u32 × W .i64 × W .i64 × Unit => L_ref03_bit_5 a }
def N_ref03_bit : FnK tab := { sk := [.val (.int .u32) (.no), .val (.int .i64) (.no)], R := W .u32, f := fun a : W .u32 × W .i64 × Unit => F_ref03_bit a.1 a.2.1, enc := fun r : W .u32 => (.val (.int .u32) r (.no), [.undef, .undef]) }
def t_ref03_bit : Nat → List (FnK tab) := fun _ => []
def q_ref03_bit : Nat → Option (MarkK tab)
  | 5 => some K_ref03_bit_5
  | _ => none
def K_ref03_word_7 : MarkK tab := { sk := [(1, .box (.arr 32 (.int .u32)) (.no)), (3, .val (.int .u32) (.no)), (4, .val (.int .i64) (.no))], outs := [((.exit 0), [(3, .val (.int .u32) (.no))])], f := fun a : Arr 32 (W .u32) × W .u32 × W .i64 × Unit => L_ref03_word_7 a }
def N_ref03_word : FnK tab := { sk := [.val (.arr 32 (.int .u32)) (.no)], R := W .u32, f := fun a : Arr 32 (W .u32) × Unit => F_ref03_word a.1, enc := fun r : W .u32 => (.val (.int .u32) r (.no), [.undef]) }
def t_ref03_word : Nat → List (FnK tab) := fun _ => []
def q_ref03_word : Nat → Option (MarkK tab)
  | 7 => some K_ref03_word_7
  | _ => none
def K_ref03_logic_7 : MarkK tab := { sk := [(0, .val (.int .u32) (.no)), (1, .val (.int .u32) (.no)), (2, .val (.int .u32) (.no)), (3, .val (.int .u32) (.no)), (9, .box (.arr 32 (.int .u32)) (.no)), (10, .val (.int .i64) (.no)), (27, .undef), (28, .undef), (29, .undef)], outs := [((.exit 0), [(9, .box (.arr 32 (.int .u32)) (.no))])], f := fun a : W .u32 × W .u32 × W .u32 × W .u32 × Arr 32 (W .u32) × W .i64 × Unit × Unit × Unit × Unit => L_ref03_logic_7 a }
def N_ref03_logic : FnK tab := { sk := [.val (.int .u32) (.no), .val (.int .u32) (.no), .val (.int .u32) (.no), .val (.int .u32) (.no)], R := W .u32, f := fun a : W .u32 × W .u32 × W .u32 × W .u32 × Unit => F_ref03_logic a.1 a.2.1 a.2.2.1 a.2.2.2.1, enc := fun r : W .u32 => (.val (.int .u32) r (.no), [.undef, .undef, .undef, .undef]) }
def t_ref03_logic : Nat → List (FnK tab)
  | 60 => [N_ref03_bit]
  | 74 => [N_ref03_word]
  | _ => []
def q_ref03_logic : Nat → Option (MarkK tab)
  | 7 => some K_ref03_logic_7
  | _ => none
def K_ref03_moved_7 : MarkK tab := { sk := [(0, .val (.int .u32) (.no)), (1, .val (.int .i64) (.no)), (2, .val (.int .u32) (.no)), (7, .box (.arr 32 (.int .u32)) (.no)), (8, .val (.int .i64) (.no)), (21, .undef), (22, .undef), (23, .undef), (24, .undef)], outs := [((.exit 0), [(7, .box (.arr 32 (.int .u32)) (.no))])], f := fun a : W .u32 × W .i64 × W .u32 × Arr 32 (W .u32) × W .i64 × Unit × Unit × Unit × Unit × Unit => L_ref03_moved_7 a }
def N_ref03_moved : FnK tab := { sk := [.val (.int .u32) (.no), .val (.int .i64) (.no), .val (.int .u32) (.no)], R := W .u32, f := fun a : W .u32 × W .i64 × W .u32 × Unit => F_ref03_moved a.1 a.2.1 a.2.2.1, enc := fun r : W .u32 => (.val (.int .u32) r (.no), [.undef, .undef, .undef]) }
def t_ref03_moved : Nat → List (FnK tab)
  | 60 => [N_ref03_bit]
  | 74 => [N_ref03_word]
  | _ => []
def q_ref03_moved : Nat → Option (MarkK tab)
  | 7 => some K_ref03_moved_7
  | _ => none
def N_ref03_signed : FnK tab := { sk := [.val (.int .u32) (.no)], R := W .i64, f := fun a : W .u32 × Unit => F_ref03_signed a.1, enc := fun r : W .i64 => (.val (.int .i64) r (.no), [.undef]) }
def t_ref03_signed : Nat → List (FnK tab) := fun _ => []
def q_ref03_signed : Nat → Option (MarkK tab) := fun _ => none
def N_ref03_one : FnK tab := { sk := [.val (.bool) (.no)], R := W .u32, f := fun a : Bool × Unit => F_ref03_one a.1, enc := fun r : W .u32 => (.val (.int .u32) r (.no), [.undef]) }
def t_ref03_one : Nat → List (FnK tab) := fun _ => []
def q_ref03_one : Nat → Option (MarkK tab) := fun _ => none
def K_ref03_turned_7 : MarkK tab := { sk := [(0, .val (.int .u32) (.no)), (1, .val (.int .i64) (.no)), (5, .box (.arr 32 (.int .u32)) (.no)), (6, .val (.int .i64) (.no))], outs := [((.exit 0), [(5, .box (.arr 32 (.int .u32)) (.no))])], f := fun a : W .u32 × W .i64 × Arr 32 (W .u32) × W .i64 × Unit => L_ref03_turned_7 a }
def N_ref03_turned : FnK tab := { sk := [.val (.int .u32) (.no), .val (.int .i64) (.no)], R := W .u32, f := fun a : W .u32 × W .i64 × Unit => F_ref03_turned a.1 a.2.1, enc := fun r : W .u32 => (.val (.int .u32) r (.no), [.undef, .undef]) }
def t_ref03_turned : Nat → List (FnK tab)
  | 60 => [N_ref03_bit]
  | 74 => [N_ref03_word]
  | _ => []
def q_ref03_turned : Nat → Option (MarkK tab)
  | 7 => some K_ref03_turned_7
  | _ => none
def K_ref03_Clz_5 : MarkK tab := { sk := [(0, .val (.int .u32) (.no)), (3, .val (.int .i64) (.no)), (7, .undef), (8, .undef), (9, .undef), (10, .undef), (11, .undef)], outs := [((.exit 0), [(3, .val (.int .i64) (.no))])], f := fun a : W .u32 × W .i64 × Unit × Unit × Unit × Unit × Unit × Unit => L_ref03_Clz_5 a }
def N_ref03_Clz : FnK tab := { sk := [.val (.int .u32) (.no)], R := W .i64, f := fun a : W .u32 × Unit => F_ref03_Clz a.1, enc := fun r : W .i64 => (.val (.int .i64) r (.no), [.undef]) }
def t_ref03_Clz : Nat → List (FnK tab)
  | 60 => [N_ref03_bit]
  | _ => []
def q_ref03_Clz : Nat → Option (MarkK tab)
  | 5 => some K_ref03_Clz_5
  | _ => none
def K_ref03_Pop_7 : MarkK tab := { sk := [(0, .val (.int .u32) (.no)), (3, .val (.int .i64) (.no)), (4, .val (.int .i64) (.no))], outs := [((.exit 0), [(3, .val (.int .i64) (.no))])], f := fun a : W .u32 × W .i64 × W .i64 × Unit => L_ref03_Pop_7 a }
def N_ref03_Pop : FnK tab := { sk := [.val (.int .u32) (.no)], R := W .i64, f := fun a : W .u32 × Unit => F_ref03_Pop a.1, enc := fun r : W .i64 => (.val (.int .i64) r (.no), [.undef]) }
def t_ref03_Pop : Nat → List (FnK tab)
  | 60 => [N_ref03_bit]
  | _ => []
def q_ref03_Pop : Nat → Option (MarkK tab)
  | 7 => some K_ref03_Pop_7
  | _ => none
def K_ref03_Rev_7 : MarkK tab := { sk := [(0, .val (.int .u32) (.no)), (3, .val (.int .u32) (.no)), (4, .val (.int .i64) (.no))], outs := [((.exit 0), [(3, .val (.int .u32) (.no))])], f := fun a : W .u32 × W .u32 × W .i64 × Unit => L_ref03_Rev_7 a }
def N_ref03_Rev : FnK tab := { sk := [.val (.int .u32) (.no)], R := W .u32, f := fun a : W .u32 × Unit => F_ref03_Rev a.1, enc := fun r : W .u32 => (.val (.int .u32) r (.no), [.undef]) }
def t_ref03_Rev : Nat → List (FnK tab) := fun _ => []
def q_ref03_Rev : Nat → Option (MarkK tab)
  | 7 => some K_ref03_Rev_7
  | _ => none
def N_ref03_Do : FnK tab := { sk := [.val (.int .i64) (.no), .val (.int .u32) (.no), .val (.int .u32) (.no)], R := W .u32 × Bool, f := fun a : W .i64 × W .u32 × W .u32 × Unit => F_ref03_Do a.1 a.2.1 a.2.2.1, enc := fun r : W .u32 × Bool => (.tup [.val (.int .u32) r.1 (.no), .val (.bool) r.2 (.no)], [.undef, .undef, .undef]) }
def t_ref03_Do : Nat → List (FnK tab)
  | 42 => [N_ref03_signed]
  | 58 => [N_ref03_logic]
  | 59 => [N_ref03_moved]
  | 60 => [N_ref03_bit]
  | 61 => [N_ref03_one]
  | 62 => [N_ref03_turned]
  | 63 => [N_ref03_Clz]
  | 64 => [N_ref03_Pop]
  | 65 => [N_ref03_Rev]
  | _ => []
def q_ref03_Do : Nat → Option (MarkK tab) := fun _ => none
def N_ref32_value : FnK tab := { sk := [.val (.named .TInst) (.no), .val (.arr 3 (.int .u32)) (.no)], R := W .u32, f := fun a : TInst × Arr 3 (W .u32) × Unit => F_ref32_value a.1 a.2.1, enc := fun r : W .u32 => (.val (.int .u32) r (.no), [.undef, .undef]) }
def t_ref32_value : Nat → List (FnK tab)
  | 38 => [N_ref04_Do]
  | 39 => [N_ref05_Do]
  | 40 => [N_ref03_Cmov]
  | 41 => [N_ref03_Do]
  | _ => []
def q_ref32_value : Nat → Option (MarkK tab) := fun _ => none
def N_ref03_Taken : FnK tab := { sk := [.val (.int .i64) (.no), .val (.int .u32) (.no), .val (.int .u32) (.no)], R := Bool, f := fun a : W .i64 × W .u32 × W .u32 × Unit => F_ref03_Taken a.1 a.2.1 a.2.2.1, enc := fun r : Bool => (.val (.bool) r (.no), [.undef, .undef, .undef]) }
def t_ref03_Taken : Nat → List (FnK tab)
  | 42 => [N_ref03_signed]
  | _ => []
def q_ref03_Taken : Nat → Option (MarkK tab) := fun _ => none
def N_ref32_Do : FnK tab := { sk := [.val (.named .TUop) (.no), .val (.arr 3 (.int .u32)) (.no)], R := W .u32 × W .u32 × W .i64 × W .u32, f := fun a : TUop × Arr 3 (W .u32) × Unit => F_ref32_Do a.1 a.2.1, enc := fun r : W .u32 × W .u32 × W .i64 × W .u32 => (.tup [.val (.int .u32) r.1 (.no), .val (.int .u32) r.2.1 (.no), .val (.int .i64) r.2.2.1 (.no), .val (.int .u32) r.2.2.2 (.no)], [.undef, .undef]) }
def t_ref32_Do : Nat → List (FnK tab)
  | 27 => [N_ref32_value]
  | 28 => [N_ref03_Taken]
  | _ => []
def q_ref32_Do : Nat → Option (MarkK tab) := fun _ => none
def N_exec_Wrong : FnK tab := { sk := [.val (.named .TUop) (.no), .val (.int .u32) (.no)], R := Bool, f := fun a : TUop × W .u32 × Unit => F_exec_Wrong a.1 a.2.1, enc := fun r : Bool => (.val (.bool) r (.no), [.undef, .undef]) }
def t_exec_Wrong : Nat → List (FnK tab)
  | 21 => [N_exec_behind]
  | _ => []
def q_exec_Wrong : Nat → Option (MarkK tab) := fun _ => none
def N_ref32_Wrong : FnK tab := { sk := [.val (.named .TUop) (.no), .val (.int .u32) (.no)], R := Bool, f := fun a : TUop × W .u32 × Unit => F_ref32_Wrong a.1 a.2.1, enc := fun r : Bool => (.val (.bool) r (.no), [.undef, .undef]) }
def t_ref32_Wrong : Nat → List (FnK tab) := fun _ => []
def q_ref32_Wrong : Nat → Option (MarkK tab) := fun _ => none
def N_bits_clamp : FnK tab := { sk := [.val (.int .i64) (.no), .val (.int .i64) (.no), .val (.int .i64) (.no)], R := W .i64, f := fun a : W .i64 × W .i64 × W .i64 × Unit => F_bits_clamp a.1 a.2.1 a.2.2.1, enc := fun r : W .i64 => (.val (.int .i64) r (.no), [.undef, .undef, .undef]) }
def t_bits_clamp : Nat → List (FnK tab) := fun _ => []
def q_bits_clamp : Nat → Option (MarkK tab) := fun _ => none
def N_bits_Sext : FnK tab := { sk := [.val (.int .u32) (.no), .val (.int .i64) (.no)], R := W .u32, f := fun a : W .u32 × W .i64 × Unit => F_bits_Sext a.1 a.2.1, enc := fun r : W .u32 => (.val (.int .u32) r (.no), [.undef, .undef]) }
def t_bits_Sext : Nat → List (FnK tab)
  | 44 => [N_bits_clamp]
  | _ => []
def q_bits_Sext : Nat → Option (MarkK tab) := fun _ => none
def N_bits_ones : FnK tab := { sk := [.val (.int .i64) (.no)], R := W .u32, f := fun a : W .i64 × Unit => F_bits_ones a.1, enc := fun r : W .u32 => (.val (.int .u32) r (.no), [.undef]) }
def t_bits_ones : Nat → List (FnK tab) := fun _ => []
def q_bits_ones : Nat → Option (MarkK tab) := fun _ => none
def N_bits_Zext : FnK tab := { sk := [.val (.int .u32) (.no), .val (.int .i64) (.no)], R := W .u32, f := fun a : W .u32 × W .i64 × Unit => F_bits_Zext a.1 a.2.1, enc := fun r : W .u32 => (.val (.int .u32) r (.no), [.undef, .undef]) }
def t_bits_Zext : Nat → List (FnK tab)
  | 43 => [N_bits_ones]
  | 44 => [N_bits_clamp]
  | _ => []
def q_bits_Zext : Nat → Option (MarkK tab) := fun _ => none
def N_exec_Ext : FnK tab := { sk := [.val (.int .i64) (.no), .val (.int .u32) (.no)], R := W .u32, f := fun a : W .i64 × W .u32 × Unit => F_exec_Ext a.1 a.2.1, enc := fun r : W .u32 => (.val (.int .u32) r (.no), [.undef, .undef]) }
def t_exec_Ext : Nat → List (FnK tab)
  | 30 => [N_bits_Zext]
  | 32 => [N_bits_Sext]
  | _ => []
def q_exec_Ext : Nat → Option (MarkK tab) := fun _ => none
def N_law32_awake : FnK tab := { sk := [], R := Bool, f := fun a : Unit => F_law32_awake, enc := fun r : Bool => (.val (.bool) r (.no), []) }
def t_law32_awake : Nat → List (FnK tab)
  | 7 => [N_exec_Do]
  | 9 => [N_exec_Wrong]
  | 17 => [N_exec_Ext]
  | _ => []
def q_law32_awake : Nat → Option (MarkK tab) := fun _ => none
def N_law32_ExecDoes : FnK tab := { sk := [.val (.named .TUop) (.no), .val (.arr 3 (.int .u32)) (.no), .val (.int .u32) (.no)], R := Bool, f := fun a : TUop × Arr 3 (W .u32) × W .u32 × Unit => F_law32_ExecDoes a.1 a.2.1 a.2.2.1, enc := fun r : Bool => (.val (.bool) r (.no), [.undef, .undef, .undef]) }
def t_law32_ExecDoes : Nat → List (FnK tab)
  | 7 => [N_exec_Do]
  | 8 => [N_ref32_Do]
  | 9 => [N_exec_Wrong]
  | 10 => [N_ref32_Wrong]
  | 11 => [N_law32_awake]
  | _ => []
def q_law32_ExecDoes : Nat → Option (MarkK tab) := fun _ => none
def N_pred_Next : FnK tab := { sk := [.val (.named .TSlot) (.no)], R := W .u32, f := fun a : TSlot × Unit => F_pred_Next a.1, enc := fun r : W .u32 => (.val (.int .u32) r (.no), [.undef]) }
def t_pred_Next : Nat → List (FnK tab) := fun _ => []
def q_pred_Next : Nat → Option (MarkK tab) := fun _ => none
def N_law32_ExecGuess : FnK tab := { sk := [.val (.named .TUop) (.no), .val (.int .u32) (.no)], R := Bool, f := fun a : TUop × W .u32 × Unit => F_law32_ExecGuess a.1 a.2.1, enc := fun r : Bool => (.val (.bool) r (.no), [.undef, .undef]) }
def t_law32_ExecGuess : Nat → List (FnK tab)
  | 9 => [N_exec_Wrong]
  | 11 => [N_law32_awake]
  | 12 => [N_pred_Next]
  | _ => []
def q_law32_ExecGuess : Nat → Option (MarkK tab) := fun _ => none
def N_crack_Size : FnK tab := { sk := [.val (.int .i64) (.no)], R := W .i64, f := fun a : W .i64 × Unit => F_crack_Size a.1, enc := fun r : W .i64 => (.val (.int .i64) r (.no), [.undef]) }
def t_crack_Size : Nat → List (FnK tab) := fun _ => []
def q_crack_Size : Nat → Option (MarkK tab) := fun _ => none
def N_exec_Addr : FnK tab := { sk := [.val (.named .TUop) (.no), .val (.arr 3 (.int .u32)) (.no)], R := W .u32 × W .i64, f := fun a : TUop × Arr 3 (W .u32) × Unit => F_exec_Addr a.1 a.2.1, enc := fun r : W .u32 × W .i64 => (.tup [.val (.int .u32) r.1 (.no), .val (.int .i64) r.2 (.no)], [.undef, .undef]) }
def t_exec_Addr : Nat → List (FnK tab)
  | 19 => [N_crack_Size]
  | 22 => [N_exec_between]
  | _ => []
def q_exec_Addr : Nat → Option (MarkK tab) := fun _ => none
def N_ref24_Size : FnK tab := { sk := [.val (.int .i64) (.no)], R := W .i64, f := fun a : W .i64 × Unit => F_ref24_Size a.1, enc := fun r : W .i64 => (.val (.int .i64) r (.no), [.undef]) }
def t_ref24_Size : Nat → List (FnK tab) := fun _ => []
def q_ref24_Size : Nat → Option (MarkK tab) := fun _ => none
def N_ref32_Addr : FnK tab := { sk := [.val (.named .TUop) (.no), .val (.arr 3 (.int .u32)) (.no)], R := W .u32 × W .i64, f := fun a : TUop × Arr 3 (W .u32) × Unit => F_ref32_Addr a.1 a.2.1, enc := fun r : W .u32 × W .i64 => (.tup [.val (.int .u32) r.1 (.no), .val (.int .i64) r.2 (.no)], [.undef, .undef]) }
def t_ref32_Addr : Nat → List (FnK tab)
  | 29 => [N_ref24_Size]
  | _ => []
def q_ref32_Addr : Nat → Option (MarkK tab) := fun _ => none
def N_exec_Data : FnK tab := { sk := [.val (.named .TUop) (.no), .val (.arr 3 (.int .u32)) (.no)], R := W .u32, f := fun a : TUop × Arr 3 (W .u32) × Unit => F_exec_Data a.1 a.2.1, enc := fun r : W .u32 => (.val (.int .u32) r (.no), [.undef, .undef]) }
def t_exec_Data : Nat → List (FnK tab)
  | 19 => [N_crack_Size]
  | 22 => [N_exec_between]
  | 30 => [N_bits_Zext]
  | _ => []
def q_exec_Data : Nat → Option (MarkK tab) := fun _ => none
def N_ref01_brought : FnK tab := { sk := [.val (.int .i64) (.no), .val (.int .i64) (.no), .val (.int .i64) (.no)], R := W .i64, f := fun a : W .i64 × W .i64 × W .i64 × Unit => F_ref01_brought a.1 a.2.1 a.2.2.1, enc := fun r : W .i64 => (.val (.int .i64) r (.no), [.undef, .undef, .undef]) }
def t_ref01_brought : Nat → List (FnK tab) := fun _ => []
def q_ref01_brought : Nat → Option (MarkK tab) := fun _ => none
def K_ref01_power_7 : MarkK tab := { sk := [(0, .val (.int .i64) (.no)), (3, .val (.int .u32) (.no)), (4, .val (.int .i64) (.no))], outs := [((.exit 0), [(3, .val (.int .u32) (.no))])], f := fun a : W .i64 × W .u32 × W .i64 × Unit => L_ref01_power_7 a }
def N_ref01_power : FnK tab := { sk := [.val (.int .i64) (.no)], R := W .u32, f := fun a : W .i64 × Unit => F_ref01_power a.1, enc := fun r : W .u32 => (.val (.int .u32) r (.no), [.undef]) }
def t_ref01_power : Nat → List (FnK tab) := fun _ => []
def q_ref01_power : Nat → Option (MarkK tab)
  | 7 => some K_ref01_power_7
  | _ => none
def N_ref01_bit : FnK tab := { sk := [.val (.int .u32) (.no), .val (.int .i64) (.no)], R := W .u32, f := fun a : W .u32 × W .i64 × Unit => F_ref01_bit a.1 a.2.1, enc := fun r : W .u32 => (.val (.int .u32) r (.no), [.undef, .undef]) }
def t_ref01_bit : Nat → List (FnK tab)
  | 47 => [N_ref01_power]
  | _ => []
def q_ref01_bit : Nat → Option (MarkK tab) := fun _ => none
def K_ref01_Zext_9 : MarkK tab := { sk := [(0, .val (.int .u32) (.no)), (1, .val (.int .i64) (.no)), (5, .val (.int .u32) (.no)), (6, .val (.int .i64) (.no))], outs := [((.exit 0), [(5, .val (.int .u32) (.no))])], f := fun a : W .u32 × W .i64 × W .u32 × W .i64 × Unit => L_ref01_Zext_9 a }
def N_ref01_Zext : FnK tab := { sk := [.val (.int .u32) (.no), .val (.int .i64) (.no)], R := W .u32, f := fun a : W .u32 × W .i64 × Unit => F_ref01_Zext a.1 a.2.1, enc := fun r : W .u32 => (.val (.int .u32) r (.no), [.undef, .undef]) }
def t_ref01_Zext : Nat → List (FnK tab)
  | 45 => [N_ref01_brought]
  | 46 => [N_ref01_bit]
  | 47 => [N_ref01_power]
  | _ => []
def q_ref01_Zext : Nat → Option (MarkK tab)
  | 9 => some K_ref01_Zext_9
  | _ => none
def N_ref32_Data : FnK tab := { sk := [.val (.named .TUop) (.no), .val (.arr 3 (.int .u32)) (.no)], R := W .u32, f := fun a : TUop × Arr 3 (W .u32) × Unit => F_ref32_Data a.1 a.2.1, enc := fun r : W .u32 => (.val (.int .u32) r (.no), [.undef, .undef]) }
def t_ref32_Data : Nat → List (FnK tab)
  | 29 => [N_ref24_Size]
  | 31 => [N_ref01_Zext]
  | _ => []
def q_ref32_Data : Nat → Option (MarkK tab) := fun _ => none
def K_ref01_Sext_15 : MarkK tab := { sk := [(5, .val (.int .u32) (.no)), (6, .val (.int .i64) (.no))], outs := [((.exit 0), [(5, .val (.int .u32) (.no))])], f := fun a : W .u32 × W .i64 × Unit => L_ref01_Sext_15 a }
def N_ref01_Sext : FnK tab := { sk := [.val (.int .u32) (.no), .val (.int .i64) (.no)], R := W .u32, f := fun a : W .u32 × W .i64 × Unit => F_ref01_Sext a.1 a.2.1, enc := fun r : W .u32 => (.val (.int .u32) r (.no), [.undef, .undef]) }
def t_ref01_Sext : Nat → List (FnK tab)
  | 31 => [N_ref01_Zext]
  | 45 => [N_ref01_brought]
  | 46 => [N_ref01_bit]
  | 47 => [N_ref01_power]
  | _ => []
def q_ref01_Sext : Nat → Option (MarkK tab)
  | 15 => some K_ref01_Sext_15
  | _ => none
def N_ref32_Ext : FnK tab := { sk := [.val (.int .i64) (.no), .val (.int .u32) (.no)], R := W .u32, f := fun a : W .i64 × W .u32 × Unit => F_ref32_Ext a.1 a.2.1, enc := fun r : W .u32 => (.val (.int .u32) r (.no), [.undef, .undef]) }
def t_ref32_Ext : Nat → List (FnK tab)
  | 31 => [N_ref01_Zext]
  | 33 => [N_ref01_Sext]
  | _ => []
def q_ref32_Ext : Nat → Option (MarkK tab) := fun _ => none
def N_law32_ExecMoves : FnK tab := { sk := [.val (.named .TUop) (.no), .val (.arr 3 (.int .u32)) (.no), .val (.int .u32) (.no)], R := Bool, f := fun a : TUop × Arr 3 (W .u32) × W .u32 × Unit => F_law32_ExecMoves a.1 a.2.1 a.2.2.1, enc := fun r : Bool => (.val (.bool) r (.no), [.undef, .undef, .undef]) }
def t_law32_ExecMoves : Nat → List (FnK tab)
  | 11 => [N_law32_awake]
  | 13 => [N_exec_Addr]
  | 14 => [N_ref32_Addr]
  | 15 => [N_exec_Data]
  | 16 => [N_ref32_Data]
  | 17 => [N_exec_Ext]
  | 18 => [N_ref32_Ext]
  | _ => []
def q_law32_ExecMoves : Nat → Option (MarkK tab) := fun _ => none
def N_crack_Serial : FnK tab := { sk := [.val (.int .i64) (.no)], R := Bool, f := fun a : W .i64 × Unit => F_crack_Serial a.1, enc := fun r : Bool => (.val (.bool) r (.no), [.undef]) }
def t_crack_Serial : Nat → List (FnK tab) := fun _ => []
def q_crack_Serial : Nat → Option (MarkK tab) := fun _ => none
def N_crack_Unit : FnK tab := { sk := [.val (.int .i64) (.no)], R := W .i64, f := fun a : W .i64 × Unit => F_crack_Unit a.1, enc := fun r : W .i64 => (.val (.int .i64) r (.no), [.undef]) }
def t_crack_Unit : Nat → List (FnK tab)
  | 34 => [N_crack_Serial]
  | _ => []
def q_crack_Unit : Nat → Option (MarkK tab) := fun _ => none
def N_law32_ExecLoads : FnK tab := { sk := [.val (.int .i64) (.no), .val (.int .u32) (.no), .val (.int .u32) (.no)], R := Bool, f := fun a : W .i64 × W .u32 × W .u32 × Unit => F_law32_ExecLoads a.1 a.2.1 a.2.2.1, enc := fun r : Bool => (.val (.bool) r (.no), [.undef, .undef, .undef]) }
def t_law32_ExecLoads : Nat → List (FnK tab)
  | 11 => [N_law32_awake]
  | 17 => [N_exec_Ext]
  | 19 => [N_crack_Size]
  | 20 => [N_crack_Unit]
  | _ => []
def q_law32_ExecLoads : Nat → Option (MarkK tab) := fun _ => none
end Go.Proofs.Ytcinobbeapgklaa
