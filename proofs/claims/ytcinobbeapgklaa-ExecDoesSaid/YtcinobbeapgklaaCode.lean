/- YtcinobbeapgklaaCode: the functions' code for the machine. No statement of the seat is proved here. -/
import Derived.Test.YtcinobbeapgklaaTypes
import Derived.Test.YtcinobbeapgklaaA2D
namespace Go.Proofs.Ytcinobbeapgklaa
open Go Go.A2
def b_exec_behind : ACode tab :=
 .seq (.region [⟨(some 1), .box (.named .TUop) (.v 0), none⟩,
  ⟨(some 2), .move (.c (.val (.int .u32) (W.of .u32 0) (.no))), none⟩])
 (.seq (.region [⟨(some 3), .fld .TUop 1 (.v 1), none⟩,
  ⟨(some 4), .fld .TSlot 0 (.t 3), none⟩,
  ⟨(some 5), .load (.int .u32) (.t 4), none⟩,
  ⟨(some 6), .bin .add (.t 5) (.c (.val (.int .u32) (W.of .u32 4) (.no))), none⟩,
  ⟨(some 2), .move (.t 6), none⟩])
 (.ret))
def g_exec_behind : AFn tab := { np := 1, keep := [0, 1, 2], lent := [], body := b_exec_behind, res := [(.tmp 2, true)] }
def x_exec_behind : FnX := { keep := [0, 1, 2], lent := [], res := [true], marks := [] }
def b_exec_between : ACode tab :=
 .seq (.region [⟨(some 6), .move (.c (.val (.bool) false (.no))), none⟩])
 (.seq (.region [⟨(some 7), .move (.v 0), none⟩,
  ⟨(some 8), .move (.v 1), none⟩,
  ⟨(some 9), .bin .geq (.t 7) (.t 8), none⟩,
  ⟨(some 10), .move (.t 9), none⟩,
  ⟨(some 11), .move (.v 0), (some (10, true))⟩,
  ⟨(some 12), .move (.v 2), (some (10, true))⟩,
  ⟨(some 13), .bin .leq (.t 11) (.t 12), (some (10, true))⟩,
  ⟨(some 14), .pick (.t 10) (.t 13) (.c (.val (.bool) false (.no))), none⟩,
  ⟨(some 6), .move (.t 14), none⟩])
 (.ret))
def g_exec_between : AFn tab := { np := 3, keep := [0, 1, 2, 6], lent := [], body := b_exec_between, res := [(.tmp 6, true)] }
def x_exec_between : FnX := { keep := [0, 1, 2, 6], lent := [], res := [true], marks := [] }
def b_mul_New : ACode tab :=
 .seq (.region [⟨(some 4), .alloc (.named .TMul), none⟩])
 (.seq (.region [⟨(some 5), .move (.v 0), none⟩,
  ⟨(some 6), .move (.v 1), none⟩,
  ⟨(some 7), .build .TMul [(0, (.t 5)), (1, (.t 6)), (4, (.c (.val (.int .i64) (W.of .i64 32) (.no))))], none⟩,
  ⟨none, .store (.named .TMul) (.v 4) (.t 7), none⟩])
 (.ret))
def g_mul_New : AFn tab := { np := 2, keep := [0, 1, 4], lent := [], body := b_mul_New, res := [(.cell 4 (.named .TMul), true)] }
def x_mul_New : FnX := { keep := [0, 1, 4], lent := [], res := [true], marks := [] }
def b_mul_Step : ACode tab :=
 .seq (.region [⟨(some 1), .box (.named .TMul) (.v 0), none⟩,
  ⟨(some 2), .alloc (.named .TMul), none⟩])
 (.seq (.seq (.region [⟨(some 5), .fld .TMul 4 (.v 1), none⟩,
  ⟨(some 6), .load (.int .i64) (.t 5), none⟩,
  ⟨(some 7), .bin .lss (.t 6) (.c (.val (.int .i64) (W.of .i64 1) (.no))), none⟩])
 (.cond (.v 7) (.seq (.region [⟨(some 8), .load (.named .TMul) (.v 1), none⟩,
  ⟨none, .store (.named .TMul) (.v 2) (.t 8), none⟩])
 (.ret))
 (.skip)))
 (.seq (.region [⟨(some 9), .fld .TMul 2 (.v 1), none⟩,
  ⟨(some 10), .load (.int .u32) (.t 9), none⟩,
  ⟨(some 11), .conv .u64 (.t 10), none⟩,
  ⟨(some 3), .move (.t 11), none⟩])
 (.seq (.seq (.region [⟨(some 12), .fld .TMul 1 (.v 1), none⟩,
  ⟨(some 13), .load (.int .u32) (.t 12), none⟩,
  ⟨(some 14), .bin .and (.t 13) (.c (.val (.int .u32) (W.of .u32 1) (.no))), none⟩,
  ⟨(some 15), .bin .eql (.t 14) (.c (.val (.int .u32) (W.of .u32 1) (.no))), none⟩])
 (.cond (.v 15) (.region [⟨(some 16), .move (.v 3), none⟩,
  ⟨(some 17), .fld .TMul 0 (.v 1), none⟩,
  ⟨(some 18), .load (.int .u32) (.t 17), none⟩,
  ⟨(some 19), .conv .u64 (.t 18), none⟩,
  ⟨(some 20), .bin .add (.t 16) (.t 19), none⟩,
  ⟨(some 3), .move (.t 20), none⟩])
 (.skip)))
 (.seq (.region [⟨(some 21), .move (.v 3), none⟩,
  ⟨(some 22), .bin .shl (.t 21) (.c (.val (.int .u64) (W.of .u64 32) (.no))), none⟩,
  ⟨(some 23), .fld .TMul 3 (.v 1), none⟩,
  ⟨(some 24), .load (.int .u32) (.t 23), none⟩,
  ⟨(some 25), .conv .u64 (.t 24), none⟩,
  ⟨(some 26), .bin .or (.t 22) (.t 25), none⟩,
  ⟨(some 4), .move (.t 26), none⟩])
 (.seq (.region [⟨(some 27), .move (.v 3), none⟩,
  ⟨(some 28), .bin .shr (.t 27) (.c (.val (.int .u64) (W.of .u64 1) (.no))), none⟩,
  ⟨(some 29), .conv .u32 (.t 28), none⟩,
  ⟨(some 30), .move (.v 4), none⟩,
  ⟨(some 31), .bin .shr (.t 30) (.c (.val (.int .u64) (W.of .u64 1) (.no))), none⟩,
  ⟨(some 32), .conv .u32 (.t 31), none⟩,
  ⟨(some 33), .fld .TMul 2 (.v 1), none⟩,
  ⟨none, .store (.int .u32) (.t 33) (.t 29), none⟩,
  ⟨(some 34), .fld .TMul 3 (.v 1), none⟩,
  ⟨none, .store (.int .u32) (.t 34) (.t 32), none⟩])
 (.seq (.region [⟨(some 35), .fld .TMul 1 (.v 1), none⟩,
  ⟨(some 36), .load (.int .u32) (.t 35), none⟩,
  ⟨(some 37), .bin .shr (.t 36) (.c (.val (.int .u64) (W.of .u64 1) (.no))), none⟩,
  ⟨(some 38), .fld .TMul 1 (.v 1), none⟩,
  ⟨none, .store (.int .u32) (.t 38) (.t 37), none⟩])
 (.seq (.region [⟨(some 39), .fld .TMul 4 (.v 1), none⟩,
  ⟨(some 40), .load (.int .i64) (.t 39), none⟩,
  ⟨(some 41), .bin .sub (.t 40) (.c (.val (.int .i64) (W.of .i64 1) (.no))), none⟩,
  ⟨(some 42), .fld .TMul 4 (.v 1), none⟩,
  ⟨none, .store (.int .i64) (.t 42) (.t 41), none⟩])
 (.seq (.region [⟨(some 43), .load (.named .TMul) (.v 1), none⟩,
  ⟨none, .store (.named .TMul) (.v 2) (.t 43), none⟩])
 (.ret)))))))))
def g_mul_Step : AFn tab := { np := 1, keep := [0, 1, 2, 3, 4, 7, 15], lent := [], body := b_mul_Step, res := [(.cell 2 (.named .TMul), true)] }
def x_mul_Step : FnX := { keep := [0, 1, 2, 3, 4, 7, 15], lent := [], res := [true], marks := [] }
def c_mul_Run_7 : ACode tab :=
 .seq (.region [⟨(some 12), .bin .lss (.v 11) (.v 10), none⟩])
 (.seq (.cond (.v 12) (.skip)
 (.exit 0))
 (.seq (.block 1 (.region [⟨(some 13), .load (.named .TMul) (.v 1), none⟩,
  ⟨(some 14), .call 66 [(.t 13)], none⟩,
  ⟨none, .store (.named .TMul) (.v 1) (.t 14), none⟩]))
 (.region [⟨(some 15), .bin .add (.v 11) (.c (.val (.int .i64) (W.of .i64 1) (.no))), none⟩,
  ⟨(some 11), .move (.t 15), none⟩])))
def m_mul_Run_7 : ACode tab := .trim [(1, .any)] (.loop (.mark 9 [(1, .any), (10, .any), (11, .any)] c_mul_Run_7))
def b_mul_Run : ACode tab :=
 .seq (.region [⟨(some 1), .box (.named .TMul) (.v 0), none⟩,
  ⟨(some 2), .move (.c (.val (.int .u32) (W.of .u32 0) (.no))), none⟩,
  ⟨(some 3), .move (.c (.val (.int .u32) (W.of .u32 0) (.no))), none⟩])
 (.seq (.region [⟨(some 4), .fld .TMul 4 (.v 1), none⟩,
  ⟨(some 5), .load (.int .i64) (.t 4), none⟩,
  ⟨(some 6), .mm true [(.t 5), (.c (.val (.int .i64) (W.of .i64 0) (.no)))], none⟩,
  ⟨(some 7), .mm false [(.t 6), (.c (.val (.int .i64) (W.of .i64 32) (.no)))], none⟩,
  ⟨(some 8), .fld .TMul 4 (.v 1), none⟩,
  ⟨none, .store (.int .i64) (.t 8) (.t 7), none⟩])
 (.seq (.seq (.region [⟨(some 9), .fld .TMul 4 (.v 1), none⟩,
  ⟨(some 10), .load (.int .i64) (.t 9), none⟩,
  ⟨(some 11), .move (.c (.val (.int .i64) (W.of .i64 0) (.no))), none⟩])
 (.block 0 (.mark 7 [(1, .any), (10, .any), (11, .any)] m_mul_Run_7)))
 (.seq (.draw [⟨(some 16), .fld .TMul 2 (.v 1), none⟩,
  ⟨(some 17), .load (.int .u32) (.t 16), none⟩,
  ⟨(some 18), .fld .TMul 3 (.v 1), none⟩,
  ⟨(some 19), .load (.int .u32) (.t 18), none⟩,
  ⟨(some 2), .move (.t 17), none⟩,
  ⟨(some 3), .move (.t 19), none⟩] [0, 1, 0, 4, 3, 31])
 (.ret))))
def g_mul_Run : AFn tab := { np := 1, keep := [0, 1, 2, 3, 10, 11, 12], lent := [], body := b_mul_Run, res := [(.tmp 2, true), (.tmp 3, true)] }
def x_mul_Run : FnX := { keep := [0, 1, 2, 3, 10, 11, 12], lent := [], res := [true, true], marks := [(7, [(1, .any), (10, .any), (11, .any)]), (8, [(1, .any)]), (9, [(1, .any), (10, .any), (11, .any)])] }
def b_mul_less : ACode tab :=
 .seq (.region [⟨(some 4), .move (.c (.val (.int .u32) (W.of .u32 0) (.no))), none⟩])
 (.seq (.seq (.region [⟨(some 5), .move (.v 0), none⟩,
  ⟨(some 6), .bin .shr (.t 5) (.c (.val (.int .u64) (W.of .u64 31) (.no))), none⟩,
  ⟨(some 7), .bin .eql (.t 6) (.c (.val (.int .u32) (W.of .u32 1) (.no))), none⟩])
 (.cond (.v 7) (.seq (.region [⟨(some 8), .move (.v 1), none⟩,
  ⟨(some 4), .move (.t 8), none⟩])
 (.ret))
 (.skip)))
 (.seq (.region [⟨(some 4), .move (.c (.val (.int .u32) (W.of .u32 0) (.no))), none⟩])
 (.ret)))
def g_mul_less : AFn tab := { np := 2, keep := [0, 1, 4, 7], lent := [], body := b_mul_less, res := [(.tmp 4, true)] }
def x_mul_less : FnX := { keep := [0, 1, 4, 7], lent := [], res := [true], marks := [] }
def b_mul_Do : ACode tab :=
 .seq (.region [⟨(some 6), .move (.c (.val (.int .u32) (W.of .u32 0) (.no))), none⟩,
  ⟨(some 7), .move (.c (.val (.bool) false (.no))), none⟩])
 (.seq (.region [⟨(some 11), .move (.v 1), none⟩,
  ⟨(some 12), .move (.v 2), none⟩,
  ⟨(some 13), .call 49 [(.t 11), (.t 12)], none⟩,
  ⟨(some 14), .call 48 [(.t 13)], none⟩,
  ⟨(some 10), .move (.t 14), none⟩,
  ⟨(some 15), .extract (.t 10) 0, none⟩,
  ⟨(some 16), .extract (.t 10) 1, none⟩,
  ⟨(some 8), .move (.t 15), none⟩,
  ⟨(some 9), .move (.t 16), none⟩])
 (.seq (.seq (.region [⟨(some 17), .move (.v 0), none⟩])
 (.block 0 (.seq (.region [⟨(some 19), .bin .eql (.v 17) (.c (.val (.int .i64) (W.of .i64 11) (.no))), none⟩,
  ⟨(some 18), .move (.t 19), none⟩])
 (.cond (.v 18) (.seq (.region [⟨(some 20), .move (.v 9), none⟩,
  ⟨(some 6), .move (.t 20), none⟩,
  ⟨(some 7), .move (.c (.val (.bool) true (.no))), none⟩])
 (.ret))
 (.seq (.region [⟨(some 22), .bin .eql (.v 17) (.c (.val (.int .i64) (W.of .i64 13) (.no))), none⟩,
  ⟨(some 21), .move (.t 22), none⟩])
 (.cond (.v 21) (.seq (.region [⟨(some 23), .move (.v 8), none⟩,
  ⟨(some 6), .move (.t 23), none⟩,
  ⟨(some 7), .move (.c (.val (.bool) true (.no))), none⟩])
 (.ret))
 (.seq (.region [⟨(some 25), .bin .eql (.v 17) (.c (.val (.int .i64) (W.of .i64 12) (.no))), none⟩,
  ⟨(some 24), .move (.t 25), none⟩])
 (.cond (.v 24) (.seq (.region [⟨(some 26), .move (.v 8), none⟩,
  ⟨(some 27), .move (.v 1), none⟩,
  ⟨(some 28), .move (.v 2), none⟩,
  ⟨(some 29), .call 50 [(.t 27), (.t 28)], none⟩,
  ⟨(some 30), .bin .sub (.t 26) (.t 29), none⟩,
  ⟨(some 31), .move (.v 2), none⟩,
  ⟨(some 32), .move (.v 1), none⟩,
  ⟨(some 33), .call 50 [(.t 31), (.t 32)], none⟩,
  ⟨(some 34), .bin .sub (.t 30) (.t 33), none⟩,
  ⟨(some 6), .move (.t 34), none⟩,
  ⟨(some 7), .move (.c (.val (.bool) true (.no))), none⟩])
 (.ret))
 (.skip)))))))))
 (.seq (.region [⟨(some 6), .move (.c (.val (.int .u32) (W.of .u32 0) (.no))), none⟩,
  ⟨(some 7), .move (.c (.val (.bool) false (.no))), none⟩])
 (.ret))))
def g_mul_Do : AFn tab := { np := 3, keep := [0, 1, 2, 6, 7, 8, 9, 17, 18, 21, 24], lent := [], body := b_mul_Do, res := [(.tmp 6, true), (.tmp 7, true)] }
def x_mul_Do : FnX := { keep := [0, 1, 2, 6, 7, 8, 9, 17, 18, 21, 24], lent := [], res := [true, true], marks := [] }
def b_div_New : ACode tab :=
 .seq (.region [⟨(some 4), .alloc (.named .TDiv), none⟩])
 (.seq (.region [⟨(some 5), .move (.v 0), none⟩,
  ⟨(some 6), .move (.v 1), none⟩,
  ⟨(some 7), .build .TDiv [(0, (.t 5)), (1, (.t 6)), (4, (.c (.val (.int .i64) (W.of .i64 32) (.no))))], none⟩,
  ⟨none, .store (.named .TDiv) (.v 4) (.t 7), none⟩])
 (.ret))
def g_div_New : AFn tab := { np := 2, keep := [0, 1, 4], lent := [], body := b_div_New, res := [(.cell 4 (.named .TDiv), true)] }
def x_div_New : FnX := { keep := [0, 1, 4], lent := [], res := [true], marks := [] }
def b_div_left : ACode tab :=
 .seq (.region [⟨(some 2), .move (.c (.val (.int .i64) (W.of .i64 0) (.no))), none⟩])
 (.seq (.region [⟨(some 3), .move (.v 0), none⟩,
  ⟨(some 4), .mm true [(.t 3), (.c (.val (.int .i64) (W.of .i64 0) (.no)))], none⟩,
  ⟨(some 5), .mm false [(.t 4), (.c (.val (.int .i64) (W.of .i64 32) (.no)))], none⟩,
  ⟨(some 2), .move (.t 5), none⟩])
 (.ret))
def g_div_left : AFn tab := { np := 1, keep := [0, 2], lent := [], body := b_div_left, res := [(.tmp 2, true)] }
def x_div_left : FnX := { keep := [0, 2], lent := [], res := [true], marks := [] }
def b_div_Step : ACode tab :=
 .seq (.region [⟨(some 1), .box (.named .TDiv) (.v 0), none⟩,
  ⟨(some 2), .alloc (.named .TDiv), none⟩])
 (.seq (.region [⟨(some 4), .fld .TDiv 4 (.v 1), none⟩,
  ⟨(some 5), .load (.int .i64) (.t 4), none⟩,
  ⟨(some 6), .call 67 [(.t 5)], none⟩,
  ⟨(some 7), .fld .TDiv 4 (.v 1), none⟩,
  ⟨none, .store (.int .i64) (.t 7) (.t 6), none⟩])
 (.seq (.seq (.region [⟨(some 8), .fld .TDiv 4 (.v 1), none⟩,
  ⟨(some 9), .load (.int .i64) (.t 8), none⟩,
  ⟨(some 10), .bin .eql (.t 9) (.c (.val (.int .i64) (W.of .i64 0) (.no))), none⟩])
 (.cond (.v 10) (.seq (.region [⟨(some 11), .load (.named .TDiv) (.v 1), none⟩,
  ⟨none, .store (.named .TDiv) (.v 2) (.t 11), none⟩])
 (.ret))
 (.skip)))
 (.seq (.region [⟨(some 12), .fld .TDiv 4 (.v 1), none⟩,
  ⟨(some 13), .load (.int .i64) (.t 12), none⟩,
  ⟨(some 14), .bin .sub (.t 13) (.c (.val (.int .i64) (W.of .i64 1) (.no))), none⟩,
  ⟨(some 15), .fld .TDiv 4 (.v 1), none⟩,
  ⟨none, .store (.int .i64) (.t 15) (.t 14), none⟩])
 (.seq (.region [⟨(some 16), .fld .TDiv 3 (.v 1), none⟩,
  ⟨(some 17), .load (.int .u32) (.t 16), none⟩,
  ⟨(some 18), .conv .u64 (.t 17), none⟩,
  ⟨(some 19), .bin .shl (.t 18) (.c (.val (.int .u64) (W.of .u64 1) (.no))), none⟩,
  ⟨(some 20), .fld .TDiv 0 (.v 1), none⟩,
  ⟨(some 21), .load (.int .u32) (.t 20), none⟩,
  ⟨(some 22), .fld .TDiv 4 (.v 1), none⟩,
  ⟨(some 23), .load (.int .i64) (.t 22), none⟩,
  ⟨(some 24), .conv .u64 (.t 23), none⟩,
  ⟨(some 25), .bin .shr (.t 21) (.t 24), none⟩,
  ⟨(some 26), .bin .and (.t 25) (.c (.val (.int .u32) (W.of .u32 1) (.no))), none⟩,
  ⟨(some 27), .conv .u64 (.t 26), none⟩,
  ⟨(some 28), .bin .or (.t 19) (.t 27), none⟩,
  ⟨(some 3), .move (.t 28), none⟩])
 (.seq (.region [⟨(some 29), .fld .TDiv 2 (.v 1), none⟩,
  ⟨(some 30), .load (.int .u32) (.t 29), none⟩,
  ⟨(some 31), .bin .shl (.t 30) (.c (.val (.int .u64) (W.of .u64 1) (.no))), none⟩,
  ⟨(some 32), .fld .TDiv 2 (.v 1), none⟩,
  ⟨none, .store (.int .u32) (.t 32) (.t 31), none⟩])
 (.seq (.seq (.region [⟨(some 33), .move (.v 3), none⟩,
  ⟨(some 34), .fld .TDiv 1 (.v 1), none⟩,
  ⟨(some 35), .load (.int .u32) (.t 34), none⟩,
  ⟨(some 36), .conv .u64 (.t 35), none⟩,
  ⟨(some 37), .bin .geq (.t 33) (.t 36), none⟩])
 (.cond (.v 37) (.seq (.region [⟨(some 38), .move (.v 3), none⟩,
  ⟨(some 39), .fld .TDiv 1 (.v 1), none⟩,
  ⟨(some 40), .load (.int .u32) (.t 39), none⟩,
  ⟨(some 41), .conv .u64 (.t 40), none⟩,
  ⟨(some 42), .bin .sub (.t 38) (.t 41), none⟩,
  ⟨(some 3), .move (.t 42), none⟩])
 (.region [⟨(some 43), .fld .TDiv 2 (.v 1), none⟩,
  ⟨(some 44), .load (.int .u32) (.t 43), none⟩,
  ⟨(some 45), .bin .or (.t 44) (.c (.val (.int .u32) (W.of .u32 1) (.no))), none⟩,
  ⟨(some 46), .fld .TDiv 2 (.v 1), none⟩,
  ⟨none, .store (.int .u32) (.t 46) (.t 45), none⟩]))
 (.skip)))
 (.seq (.region [⟨(some 47), .move (.v 3), none⟩,
  ⟨(some 48), .conv .u32 (.t 47), none⟩,
  ⟨(some 49), .fld .TDiv 3 (.v 1), none⟩,
  ⟨none, .store (.int .u32) (.t 49) (.t 48), none⟩])
 (.seq (.region [⟨(some 50), .load (.named .TDiv) (.v 1), none⟩,
  ⟨none, .store (.named .TDiv) (.v 2) (.t 50), none⟩])
 (.ret)))))))))
def g_div_Step : AFn tab := { np := 1, keep := [0, 1, 2, 3, 10, 37], lent := [], body := b_div_Step, res := [(.cell 2 (.named .TDiv), true)] }
def x_div_Step : FnX := { keep := [0, 1, 2, 3, 10, 37], lent := [], res := [true], marks := [] }
def c_div_Run_5 : ACode tab :=
 .seq (.region [⟨(some 8), .bin .lss (.v 7) (.v 6), none⟩])
 (.seq (.cond (.v 8) (.skip)
 (.exit 0))
 (.seq (.block 1 (.region [⟨(some 9), .load (.named .TDiv) (.v 1), none⟩,
  ⟨(some 10), .call 68 [(.t 9)], none⟩,
  ⟨none, .store (.named .TDiv) (.v 1) (.t 10), none⟩]))
 (.region [⟨(some 11), .bin .add (.v 7) (.c (.val (.int .i64) (W.of .i64 1) (.no))), none⟩,
  ⟨(some 7), .move (.t 11), none⟩])))
def m_div_Run_5 : ACode tab := .trim [(1, .any)] (.loop (.mark 7 [(1, .any), (6, .any), (7, .any)] c_div_Run_5))
def b_div_Run : ACode tab :=
 .seq (.region [⟨(some 1), .box (.named .TDiv) (.v 0), none⟩,
  ⟨(some 2), .move (.c (.val (.int .u32) (W.of .u32 0) (.no))), none⟩,
  ⟨(some 3), .move (.c (.val (.int .u32) (W.of .u32 0) (.no))), none⟩])
 (.seq (.seq (.region [⟨(some 4), .fld .TDiv 4 (.v 1), none⟩,
  ⟨(some 5), .load (.int .i64) (.t 4), none⟩,
  ⟨(some 6), .call 67 [(.t 5)], none⟩,
  ⟨(some 7), .move (.c (.val (.int .i64) (W.of .i64 0) (.no))), none⟩])
 (.block 0 (.mark 5 [(1, .any), (6, .any), (7, .any)] m_div_Run_5)))
 (.seq (.draw [⟨(some 12), .fld .TDiv 2 (.v 1), none⟩,
  ⟨(some 13), .load (.int .u32) (.t 12), none⟩,
  ⟨(some 14), .fld .TDiv 3 (.v 1), none⟩,
  ⟨(some 15), .load (.int .u32) (.t 14), none⟩,
  ⟨(some 2), .move (.t 13), none⟩,
  ⟨(some 3), .move (.t 15), none⟩] [0, 1, 0, 4, 3, 31])
 (.ret)))
def g_div_Run : AFn tab := { np := 1, keep := [0, 1, 2, 3, 6, 7, 8], lent := [], body := b_div_Run, res := [(.tmp 2, true), (.tmp 3, true)] }
def x_div_Run : FnX := { keep := [0, 1, 2, 3, 6, 7, 8], lent := [], res := [true, true], marks := [(5, [(1, .any), (6, .any), (7, .any)]), (6, [(1, .any)]), (7, [(1, .any), (6, .any), (7, .any)])] }
def b_div_away : ACode tab :=
 .seq (.region [⟨(some 2), .move (.c (.val (.int .u32) (W.of .u32 0) (.no))), none⟩])
 (.seq (.seq (.region [⟨(some 3), .move (.v 0), none⟩,
  ⟨(some 4), .conv .i32 (.t 3), none⟩,
  ⟨(some 5), .bin .lss (.t 4) (.c (.val (.int .i32) (W.of .i32 0) (.no))), none⟩])
 (.cond (.v 5) (.seq (.region [⟨(some 6), .move (.v 0), none⟩,
  ⟨(some 7), .un .neg (.t 6), none⟩,
  ⟨(some 2), .move (.t 7), none⟩])
 (.ret))
 (.skip)))
 (.seq (.region [⟨(some 8), .move (.v 0), none⟩,
  ⟨(some 2), .move (.t 8), none⟩])
 (.ret)))
def g_div_away : AFn tab := { np := 1, keep := [0, 2, 5], lent := [], body := b_div_away, res := [(.tmp 2, true)] }
def x_div_away : FnX := { keep := [0, 2, 5], lent := [], res := [true], marks := [] }
def b_div_Do : ACode tab :=
 .seq (.region [⟨(some 6), .move (.c (.val (.int .u32) (W.of .u32 0) (.no))), none⟩,
  ⟨(some 7), .move (.c (.val (.bool) false (.no))), none⟩])
 (.seq (.seq (.region [⟨(some 14), .move (.v 0), none⟩])
 (.block 0 (.seq (.region [⟨(some 16), .bin .eql (.v 14) (.c (.val (.int .i64) (W.of .i64 15) (.no))), none⟩,
  ⟨(some 15), .move (.t 16), none⟩])
 (.cond (.v 15) (.seq (.region [⟨(some 18), .move (.v 1), none⟩,
  ⟨(some 19), .move (.v 2), none⟩,
  ⟨(some 20), .call 52 [(.t 18), (.t 19)], none⟩,
  ⟨(some 21), .call 51 [(.t 20)], none⟩,
  ⟨(some 17), .move (.t 21), none⟩,
  ⟨(some 22), .extract (.t 17) 0, none⟩,
  ⟨(some 23), .extract (.t 17) 1, none⟩,
  ⟨(some 8), .move (.t 22), none⟩,
  ⟨(some 9), .move (.t 23), none⟩])
 (.seq (.region [⟨(some 24), .move (.v 8), none⟩,
  ⟨(some 6), .move (.t 24), none⟩,
  ⟨(some 7), .move (.c (.val (.bool) true (.no))), none⟩])
 (.ret)))
 (.seq (.region [⟨(some 26), .bin .eql (.v 14) (.c (.val (.int .i64) (W.of .i64 17) (.no))), none⟩,
  ⟨(some 25), .move (.t 26), none⟩])
 (.cond (.v 25) (.seq (.region [⟨(some 28), .move (.v 1), none⟩,
  ⟨(some 29), .move (.v 2), none⟩,
  ⟨(some 30), .call 52 [(.t 28), (.t 29)], none⟩,
  ⟨(some 31), .call 51 [(.t 30)], none⟩,
  ⟨(some 27), .move (.t 31), none⟩,
  ⟨(some 32), .extract (.t 27) 0, none⟩,
  ⟨(some 33), .extract (.t 27) 1, none⟩,
  ⟨(some 10), .move (.t 32), none⟩,
  ⟨(some 11), .move (.t 33), none⟩])
 (.seq (.region [⟨(some 34), .move (.v 11), none⟩,
  ⟨(some 6), .move (.t 34), none⟩,
  ⟨(some 7), .move (.c (.val (.bool) true (.no))), none⟩])
 (.ret)))
 (.seq (.seq (.region [⟨(some 36), .bin .eql (.v 14) (.c (.val (.int .i64) (W.of .i64 14) (.no))), none⟩,
  ⟨(some 35), .move (.t 36), none⟩])
 (.cond (.v 35) (.skip)
 (.region [⟨(some 37), .bin .eql (.v 14) (.c (.val (.int .i64) (W.of .i64 16) (.no))), none⟩,
  ⟨(some 35), .move (.t 37), none⟩])))
 (.cond (.v 35) (.skip)
 (.seq (.region [⟨(some 6), .move (.c (.val (.int .u32) (W.of .u32 0) (.no))), none⟩,
  ⟨(some 7), .move (.c (.val (.bool) false (.no))), none⟩])
 (.ret))))))))))
 (.seq (.region [⟨(some 39), .move (.v 1), none⟩,
  ⟨(some 40), .call 53 [(.t 39)], none⟩,
  ⟨(some 41), .move (.v 2), none⟩,
  ⟨(some 42), .call 53 [(.t 41)], none⟩,
  ⟨(some 43), .call 52 [(.t 40), (.t 42)], none⟩,
  ⟨(some 44), .call 51 [(.t 43)], none⟩,
  ⟨(some 38), .move (.t 44), none⟩,
  ⟨(some 45), .extract (.t 38) 0, none⟩,
  ⟨(some 46), .extract (.t 38) 1, none⟩,
  ⟨(some 12), .move (.t 45), none⟩,
  ⟨(some 13), .move (.t 46), none⟩])
 (.seq (.seq (.region [⟨(some 47), .move (.v 2), none⟩,
  ⟨(some 48), .bin .eql (.t 47) (.c (.val (.int .u32) (W.of .u32 0) (.no))), none⟩])
 (.cond (.v 48) (.seq (.region [⟨(some 12), .move (.c (.val (.int .u32) (W.of .u32 0) (.no))), none⟩])
 (.seq (.region [⟨(some 49), .move (.v 12), none⟩,
  ⟨(some 50), .bin .sub (.t 49) (.c (.val (.int .u32) (W.of .u32 1) (.no))), none⟩,
  ⟨(some 12), .move (.t 50), none⟩])
 (.region [⟨(some 51), .move (.v 1), none⟩,
  ⟨(some 13), .move (.t 51), none⟩])))
 (.seq (.seq (.region [⟨(some 52), .move (.v 1), none⟩,
  ⟨(some 53), .conv .i32 (.t 52), none⟩,
  ⟨(some 54), .bin .lss (.t 53) (.c (.val (.int .i32) (W.of .i32 0) (.no))), none⟩,
  ⟨(some 55), .move (.v 2), none⟩,
  ⟨(some 56), .conv .i32 (.t 55), none⟩,
  ⟨(some 57), .bin .lss (.t 56) (.c (.val (.int .i32) (W.of .i32 0) (.no))), none⟩,
  ⟨(some 58), .eq (.bool) true (.t 54) (.t 57), none⟩])
 (.cond (.v 58) (.region [⟨(some 59), .move (.v 12), none⟩,
  ⟨(some 60), .un .neg (.t 59), none⟩,
  ⟨(some 12), .move (.t 60), none⟩])
 (.skip)))
 (.seq (.region [⟨(some 61), .move (.v 1), none⟩,
  ⟨(some 62), .conv .i32 (.t 61), none⟩,
  ⟨(some 63), .bin .lss (.t 62) (.c (.val (.int .i32) (W.of .i32 0) (.no))), none⟩])
 (.cond (.v 63) (.region [⟨(some 64), .move (.v 13), none⟩,
  ⟨(some 65), .un .neg (.t 64), none⟩,
  ⟨(some 13), .move (.t 65), none⟩])
 (.skip))))))
 (.seq (.seq (.region [⟨(some 66), .move (.v 0), none⟩,
  ⟨(some 67), .bin .eql (.t 66) (.c (.val (.int .i64) (W.of .i64 14) (.no))), none⟩])
 (.cond (.v 67) (.seq (.region [⟨(some 68), .move (.v 12), none⟩,
  ⟨(some 6), .move (.t 68), none⟩,
  ⟨(some 7), .move (.c (.val (.bool) true (.no))), none⟩])
 (.ret))
 (.skip)))
 (.seq (.region [⟨(some 69), .move (.v 13), none⟩,
  ⟨(some 6), .move (.t 69), none⟩,
  ⟨(some 7), .move (.c (.val (.bool) true (.no))), none⟩])
 (.ret))))))
def g_div_Do : AFn tab := { np := 3, keep := [0, 1, 2, 6, 7, 8, 11, 12, 13, 14, 15, 25, 35, 48, 58, 63, 67], lent := [], body := b_div_Do, res := [(.tmp 6, true), (.tmp 7, true)] }
def x_div_Do : FnX := { keep := [0, 1, 2, 6, 7, 8, 11, 12, 13, 14, 15, 25, 35, 48, 58, 63, 67], lent := [], res := [true, true], marks := [] }
def b_alu_one : ACode tab :=
 .seq (.region [⟨(some 2), .move (.c (.val (.int .u32) (W.of .u32 0) (.no))), none⟩])
 (.seq (.seq (.region [⟨(some 3), .move (.v 0), none⟩])
 (.cond (.v 3) (.seq (.region [⟨(some 2), .move (.c (.val (.int .u32) (W.of .u32 1) (.no))), none⟩])
 (.ret))
 (.skip)))
 (.seq (.region [⟨(some 2), .move (.c (.val (.int .u32) (W.of .u32 0) (.no))), none⟩])
 (.ret)))
def g_alu_one : AFn tab := { np := 1, keep := [0, 2, 3], lent := [], body := b_alu_one, res := [(.tmp 2, true)] }
def x_alu_one : FnX := { keep := [0, 2, 3], lent := [], res := [true], marks := [] }
def c_alu_Clz_5 : ACode tab :=
 .seq (.seq (.region [⟨(some 4), .move (.v 0), none⟩,
  ⟨(some 5), .bin .neq (.t 4) (.c (.val (.int .u32) (W.of .u32 0) (.no))), none⟩])
 (.cond (.v 5) (.skip)
 (.exit 0)))
 (.seq (.block 1 (.region [⟨(some 8), .move (.v 3), none⟩,
  ⟨(some 9), .bin .sub (.t 8) (.c (.val (.int .i64) (W.of .i64 1) (.no))), none⟩,
  ⟨(some 3), .move (.t 9), none⟩]))
 (.region [⟨(some 6), .move (.v 0), none⟩,
  ⟨(some 7), .bin .shr (.t 6) (.c (.val (.int .u64) (W.of .u64 1) (.no))), none⟩,
  ⟨(some 0), .move (.t 7), none⟩]))
def m_alu_Clz_5 : ACode tab := .trim [(3, .any)] (.loop (.mark 7 [(0, .any), (3, .any)] c_alu_Clz_5))
def b_alu_Clz : ACode tab :=
 .seq (.region [⟨(some 2), .move (.c (.val (.int .i64) (W.of .i64 0) (.no))), none⟩])
 (.seq (.region [⟨(some 3), .move (.c (.val (.int .i64) (W.of .i64 32) (.no))), none⟩])
 (.seq (.block 0 (.mark 5 [(0, .any), (3, .any)] m_alu_Clz_5))
 (.seq (.region [⟨(some 10), .move (.v 3), none⟩,
  ⟨(some 2), .move (.t 10), none⟩])
 (.ret))))
def g_alu_Clz : AFn tab := { np := 1, keep := [0, 2, 3, 5], lent := [], body := b_alu_Clz, res := [(.tmp 2, true)] }
def x_alu_Clz : FnX := { keep := [0, 2, 3, 5], lent := [], res := [true], marks := [(5, [(0, .any), (3, .any)]), (6, [(3, .any)]), (7, [(0, .any), (3, .any)])] }
def c_alu_Pop_5 : ACode tab :=
 .seq (.seq (.region [⟨(some 4), .move (.v 0), none⟩,
  ⟨(some 5), .bin .neq (.t 4) (.c (.val (.int .u32) (W.of .u32 0) (.no))), none⟩])
 (.cond (.v 5) (.skip)
 (.exit 0)))
 (.seq (.block 1 (.region [⟨(some 10), .move (.v 3), none⟩,
  ⟨(some 11), .bin .add (.t 10) (.c (.val (.int .i64) (W.of .i64 1) (.no))), none⟩,
  ⟨(some 3), .move (.t 11), none⟩]))
 (.region [⟨(some 6), .move (.v 0), none⟩,
  ⟨(some 7), .move (.v 0), none⟩,
  ⟨(some 8), .bin .sub (.t 7) (.c (.val (.int .u32) (W.of .u32 1) (.no))), none⟩,
  ⟨(some 9), .bin .and (.t 6) (.t 8), none⟩,
  ⟨(some 0), .move (.t 9), none⟩]))
def m_alu_Pop_5 : ACode tab := .trim [(3, .any)] (.loop (.mark 7 [(0, .any), (3, .any)] c_alu_Pop_5))
def b_alu_Pop : ACode tab :=
 .seq (.region [⟨(some 2), .move (.c (.val (.int .i64) (W.of .i64 0) (.no))), none⟩])
 (.seq (.region [⟨(some 3), .move (.c (.val (.int .i64) (W.of .i64 0) (.no))), none⟩])
 (.seq (.block 0 (.mark 5 [(0, .any), (3, .any)] m_alu_Pop_5))
 (.seq (.region [⟨(some 12), .move (.v 3), none⟩,
  ⟨(some 2), .move (.t 12), none⟩])
 (.ret))))
def g_alu_Pop : AFn tab := { np := 1, keep := [0, 2, 3, 5], lent := [], body := b_alu_Pop, res := [(.tmp 2, true)] }
def x_alu_Pop : FnX := { keep := [0, 2, 3, 5], lent := [], res := [true], marks := [(5, [(0, .any), (3, .any)]), (6, [(3, .any)]), (7, [(0, .any), (3, .any)])] }
def b_alu_Rev : ACode tab :=
 .seq (.region [⟨(some 2), .move (.c (.val (.int .u32) (W.of .u32 0) (.no))), none⟩])
 (.seq (.region [⟨(some 3), .move (.v 0), none⟩,
  ⟨(some 4), .bin .shl (.t 3) (.c (.val (.int .u64) (W.of .u64 24) (.no))), none⟩,
  ⟨(some 5), .move (.v 0), none⟩,
  ⟨(some 6), .bin .shl (.t 5) (.c (.val (.int .u64) (W.of .u64 8) (.no))), none⟩,
  ⟨(some 7), .bin .and (.t 6) (.c (.val (.int .u32) (W.of .u32 16711680) (.no))), none⟩,
  ⟨(some 8), .bin .or (.t 4) (.t 7), none⟩,
  ⟨(some 9), .move (.v 0), none⟩,
  ⟨(some 10), .bin .shr (.t 9) (.c (.val (.int .u64) (W.of .u64 8) (.no))), none⟩,
  ⟨(some 11), .bin .and (.t 10) (.c (.val (.int .u32) (W.of .u32 65280) (.no))), none⟩,
  ⟨(some 12), .bin .or (.t 8) (.t 11), none⟩,
  ⟨(some 13), .move (.v 0), none⟩,
  ⟨(some 14), .bin .shr (.t 13) (.c (.val (.int .u64) (W.of .u64 24) (.no))), none⟩,
  ⟨(some 15), .bin .or (.t 12) (.t 14), none⟩,
  ⟨(some 2), .move (.t 15), none⟩])
 (.ret))
def g_alu_Rev : AFn tab := { np := 1, keep := [0, 2], lent := [], body := b_alu_Rev, res := [(.tmp 2, true)] }
def x_alu_Rev : FnX := { keep := [0, 2], lent := [], res := [true], marks := [] }
def b_alu_single : ACode tab :=
 .seq (.region [⟨(some 4), .move (.c (.val (.int .u32) (W.of .u32 0) (.no))), none⟩,
  ⟨(some 5), .move (.c (.val (.bool) false (.no))), none⟩])
 (.seq (.seq (.region [⟨(some 6), .move (.v 0), none⟩])
 (.block 0 (.seq (.region [⟨(some 8), .bin .eql (.v 6) (.c (.val (.int .i64) (W.of .i64 21) (.no))), none⟩,
  ⟨(some 7), .move (.t 8), none⟩])
 (.cond (.v 7) (.seq (.region [⟨(some 9), .move (.v 1), none⟩,
  ⟨(some 10), .call 69 [(.t 9)], none⟩,
  ⟨(some 11), .conv .u32 (.t 10), none⟩,
  ⟨(some 4), .move (.t 11), none⟩,
  ⟨(some 5), .move (.c (.val (.bool) true (.no))), none⟩])
 (.ret))
 (.seq (.region [⟨(some 13), .bin .eql (.v 6) (.c (.val (.int .i64) (W.of .i64 22) (.no))), none⟩,
  ⟨(some 12), .move (.t 13), none⟩])
 (.cond (.v 12) (.seq (.region [⟨(some 14), .move (.v 1), none⟩,
  ⟨(some 15), .call 70 [(.t 14)], none⟩,
  ⟨(some 16), .conv .u32 (.t 15), none⟩,
  ⟨(some 4), .move (.t 16), none⟩,
  ⟨(some 5), .move (.c (.val (.bool) true (.no))), none⟩])
 (.ret))
 (.seq (.region [⟨(some 18), .bin .eql (.v 6) (.c (.val (.int .i64) (W.of .i64 23) (.no))), none⟩,
  ⟨(some 17), .move (.t 18), none⟩])
 (.cond (.v 17) (.seq (.region [⟨(some 19), .move (.v 1), none⟩,
  ⟨(some 20), .call 71 [(.t 19)], none⟩,
  ⟨(some 4), .move (.t 20), none⟩,
  ⟨(some 5), .move (.c (.val (.bool) true (.no))), none⟩])
 (.ret))
 (.skip)))))))))
 (.seq (.region [⟨(some 4), .move (.c (.val (.int .u32) (W.of .u32 0) (.no))), none⟩,
  ⟨(some 5), .move (.c (.val (.bool) false (.no))), none⟩])
 (.ret)))
def g_alu_single : AFn tab := { np := 2, keep := [0, 1, 4, 5, 6, 7, 12, 17], lent := [], body := b_alu_single, res := [(.tmp 4, true), (.tmp 5, true)] }
def x_alu_single : FnX := { keep := [0, 1, 4, 5, 6, 7, 12, 17], lent := [], res := [true, true], marks := [] }
def b_alu_low : ACode tab :=
 .seq (.region [⟨(some 2), .move (.c (.val (.int .u32) (W.of .u32 0) (.no))), none⟩])
 (.seq (.region [⟨(some 3), .move (.v 0), none⟩,
  ⟨(some 4), .bin .and (.t 3) (.c (.val (.int .u32) (W.of .u32 31) (.no))), none⟩,
  ⟨(some 2), .move (.t 4), none⟩])
 (.ret))
def g_alu_low : AFn tab := { np := 1, keep := [0, 2], lent := [], body := b_alu_low, res := [(.tmp 2, true)] }
def x_alu_low : FnX := { keep := [0, 2], lent := [], res := [true], marks := [] }
def b_bits_RotateLeft32 : ACode tab :=
 .seq (.region [⟨(some 4), .move (.c (.val (.int .u32) (W.of .u32 0) (.no))), none⟩])
 (.seq (.region [⟨(some 6), .move (.v 1), none⟩,
  ⟨(some 7), .conv .u64 (.t 6), none⟩,
  ⟨(some 8), .bin .and (.t 7) (.c (.val (.int .u64) (W.of .u64 31) (.no))), none⟩,
  ⟨(some 5), .move (.t 8), none⟩])
 (.seq (.region [⟨(some 9), .move (.v 0), none⟩,
  ⟨(some 10), .move (.v 5), none⟩,
  ⟨(some 11), .bin .shl (.t 9) (.t 10), none⟩,
  ⟨(some 12), .move (.v 0), none⟩,
  ⟨(some 13), .move (.v 5), none⟩,
  ⟨(some 14), .bin .sub (.c (.val (.int .u64) (W.of .u64 32) (.no))) (.t 13), none⟩,
  ⟨(some 15), .bin .shr (.t 12) (.t 14), none⟩,
  ⟨(some 16), .bin .or (.t 11) (.t 15), none⟩,
  ⟨(some 4), .move (.t 16), none⟩])
 (.ret)))
def g_bits_RotateLeft32 : AFn tab := { np := 2, keep := [0, 1, 4, 5], lent := [], body := b_bits_RotateLeft32, res := [(.tmp 4, true)] }
def x_bits_RotateLeft32 : FnX := { keep := [0, 1, 4, 5], lent := [], res := [true], marks := [] }
def b_bits_Rot : ACode tab :=
 .seq (.region [⟨(some 4), .move (.c (.val (.int .u32) (W.of .u32 0) (.no))), none⟩])
 (.seq (.region [⟨(some 5), .move (.v 0), none⟩,
  ⟨(some 6), .move (.v 1), none⟩,
  ⟨(some 7), .bin .rem (.t 6) (.c (.val (.int .i64) (W.of .i64 32) (.no))), none⟩,
  ⟨(some 8), .un .neg (.t 7), none⟩,
  ⟨(some 9), .call 75 [(.t 5), (.t 8)], none⟩,
  ⟨(some 4), .move (.t 9), none⟩])
 (.ret))
def g_bits_Rot : AFn tab := { np := 2, keep := [0, 1, 4], lent := [], body := b_bits_Rot, res := [(.tmp 4, true)] }
def x_bits_Rot : FnX := { keep := [0, 1, 4], lent := [], res := [true], marks := [] }
def b_alu_logic : ACode tab :=
 .seq (.region [⟨(some 6), .move (.c (.val (.int .u32) (W.of .u32 0) (.no))), none⟩,
  ⟨(some 7), .move (.c (.val (.bool) false (.no))), none⟩])
 (.seq (.seq (.region [⟨(some 8), .move (.v 0), none⟩])
 (.block 0 (.seq (.seq (.region [⟨(some 10), .bin .eql (.v 8) (.c (.val (.int .i64) (W.of .i64 3) (.no))), none⟩,
  ⟨(some 9), .move (.t 10), none⟩])
 (.cond (.v 9) (.skip)
 (.region [⟨(some 11), .bin .eql (.v 8) (.c (.val (.int .i64) (W.of .i64 26) (.no))), none⟩,
  ⟨(some 9), .move (.t 11), none⟩])))
 (.cond (.v 9) (.seq (.region [⟨(some 12), .move (.v 1), none⟩,
  ⟨(some 13), .move (.v 2), none⟩,
  ⟨(some 14), .bin .and (.t 12) (.t 13), none⟩,
  ⟨(some 6), .move (.t 14), none⟩,
  ⟨(some 7), .move (.c (.val (.bool) true (.no))), none⟩])
 (.ret))
 (.seq (.seq (.region [⟨(some 16), .bin .eql (.v 8) (.c (.val (.int .i64) (W.of .i64 4) (.no))), none⟩,
  ⟨(some 15), .move (.t 16), none⟩])
 (.cond (.v 15) (.skip)
 (.region [⟨(some 17), .bin .eql (.v 8) (.c (.val (.int .i64) (W.of .i64 27) (.no))), none⟩,
  ⟨(some 15), .move (.t 17), none⟩])))
 (.cond (.v 15) (.seq (.region [⟨(some 18), .move (.v 1), none⟩,
  ⟨(some 19), .move (.v 2), none⟩,
  ⟨(some 20), .bin .or (.t 18) (.t 19), none⟩,
  ⟨(some 6), .move (.t 20), none⟩,
  ⟨(some 7), .move (.c (.val (.bool) true (.no))), none⟩])
 (.ret))
 (.seq (.seq (.region [⟨(some 22), .bin .eql (.v 8) (.c (.val (.int .i64) (W.of .i64 5) (.no))), none⟩,
  ⟨(some 21), .move (.t 22), none⟩])
 (.cond (.v 21) (.skip)
 (.region [⟨(some 23), .bin .eql (.v 8) (.c (.val (.int .i64) (W.of .i64 28) (.no))), none⟩,
  ⟨(some 21), .move (.t 23), none⟩])))
 (.cond (.v 21) (.seq (.region [⟨(some 24), .move (.v 1), none⟩,
  ⟨(some 25), .move (.v 2), none⟩,
  ⟨(some 26), .bin .xor (.t 24) (.t 25), none⟩,
  ⟨(some 6), .move (.t 26), none⟩,
  ⟨(some 7), .move (.c (.val (.bool) true (.no))), none⟩])
 (.ret))
 (.seq (.seq (.region [⟨(some 28), .bin .eql (.v 8) (.c (.val (.int .i64) (W.of .i64 6) (.no))), none⟩,
  ⟨(some 27), .move (.t 28), none⟩])
 (.cond (.v 27) (.skip)
 (.region [⟨(some 29), .bin .eql (.v 8) (.c (.val (.int .i64) (W.of .i64 30) (.no))), none⟩,
  ⟨(some 27), .move (.t 29), none⟩])))
 (.cond (.v 27) (.seq (.region [⟨(some 30), .move (.v 1), none⟩,
  ⟨(some 31), .move (.v 2), none⟩,
  ⟨(some 32), .call 72 [(.t 31)], none⟩,
  ⟨(some 33), .bin .shl (.t 30) (.t 32), none⟩,
  ⟨(some 6), .move (.t 33), none⟩,
  ⟨(some 7), .move (.c (.val (.bool) true (.no))), none⟩])
 (.ret))
 (.seq (.seq (.region [⟨(some 35), .bin .eql (.v 8) (.c (.val (.int .i64) (W.of .i64 7) (.no))), none⟩,
  ⟨(some 34), .move (.t 35), none⟩])
 (.cond (.v 34) (.skip)
 (.region [⟨(some 36), .bin .eql (.v 8) (.c (.val (.int .i64) (W.of .i64 31) (.no))), none⟩,
  ⟨(some 34), .move (.t 36), none⟩])))
 (.cond (.v 34) (.seq (.region [⟨(some 37), .move (.v 1), none⟩,
  ⟨(some 38), .move (.v 2), none⟩,
  ⟨(some 39), .call 72 [(.t 38)], none⟩,
  ⟨(some 40), .bin .shr (.t 37) (.t 39), none⟩,
  ⟨(some 6), .move (.t 40), none⟩,
  ⟨(some 7), .move (.c (.val (.bool) true (.no))), none⟩])
 (.ret))
 (.seq (.seq (.region [⟨(some 42), .bin .eql (.v 8) (.c (.val (.int .i64) (W.of .i64 8) (.no))), none⟩,
  ⟨(some 41), .move (.t 42), none⟩])
 (.cond (.v 41) (.skip)
 (.region [⟨(some 43), .bin .eql (.v 8) (.c (.val (.int .i64) (W.of .i64 32) (.no))), none⟩,
  ⟨(some 41), .move (.t 43), none⟩])))
 (.cond (.v 41) (.seq (.region [⟨(some 44), .move (.v 1), none⟩,
  ⟨(some 45), .conv .i32 (.t 44), none⟩,
  ⟨(some 46), .move (.v 2), none⟩,
  ⟨(some 47), .call 72 [(.t 46)], none⟩,
  ⟨(some 48), .bin .shr (.t 45) (.t 47), none⟩,
  ⟨(some 49), .conv .u32 (.t 48), none⟩,
  ⟨(some 6), .move (.t 49), none⟩,
  ⟨(some 7), .move (.c (.val (.bool) true (.no))), none⟩])
 (.ret))
 (.seq (.region [⟨(some 51), .bin .eql (.v 8) (.c (.val (.int .i64) (W.of .i64 20) (.no))), none⟩,
  ⟨(some 50), .move (.t 51), none⟩])
 (.cond (.v 50) (.seq (.region [⟨(some 52), .move (.v 1), none⟩,
  ⟨(some 53), .move (.v 2), none⟩,
  ⟨(some 54), .call 72 [(.t 53)], none⟩,
  ⟨(some 55), .conv .i64 (.t 54), none⟩,
  ⟨(some 56), .call 73 [(.t 52), (.t 55)], none⟩,
  ⟨(some 6), .move (.t 56), none⟩,
  ⟨(some 7), .move (.c (.val (.bool) true (.no))), none⟩])
 (.ret))
 (.skip)))))))))))))))))
 (.seq (.region [⟨(some 6), .move (.c (.val (.int .u32) (W.of .u32 0) (.no))), none⟩,
  ⟨(some 7), .move (.c (.val (.bool) false (.no))), none⟩])
 (.ret)))
def g_alu_logic : AFn tab := { np := 3, keep := [0, 1, 2, 6, 7, 8, 9, 15, 21, 27, 34, 41, 50], lent := [], body := b_alu_logic, res := [(.tmp 6, true), (.tmp 7, true)] }
def x_alu_logic : FnX := { keep := [0, 1, 2, 6, 7, 8, 9, 15, 21, 27, 34, 41, 50], lent := [], res := [true, true], marks := [] }
def b_alu_Do : ACode tab :=
 .seq (.region [⟨(some 6), .move (.c (.val (.int .u32) (W.of .u32 0) (.no))), none⟩,
  ⟨(some 7), .move (.c (.val (.bool) false (.no))), none⟩])
 (.seq (.seq (.region [⟨(some 8), .move (.v 0), none⟩])
 (.block 0 (.seq (.seq (.region [⟨(some 10), .bin .eql (.v 8) (.c (.val (.int .i64) (W.of .i64 1) (.no))), none⟩,
  ⟨(some 9), .move (.t 10), none⟩])
 (.cond (.v 9) (.skip)
 (.region [⟨(some 11), .bin .eql (.v 8) (.c (.val (.int .i64) (W.of .i64 25) (.no))), none⟩,
  ⟨(some 9), .move (.t 11), none⟩])))
 (.cond (.v 9) (.seq (.region [⟨(some 12), .move (.v 1), none⟩,
  ⟨(some 13), .move (.v 2), none⟩,
  ⟨(some 14), .bin .add (.t 12) (.t 13), none⟩,
  ⟨(some 6), .move (.t 14), none⟩,
  ⟨(some 7), .move (.c (.val (.bool) true (.no))), none⟩])
 (.ret))
 (.seq (.region [⟨(some 16), .bin .eql (.v 8) (.c (.val (.int .i64) (W.of .i64 2) (.no))), none⟩,
  ⟨(some 15), .move (.t 16), none⟩])
 (.cond (.v 15) (.seq (.region [⟨(some 17), .move (.v 1), none⟩,
  ⟨(some 18), .move (.v 2), none⟩,
  ⟨(some 19), .bin .sub (.t 17) (.t 18), none⟩,
  ⟨(some 6), .move (.t 19), none⟩,
  ⟨(some 7), .move (.c (.val (.bool) true (.no))), none⟩])
 (.ret))
 (.seq (.seq (.region [⟨(some 21), .bin .eql (.v 8) (.c (.val (.int .i64) (W.of .i64 9) (.no))), none⟩,
  ⟨(some 20), .move (.t 21), none⟩])
 (.cond (.v 20) (.skip)
 (.region [⟨(some 22), .bin .eql (.v 8) (.c (.val (.int .i64) (W.of .i64 29) (.no))), none⟩,
  ⟨(some 20), .move (.t 22), none⟩])))
 (.cond (.v 20) (.seq (.region [⟨(some 23), .move (.v 1), none⟩,
  ⟨(some 24), .conv .i32 (.t 23), none⟩,
  ⟨(some 25), .move (.v 2), none⟩,
  ⟨(some 26), .conv .i32 (.t 25), none⟩,
  ⟨(some 27), .bin .lss (.t 24) (.t 26), none⟩,
  ⟨(some 28), .call 54 [(.t 27)], none⟩,
  ⟨(some 6), .move (.t 28), none⟩,
  ⟨(some 7), .move (.c (.val (.bool) true (.no))), none⟩])
 (.ret))
 (.seq (.region [⟨(some 30), .bin .eql (.v 8) (.c (.val (.int .i64) (W.of .i64 10) (.no))), none⟩,
  ⟨(some 29), .move (.t 30), none⟩])
 (.cond (.v 29) (.seq (.region [⟨(some 31), .move (.v 1), none⟩,
  ⟨(some 32), .move (.v 2), none⟩,
  ⟨(some 33), .bin .lss (.t 31) (.t 32), none⟩,
  ⟨(some 34), .call 54 [(.t 33)], none⟩,
  ⟨(some 6), .move (.t 34), none⟩,
  ⟨(some 7), .move (.c (.val (.bool) true (.no))), none⟩])
 (.ret))
 (.seq (.region [⟨(some 36), .bin .eql (.v 8) (.c (.val (.int .i64) (W.of .i64 18) (.no))), none⟩,
  ⟨(some 35), .move (.t 36), none⟩])
 (.cond (.v 35) (.seq (.region [⟨(some 37), .move (.v 1), none⟩,
  ⟨(some 38), .conv .i32 (.t 37), none⟩,
  ⟨(some 39), .move (.v 2), none⟩,
  ⟨(some 40), .conv .i32 (.t 39), none⟩,
  ⟨(some 41), .mm false [(.t 38), (.t 40)], none⟩,
  ⟨(some 42), .conv .u32 (.t 41), none⟩,
  ⟨(some 6), .move (.t 42), none⟩,
  ⟨(some 7), .move (.c (.val (.bool) true (.no))), none⟩])
 (.ret))
 (.seq (.region [⟨(some 44), .bin .eql (.v 8) (.c (.val (.int .i64) (W.of .i64 19) (.no))), none⟩,
  ⟨(some 43), .move (.t 44), none⟩])
 (.cond (.v 43) (.seq (.region [⟨(some 45), .move (.v 1), none⟩,
  ⟨(some 46), .conv .i32 (.t 45), none⟩,
  ⟨(some 47), .move (.v 2), none⟩,
  ⟨(some 48), .conv .i32 (.t 47), none⟩,
  ⟨(some 49), .mm true [(.t 46), (.t 48)], none⟩,
  ⟨(some 50), .conv .u32 (.t 49), none⟩,
  ⟨(some 6), .move (.t 50), none⟩,
  ⟨(some 7), .move (.c (.val (.bool) true (.no))), none⟩])
 (.ret))
 (.seq (.region [⟨(some 52), .bin .eql (.v 8) (.c (.val (.int .i64) (W.of .i64 33) (.no))), none⟩,
  ⟨(some 51), .move (.t 52), none⟩])
 (.cond (.v 51) (.seq (.region [⟨(some 53), .move (.v 2), none⟩,
  ⟨(some 54), .bin .shl (.t 53) (.c (.val (.int .u64) (W.of .u64 14) (.no))), none⟩,
  ⟨(some 6), .move (.t 54), none⟩,
  ⟨(some 7), .move (.c (.val (.bool) true (.no))), none⟩])
 (.ret))
 (.seq (.seq (.region [⟨(some 56), .bin .eql (.v 8) (.c (.val (.int .i64) (W.of .i64 21) (.no))), none⟩,
  ⟨(some 55), .move (.t 56), none⟩])
 (.cond (.v 55) (.skip)
 (.seq (.region [⟨(some 57), .bin .eql (.v 8) (.c (.val (.int .i64) (W.of .i64 22) (.no))), none⟩,
  ⟨(some 55), .move (.t 57), none⟩])
 (.cond (.v 55) (.skip)
 (.region [⟨(some 58), .bin .eql (.v 8) (.c (.val (.int .i64) (W.of .i64 23) (.no))), none⟩,
  ⟨(some 55), .move (.t 58), none⟩])))))
 (.cond (.v 55) (.seq (.region [⟨(some 59), .move (.v 0), none⟩,
  ⟨(some 60), .move (.v 1), none⟩,
  ⟨(some 61), .call 55 [(.t 59), (.t 60)], none⟩,
  ⟨(some 62), .extract (.t 61) 0, none⟩,
  ⟨(some 63), .extract (.t 61) 1, none⟩,
  ⟨(some 6), .move (.t 62), none⟩,
  ⟨(some 7), .move (.t 63), none⟩])
 (.ret))
 (.skip)))))))))))))))))))
 (.seq (.region [⟨(some 64), .move (.v 0), none⟩,
  ⟨(some 65), .move (.v 1), none⟩,
  ⟨(some 66), .move (.v 2), none⟩,
  ⟨(some 67), .call 56 [(.t 64), (.t 65), (.t 66)], none⟩,
  ⟨(some 68), .extract (.t 67) 0, none⟩,
  ⟨(some 69), .extract (.t 67) 1, none⟩,
  ⟨(some 6), .move (.t 68), none⟩,
  ⟨(some 7), .move (.t 69), none⟩])
 (.ret)))
def g_alu_Do : AFn tab := { np := 3, keep := [0, 1, 2, 6, 7, 8, 9, 15, 20, 29, 35, 43, 51, 55], lent := [], body := b_alu_Do, res := [(.tmp 6, true), (.tmp 7, true)] }
def x_alu_Do : FnX := { keep := [0, 1, 2, 6, 7, 8, 9, 15, 20, 29, 35, 43, 51, 55], lent := [], res := [true, true], marks := [] }
def b_exec_two : ACode tab :=
 .seq (.region [⟨(some 6), .move (.c (.val (.int .u32) (W.of .u32 0) (.no))), none⟩])
 (.seq (.seq (.region [⟨(some 14), .move (.v 0), none⟩,
  ⟨(some 15), .move (.v 1), none⟩,
  ⟨(some 16), .move (.v 2), none⟩,
  ⟨(some 17), .call 35 [(.t 14), (.t 15), (.t 16)], none⟩,
  ⟨(some 13), .move (.t 17), none⟩,
  ⟨(some 18), .extract (.t 13) 0, none⟩,
  ⟨(some 19), .extract (.t 13) 1, none⟩,
  ⟨(some 7), .move (.t 18), none⟩,
  ⟨(some 8), .move (.t 19), none⟩])
 (.seq (.region [⟨(some 20), .move (.v 8), none⟩])
 (.cond (.v 20) (.seq (.region [⟨(some 21), .move (.v 7), none⟩,
  ⟨(some 6), .move (.t 21), none⟩])
 (.ret))
 (.skip))))
 (.seq (.seq (.region [⟨(some 23), .move (.v 0), none⟩,
  ⟨(some 24), .move (.v 1), none⟩,
  ⟨(some 25), .move (.v 2), none⟩,
  ⟨(some 26), .call 36 [(.t 23), (.t 24), (.t 25)], none⟩,
  ⟨(some 22), .move (.t 26), none⟩,
  ⟨(some 27), .extract (.t 22) 0, none⟩,
  ⟨(some 28), .extract (.t 22) 1, none⟩,
  ⟨(some 9), .move (.t 27), none⟩,
  ⟨(some 10), .move (.t 28), none⟩])
 (.seq (.region [⟨(some 29), .move (.v 10), none⟩])
 (.cond (.v 29) (.seq (.region [⟨(some 30), .move (.v 9), none⟩,
  ⟨(some 6), .move (.t 30), none⟩])
 (.ret))
 (.skip))))
 (.seq (.region [⟨(some 32), .move (.v 0), none⟩,
  ⟨(some 33), .move (.v 1), none⟩,
  ⟨(some 34), .move (.v 2), none⟩,
  ⟨(some 35), .call 37 [(.t 32), (.t 33), (.t 34)], none⟩,
  ⟨(some 31), .move (.t 35), none⟩,
  ⟨(some 36), .extract (.t 31) 0, none⟩,
  ⟨(some 37), .extract (.t 31) 1, none⟩,
  ⟨(some 11), .move (.t 36), none⟩,
  ⟨(some 12), .move (.t 37), none⟩])
 (.seq (.region [⟨(some 38), .move (.v 11), none⟩,
  ⟨(some 6), .move (.t 38), none⟩])
 (.ret)))))
def g_exec_two : AFn tab := { np := 3, keep := [0, 1, 2, 6, 7, 8, 9, 10, 11, 20, 29], lent := [], body := b_exec_two, res := [(.tmp 6, true)] }
def x_exec_two : FnX := { keep := [0, 1, 2, 6, 7, 8, 9, 10, 11, 20, 29], lent := [], res := [true], marks := [] }
def b_alu_Cmov : ACode tab :=
 .seq (.region [⟨(some 6), .move (.c (.val (.int .u32) (W.of .u32 0) (.no))), none⟩])
 (.seq (.seq (.region [⟨(some 7), .move (.v 2), none⟩,
  ⟨(some 8), .bin .neq (.t 7) (.c (.val (.int .u32) (W.of .u32 0) (.no))), none⟩])
 (.cond (.v 8) (.seq (.region [⟨(some 9), .move (.v 1), none⟩,
  ⟨(some 6), .move (.t 9), none⟩])
 (.ret))
 (.skip)))
 (.seq (.region [⟨(some 10), .move (.v 0), none⟩,
  ⟨(some 6), .move (.t 10), none⟩])
 (.ret)))
def g_alu_Cmov : AFn tab := { np := 3, keep := [0, 1, 2, 6, 8], lent := [], body := b_alu_Cmov, res := [(.tmp 6, true)] }
def x_alu_Cmov : FnX := { keep := [0, 1, 2, 6, 8], lent := [], res := [true], marks := [] }
def b_alu_Taken : ACode tab :=
 .seq (.region [⟨(some 6), .move (.c (.val (.bool) false (.no))), none⟩])
 (.seq (.seq (.region [⟨(some 7), .move (.v 0), none⟩])
 (.block 0 (.seq (.region [⟨(some 9), .bin .eql (.v 7) (.c (.val (.int .i64) (W.of .i64 43) (.no))), none⟩,
  ⟨(some 8), .move (.t 9), none⟩])
 (.cond (.v 8) (.seq (.region [⟨(some 10), .move (.v 1), none⟩,
  ⟨(some 11), .move (.v 2), none⟩,
  ⟨(some 12), .bin .eql (.t 10) (.t 11), none⟩,
  ⟨(some 6), .move (.t 12), none⟩])
 (.ret))
 (.seq (.region [⟨(some 14), .bin .eql (.v 7) (.c (.val (.int .i64) (W.of .i64 44) (.no))), none⟩,
  ⟨(some 13), .move (.t 14), none⟩])
 (.cond (.v 13) (.seq (.region [⟨(some 15), .move (.v 1), none⟩,
  ⟨(some 16), .move (.v 2), none⟩,
  ⟨(some 17), .bin .neq (.t 15) (.t 16), none⟩,
  ⟨(some 6), .move (.t 17), none⟩])
 (.ret))
 (.seq (.region [⟨(some 19), .bin .eql (.v 7) (.c (.val (.int .i64) (W.of .i64 45) (.no))), none⟩,
  ⟨(some 18), .move (.t 19), none⟩])
 (.cond (.v 18) (.seq (.region [⟨(some 20), .move (.v 1), none⟩,
  ⟨(some 21), .conv .i32 (.t 20), none⟩,
  ⟨(some 22), .move (.v 2), none⟩,
  ⟨(some 23), .conv .i32 (.t 22), none⟩,
  ⟨(some 24), .bin .lss (.t 21) (.t 23), none⟩,
  ⟨(some 6), .move (.t 24), none⟩])
 (.ret))
 (.seq (.region [⟨(some 26), .bin .eql (.v 7) (.c (.val (.int .i64) (W.of .i64 46) (.no))), none⟩,
  ⟨(some 25), .move (.t 26), none⟩])
 (.cond (.v 25) (.seq (.region [⟨(some 27), .move (.v 1), none⟩,
  ⟨(some 28), .conv .i32 (.t 27), none⟩,
  ⟨(some 29), .move (.v 2), none⟩,
  ⟨(some 30), .conv .i32 (.t 29), none⟩,
  ⟨(some 31), .bin .geq (.t 28) (.t 30), none⟩,
  ⟨(some 6), .move (.t 31), none⟩])
 (.ret))
 (.seq (.region [⟨(some 33), .bin .eql (.v 7) (.c (.val (.int .i64) (W.of .i64 47) (.no))), none⟩,
  ⟨(some 32), .move (.t 33), none⟩])
 (.cond (.v 32) (.seq (.region [⟨(some 34), .move (.v 1), none⟩,
  ⟨(some 35), .move (.v 2), none⟩,
  ⟨(some 36), .bin .lss (.t 34) (.t 35), none⟩,
  ⟨(some 6), .move (.t 36), none⟩])
 (.ret))
 (.seq (.region [⟨(some 38), .bin .eql (.v 7) (.c (.val (.int .i64) (W.of .i64 48) (.no))), none⟩,
  ⟨(some 37), .move (.t 38), none⟩])
 (.cond (.v 37) (.seq (.region [⟨(some 39), .move (.v 1), none⟩,
  ⟨(some 40), .move (.v 2), none⟩,
  ⟨(some 41), .bin .geq (.t 39) (.t 40), none⟩,
  ⟨(some 6), .move (.t 41), none⟩])
 (.ret))
 (.skip)))))))))))))))
 (.seq (.region [⟨(some 6), .move (.c (.val (.bool) false (.no))), none⟩])
 (.ret)))
def g_alu_Taken : AFn tab := { np := 3, keep := [0, 1, 2, 6, 7, 8, 13, 18, 25, 32, 37], lent := [], body := b_alu_Taken, res := [(.tmp 6, true)] }
def x_alu_Taken : FnX := { keep := [0, 1, 2, 6, 7, 8, 13, 18, 25, 32, 37], lent := [], res := [true], marks := [] }
def b_exec_ahead : ACode tab :=
 .seq (.region [⟨(some 1), .box (.named .TUop) (.v 0), none⟩,
  ⟨(some 2), .move (.c (.val (.int .u32) (W.of .u32 0) (.no))), none⟩])
 (.seq (.region [⟨(some 3), .fld .TUop 1 (.v 1), none⟩,
  ⟨(some 4), .fld .TSlot 0 (.t 3), none⟩,
  ⟨(some 5), .load (.int .u32) (.t 4), none⟩,
  ⟨(some 6), .fld .TUop 0 (.v 1), none⟩,
  ⟨(some 7), .fld .TInst 4 (.t 6), none⟩,
  ⟨(some 8), .load (.int .i64) (.t 7), none⟩,
  ⟨(some 9), .conv .u32 (.t 8), none⟩,
  ⟨(some 10), .bin .mul (.c (.val (.int .u32) (W.of .u32 4) (.no))) (.t 9), none⟩,
  ⟨(some 11), .bin .add (.t 5) (.t 10), none⟩,
  ⟨(some 2), .move (.t 11), none⟩])
 (.ret))
def g_exec_ahead : AFn tab := { np := 1, keep := [0, 1, 2], lent := [], body := b_exec_ahead, res := [(.tmp 2, true)] }
def x_exec_ahead : FnX := { keep := [0, 1, 2], lent := [], res := [true], marks := [] }
def b_exec_Do : ACode tab :=
 .seq (.region [⟨(some 2), .box (.named .TUop) (.v 0), none⟩,
  ⟨(some 3), .box (.arr 3 (.int .u32)) (.v 1), none⟩,
  ⟨(some 4), .move (.c (.val (.int .u32) (W.of .u32 0) (.no))), none⟩,
  ⟨(some 5), .move (.c (.val (.int .u32) (W.of .u32 0) (.no))), none⟩,
  ⟨(some 6), .move (.c (.val (.int .i64) (W.of .i64 0) (.no))), none⟩,
  ⟨(some 7), .move (.c (.val (.int .u32) (W.of .u32 0) (.no))), none⟩])
 (.seq (.region [⟨(some 9), .fld .TUop 0 (.v 2), none⟩,
  ⟨(some 10), .fld .TInst 0 (.t 9), none⟩,
  ⟨(some 11), .load (.int .i64) (.t 10), none⟩,
  ⟨(some 8), .move (.t 11), none⟩])
 (.seq (.region [⟨(some 12), .load (.named .TUop) (.v 2), none⟩,
  ⟨(some 13), .call 21 [(.t 12)], none⟩,
  ⟨(some 5), .move (.t 13), none⟩])
 (.seq (.block 0 (.seq (.region [⟨(some 15), .fld .TUop 7 (.v 2), none⟩,
  ⟨(some 16), .load (.int .i64) (.t 15), none⟩,
  ⟨(some 17), .bin .neq (.t 16) (.c (.val (.int .i64) (W.of .i64 0) (.no))), none⟩,
  ⟨(some 14), .move (.t 17), none⟩])
 (.cond (.v 14) (.seq (.draw [⟨(some 18), .move (.v 5), none⟩,
  ⟨(some 19), .fld .TUop 7 (.v 2), none⟩,
  ⟨(some 20), .load (.int .i64) (.t 19), none⟩,
  ⟨(some 21), .fld .TUop 8 (.v 2), none⟩,
  ⟨(some 22), .load (.int .u32) (.t 21), none⟩,
  ⟨(some 4), .move (.c (.val (.int .u32) (W.of .u32 0) (.no))), none⟩,
  ⟨(some 5), .move (.t 18), none⟩,
  ⟨(some 6), .move (.t 20), none⟩,
  ⟨(some 7), .move (.t 22), none⟩] [0, 0, 2, 0, 8, 0, 33, 103, 255])
 (.ret))
 (.seq (.region [⟨(some 24), .move (.v 8), none⟩,
  ⟨(some 25), .call 22 [(.t 24), (.c (.val (.int .i64) (W.of .i64 1) (.no))), (.c (.val (.int .i64) (W.of .i64 23) (.no)))], none⟩,
  ⟨(some 23), .move (.t 25), none⟩])
 (.cond (.v 23) (.region [⟨(some 26), .move (.v 8), none⟩,
  ⟨(some 27), .idxA 3 (.int .u32) (.v 3) (.c (.val (.int .i64) (W.of .i64 0) (.no))), none⟩,
  ⟨(some 28), .load (.int .u32) (.t 27), none⟩,
  ⟨(some 29), .idxA 3 (.int .u32) (.v 3) (.c (.val (.int .i64) (W.of .i64 1) (.no))), none⟩,
  ⟨(some 30), .load (.int .u32) (.t 29), none⟩,
  ⟨(some 31), .call 23 [(.t 26), (.t 28), (.t 30)], none⟩,
  ⟨(some 4), .move (.t 31), none⟩])
 (.seq (.region [⟨(some 33), .move (.v 8), none⟩,
  ⟨(some 34), .bin .eql (.t 33) (.c (.val (.int .i64) (W.of .i64 24) (.no))), none⟩,
  ⟨(some 32), .move (.t 34), none⟩])
 (.cond (.v 32) (.region [⟨(some 35), .idxA 3 (.int .u32) (.v 3) (.c (.val (.int .i64) (W.of .i64 2) (.no))), none⟩,
  ⟨(some 36), .load (.int .u32) (.t 35), none⟩,
  ⟨(some 37), .idxA 3 (.int .u32) (.v 3) (.c (.val (.int .i64) (W.of .i64 0) (.no))), none⟩,
  ⟨(some 38), .load (.int .u32) (.t 37), none⟩,
  ⟨(some 39), .idxA 3 (.int .u32) (.v 3) (.c (.val (.int .i64) (W.of .i64 1) (.no))), none⟩,
  ⟨(some 40), .load (.int .u32) (.t 39), none⟩,
  ⟨(some 41), .call 24 [(.t 36), (.t 38), (.t 40)], none⟩,
  ⟨(some 4), .move (.t 41), none⟩])
 (.seq (.region [⟨(some 43), .move (.v 8), none⟩,
  ⟨(some 44), .call 22 [(.t 43), (.c (.val (.int .i64) (W.of .i64 25) (.no))), (.c (.val (.int .i64) (W.of .i64 33) (.no)))], none⟩,
  ⟨(some 42), .move (.t 44), none⟩])
 (.cond (.v 42) (.region [⟨(some 45), .move (.v 8), none⟩,
  ⟨(some 46), .idxA 3 (.int .u32) (.v 3) (.c (.val (.int .i64) (W.of .i64 0) (.no))), none⟩,
  ⟨(some 47), .load (.int .u32) (.t 46), none⟩,
  ⟨(some 48), .fld .TUop 0 (.v 2), none⟩,
  ⟨(some 49), .fld .TInst 4 (.t 48), none⟩,
  ⟨(some 50), .load (.int .i64) (.t 49), none⟩,
  ⟨(some 51), .conv .u32 (.t 50), none⟩,
  ⟨(some 52), .call 23 [(.t 45), (.t 47), (.t 51)], none⟩,
  ⟨(some 4), .move (.t 52), none⟩])
 (.seq (.region [⟨(some 54), .move (.v 8), none⟩,
  ⟨(some 55), .call 22 [(.t 54), (.c (.val (.int .i64) (W.of .i64 43) (.no))), (.c (.val (.int .i64) (W.of .i64 48) (.no)))], none⟩,
  ⟨(some 53), .move (.t 55), none⟩])
 (.cond (.v 53) (.seq (.region [⟨(some 56), .move (.v 8), none⟩,
  ⟨(some 57), .idxA 3 (.int .u32) (.v 3) (.c (.val (.int .i64) (W.of .i64 0) (.no))), none⟩,
  ⟨(some 58), .load (.int .u32) (.t 57), none⟩,
  ⟨(some 59), .idxA 3 (.int .u32) (.v 3) (.c (.val (.int .i64) (W.of .i64 1) (.no))), none⟩,
  ⟨(some 60), .load (.int .u32) (.t 59), none⟩,
  ⟨(some 61), .call 25 [(.t 56), (.t 58), (.t 60)], none⟩])
 (.cond (.v 61) (.region [⟨(some 62), .load (.named .TUop) (.v 2), none⟩,
  ⟨(some 63), .call 26 [(.t 62)], none⟩,
  ⟨(some 5), .move (.t 63), none⟩])
 (.skip)))
 (.seq (.region [⟨(some 65), .move (.v 8), none⟩,
  ⟨(some 66), .bin .eql (.t 65) (.c (.val (.int .i64) (W.of .i64 49) (.no))), none⟩,
  ⟨(some 64), .move (.t 66), none⟩])
 (.cond (.v 64) (.region [⟨(some 67), .move (.v 5), none⟩,
  ⟨(some 68), .load (.named .TUop) (.v 2), none⟩,
  ⟨(some 69), .call 26 [(.t 68)], none⟩,
  ⟨(some 4), .move (.t 67), none⟩,
  ⟨(some 5), .move (.t 69), none⟩])
 (.seq (.region [⟨(some 71), .move (.v 8), none⟩,
  ⟨(some 72), .bin .eql (.t 71) (.c (.val (.int .i64) (W.of .i64 50) (.no))), none⟩,
  ⟨(some 70), .move (.t 72), none⟩])
 (.cond (.v 70) (.draw [⟨(some 73), .move (.v 5), none⟩,
  ⟨(some 74), .idxA 3 (.int .u32) (.v 3) (.c (.val (.int .i64) (W.of .i64 0) (.no))), none⟩,
  ⟨(some 75), .load (.int .u32) (.t 74), none⟩,
  ⟨(some 76), .fld .TUop 0 (.v 2), none⟩,
  ⟨(some 77), .fld .TInst 4 (.t 76), none⟩,
  ⟨(some 78), .load (.int .i64) (.t 77), none⟩,
  ⟨(some 79), .conv .u32 (.t 78), none⟩,
  ⟨(some 80), .bin .add (.t 75) (.t 79), none⟩,
  ⟨(some 81), .bin .andNot (.t 80) (.c (.val (.int .u32) (W.of .u32 3) (.no))), none⟩,
  ⟨(some 4), .move (.t 73), none⟩,
  ⟨(some 5), .move (.t 81), none⟩] [0, 0, 2, 0, 8, 24, 56, 126, 254, 1, 1023])
 (.skip))))))))))))))))
 (.seq (.region [⟨(some 82), .move (.v 4), none⟩,
  ⟨(some 83), .move (.v 5), none⟩,
  ⟨(some 4), .move (.t 82), none⟩,
  ⟨(some 5), .move (.t 83), none⟩,
  ⟨(some 6), .move (.c (.val (.int .i64) (W.of .i64 0) (.no))), none⟩,
  ⟨(some 7), .move (.c (.val (.int .u32) (W.of .u32 0) (.no))), none⟩])
 (.ret)))))
def g_exec_Do : AFn tab := { np := 2, keep := [0, 1, 2, 3, 4, 5, 6, 7, 8, 14, 23, 32, 42, 53, 61, 64, 70], lent := [], body := b_exec_Do, res := [(.tmp 4, true), (.tmp 5, true), (.tmp 6, true), (.tmp 7, true)] }
def x_exec_Do : FnX := { keep := [0, 1, 2, 3, 4, 5, 6, 7, 8, 14, 23, 32, 42, 53, 61, 64, 70], lent := [], res := [true, true, true, true], marks := [] }
def b_ref04_signed : ACode tab :=
 .seq (.region [⟨(some 2), .move (.c (.val (.int .i64) (W.of .i64 0) (.no))), none⟩])
 (.seq (.seq (.region [⟨(some 3), .move (.v 0), none⟩,
  ⟨(some 4), .bin .geq (.t 3) (.c (.val (.int .u32) (W.of .u32 2147483648) (.no))), none⟩])
 (.cond (.v 4) (.seq (.region [⟨(some 5), .move (.v 0), none⟩,
  ⟨(some 6), .conv .i64 (.t 5), none⟩,
  ⟨(some 7), .bin .sub (.t 6) (.c (.val (.int .i64) (W.of .i64 4294967296) (.no))), none⟩,
  ⟨(some 2), .move (.t 7), none⟩])
 (.ret))
 (.skip)))
 (.seq (.region [⟨(some 8), .move (.v 0), none⟩,
  ⟨(some 9), .conv .i64 (.t 8), none⟩,
  ⟨(some 2), .move (.t 9), none⟩])
 (.ret)))
def g_ref04_signed : AFn tab := { np := 1, keep := [0, 2, 4], lent := [], body := b_ref04_signed, res := [(.tmp 2, true)] }
def x_ref04_signed : FnX := { keep := [0, 2, 4], lent := [], res := [true], marks := [] }
def b_ref04_Do : ACode tab :=
 .seq (.region [⟨(some 6), .move (.c (.val (.int .u32) (W.of .u32 0) (.no))), none⟩,
  ⟨(some 7), .move (.c (.val (.bool) false (.no))), none⟩])
 (.seq (.seq (.region [⟨(some 8), .move (.v 0), none⟩,
  ⟨(some 9), .bin .eql (.t 8) (.c (.val (.int .i64) (W.of .i64 11) (.no))), none⟩])
 (.cond (.v 9) (.seq (.region [⟨(some 10), .move (.v 1), none⟩,
  ⟨(some 11), .conv .u64 (.t 10), none⟩,
  ⟨(some 12), .move (.v 2), none⟩,
  ⟨(some 13), .conv .u64 (.t 12), none⟩,
  ⟨(some 14), .bin .mul (.t 11) (.t 13), none⟩,
  ⟨(some 15), .bin .rem (.t 14) (.c (.val (.int .u64) (W.of .u64 4294967296) (.no))), none⟩,
  ⟨(some 16), .conv .u32 (.t 15), none⟩,
  ⟨(some 6), .move (.t 16), none⟩,
  ⟨(some 7), .move (.c (.val (.bool) true (.no))), none⟩])
 (.ret))
 (.skip)))
 (.seq (.seq (.region [⟨(some 17), .move (.v 0), none⟩,
  ⟨(some 18), .bin .eql (.t 17) (.c (.val (.int .i64) (W.of .i64 13) (.no))), none⟩])
 (.cond (.v 18) (.seq (.region [⟨(some 19), .move (.v 1), none⟩,
  ⟨(some 20), .conv .u64 (.t 19), none⟩,
  ⟨(some 21), .move (.v 2), none⟩,
  ⟨(some 22), .conv .u64 (.t 21), none⟩,
  ⟨(some 23), .bin .mul (.t 20) (.t 22), none⟩,
  ⟨(some 24), .bin .quo (.t 23) (.c (.val (.int .u64) (W.of .u64 4294967296) (.no))), none⟩,
  ⟨(some 25), .conv .u32 (.t 24), none⟩,
  ⟨(some 6), .move (.t 25), none⟩,
  ⟨(some 7), .move (.c (.val (.bool) true (.no))), none⟩])
 (.ret))
 (.skip)))
 (.seq (.seq (.region [⟨(some 26), .move (.v 0), none⟩,
  ⟨(some 27), .bin .eql (.t 26) (.c (.val (.int .i64) (W.of .i64 12) (.no))), none⟩])
 (.cond (.v 27) (.seq (.region [⟨(some 28), .move (.v 1), none⟩,
  ⟨(some 29), .call 57 [(.t 28)], none⟩,
  ⟨(some 30), .move (.v 2), none⟩,
  ⟨(some 31), .call 57 [(.t 30)], none⟩,
  ⟨(some 32), .bin .mul (.t 29) (.t 31), none⟩,
  ⟨(some 33), .conv .u64 (.t 32), none⟩,
  ⟨(some 34), .bin .quo (.t 33) (.c (.val (.int .u64) (W.of .u64 4294967296) (.no))), none⟩,
  ⟨(some 35), .conv .u32 (.t 34), none⟩,
  ⟨(some 6), .move (.t 35), none⟩,
  ⟨(some 7), .move (.c (.val (.bool) true (.no))), none⟩])
 (.ret))
 (.skip)))
 (.seq (.region [⟨(some 6), .move (.c (.val (.int .u32) (W.of .u32 0) (.no))), none⟩,
  ⟨(some 7), .move (.c (.val (.bool) false (.no))), none⟩])
 (.ret)))))
def g_ref04_Do : AFn tab := { np := 3, keep := [0, 1, 2, 6, 7, 9, 18, 27], lent := [], body := b_ref04_Do, res := [(.tmp 6, true), (.tmp 7, true)] }
def x_ref04_Do : FnX := { keep := [0, 1, 2, 6, 7, 9, 18, 27], lent := [], res := [true, true], marks := [] }
def b_ref05_Do : ACode tab :=
 .seq (.region [⟨(some 6), .move (.c (.val (.int .u32) (W.of .u32 0) (.no))), none⟩,
  ⟨(some 7), .move (.c (.val (.bool) false (.no))), none⟩])
 (.seq (.region [⟨(some 10), .move (.v 1), none⟩,
  ⟨(some 11), .conv .i32 (.t 10), none⟩,
  ⟨(some 12), .conv .i64 (.t 11), none⟩,
  ⟨(some 13), .move (.v 2), none⟩,
  ⟨(some 14), .conv .i32 (.t 13), none⟩,
  ⟨(some 15), .conv .i64 (.t 14), none⟩,
  ⟨(some 8), .move (.t 12), none⟩,
  ⟨(some 9), .move (.t 15), none⟩])
 (.seq (.seq (.region [⟨(some 16), .move (.v 0), none⟩])
 (.block 0 (.seq (.seq (.region [⟨(some 18), .bin .eql (.v 16) (.c (.val (.int .i64) (W.of .i64 15) (.no))), none⟩,
  ⟨(some 17), .move (.t 18), none⟩])
 (.cond (.v 17) (.skip)
 (.region [⟨(some 19), .bin .eql (.v 16) (.c (.val (.int .i64) (W.of .i64 17) (.no))), none⟩,
  ⟨(some 17), .move (.t 19), none⟩])))
 (.cond (.v 17) (.seq (.seq (.region [⟨(some 20), .move (.v 2), none⟩,
  ⟨(some 21), .bin .eql (.t 20) (.c (.val (.int .u32) (W.of .u32 0) (.no))), none⟩,
  ⟨(some 22), .move (.t 21), none⟩,
  ⟨(some 23), .move (.v 0), (some (22, true))⟩,
  ⟨(some 24), .bin .eql (.t 23) (.c (.val (.int .i64) (W.of .i64 15) (.no))), (some (22, true))⟩,
  ⟨(some 25), .pick (.t 22) (.t 24) (.c (.val (.bool) false (.no))), none⟩])
 (.cond (.v 25) (.seq (.region [⟨(some 6), .move (.c (.val (.int .u32) (W.of .u32 4294967295) (.no))), none⟩,
  ⟨(some 7), .move (.c (.val (.bool) true (.no))), none⟩])
 (.ret))
 (.skip)))
 (.seq (.seq (.region [⟨(some 26), .move (.v 2), none⟩,
  ⟨(some 27), .bin .eql (.t 26) (.c (.val (.int .u32) (W.of .u32 0) (.no))), none⟩])
 (.cond (.v 27) (.seq (.region [⟨(some 28), .move (.v 1), none⟩,
  ⟨(some 6), .move (.t 28), none⟩,
  ⟨(some 7), .move (.c (.val (.bool) true (.no))), none⟩])
 (.ret))
 (.skip)))
 (.seq (.seq (.region [⟨(some 29), .move (.v 0), none⟩,
  ⟨(some 30), .bin .eql (.t 29) (.c (.val (.int .i64) (W.of .i64 15) (.no))), none⟩])
 (.cond (.v 30) (.seq (.region [⟨(some 31), .move (.v 1), none⟩,
  ⟨(some 32), .move (.v 2), none⟩,
  ⟨(some 33), .bin .quo (.t 31) (.t 32), none⟩,
  ⟨(some 6), .move (.t 33), none⟩,
  ⟨(some 7), .move (.c (.val (.bool) true (.no))), none⟩])
 (.ret))
 (.skip)))
 (.seq (.region [⟨(some 34), .move (.v 1), none⟩,
  ⟨(some 35), .move (.v 2), none⟩,
  ⟨(some 36), .bin .rem (.t 34) (.t 35), none⟩,
  ⟨(some 6), .move (.t 36), none⟩,
  ⟨(some 7), .move (.c (.val (.bool) true (.no))), none⟩])
 (.ret)))))
 (.seq (.region [⟨(some 38), .bin .eql (.v 16) (.c (.val (.int .i64) (W.of .i64 14) (.no))), none⟩,
  ⟨(some 37), .move (.t 38), none⟩])
 (.cond (.v 37) (.seq (.seq (.region [⟨(some 39), .move (.v 9), none⟩,
  ⟨(some 40), .bin .eql (.t 39) (.c (.val (.int .i64) (W.of .i64 0) (.no))), none⟩])
 (.cond (.v 40) (.seq (.region [⟨(some 6), .move (.c (.val (.int .u32) (W.of .u32 4294967295) (.no))), none⟩,
  ⟨(some 7), .move (.c (.val (.bool) true (.no))), none⟩])
 (.ret))
 (.skip)))
 (.seq (.region [⟨(some 41), .move (.v 8), none⟩,
  ⟨(some 42), .move (.v 9), none⟩,
  ⟨(some 43), .bin .quo (.t 41) (.t 42), none⟩,
  ⟨(some 44), .conv .u32 (.t 43), none⟩,
  ⟨(some 6), .move (.t 44), none⟩,
  ⟨(some 7), .move (.c (.val (.bool) true (.no))), none⟩])
 (.ret)))
 (.seq (.region [⟨(some 46), .bin .eql (.v 16) (.c (.val (.int .i64) (W.of .i64 16) (.no))), none⟩,
  ⟨(some 45), .move (.t 46), none⟩])
 (.cond (.v 45) (.seq (.seq (.region [⟨(some 47), .move (.v 9), none⟩,
  ⟨(some 48), .bin .eql (.t 47) (.c (.val (.int .i64) (W.of .i64 0) (.no))), none⟩])
 (.cond (.v 48) (.seq (.region [⟨(some 49), .move (.v 1), none⟩,
  ⟨(some 6), .move (.t 49), none⟩,
  ⟨(some 7), .move (.c (.val (.bool) true (.no))), none⟩])
 (.ret))
 (.skip)))
 (.seq (.region [⟨(some 50), .move (.v 8), none⟩,
  ⟨(some 51), .move (.v 9), none⟩,
  ⟨(some 52), .bin .rem (.t 50) (.t 51), none⟩,
  ⟨(some 53), .conv .u32 (.t 52), none⟩,
  ⟨(some 6), .move (.t 53), none⟩,
  ⟨(some 7), .move (.c (.val (.bool) true (.no))), none⟩])
 (.ret)))
 (.skip)))))))))
 (.seq (.region [⟨(some 6), .move (.c (.val (.int .u32) (W.of .u32 0) (.no))), none⟩,
  ⟨(some 7), .move (.c (.val (.bool) false (.no))), none⟩])
 (.ret))))
def g_ref05_Do : AFn tab := { np := 3, keep := [0, 1, 2, 6, 7, 8, 9, 16, 17, 25, 27, 30, 37, 40, 45, 48], lent := [], body := b_ref05_Do, res := [(.tmp 6, true), (.tmp 7, true)] }
def x_ref05_Do : FnX := { keep := [0, 1, 2, 6, 7, 8, 9, 16, 17, 25, 27, 30, 37, 40, 45, 48], lent := [], res := [true, true], marks := [] }
def b_ref03_Cmov : ACode tab :=
 .seq (.region [⟨(some 6), .move (.c (.val (.int .u32) (W.of .u32 0) (.no))), none⟩])
 (.seq (.seq (.region [⟨(some 7), .move (.v 2), none⟩,
  ⟨(some 8), .bin .neq (.t 7) (.c (.val (.int .u32) (W.of .u32 0) (.no))), none⟩])
 (.cond (.v 8) (.seq (.region [⟨(some 9), .move (.v 1), none⟩,
  ⟨(some 6), .move (.t 9), none⟩])
 (.ret))
 (.skip)))
 (.seq (.region [⟨(some 10), .move (.v 0), none⟩,
  ⟨(some 6), .move (.t 10), none⟩])
 (.ret)))
def g_ref03_Cmov : AFn tab := { np := 3, keep := [0, 1, 2, 6, 8], lent := [], body := b_ref03_Cmov, res := [(.tmp 6, true)] }
def x_ref03_Cmov : FnX := { keep := [0, 1, 2, 6, 8], lent := [], res := [true], marks := [] }
def c_ref03_bit_5 : ACode tab :=
 .seq (.seq (.region [⟨(some 6), .move (.v 5), none⟩,
  ⟨(some 7), .move (.v 1), none⟩,
  ⟨(some 8), .bin .lss (.t 6) (.t 7), none⟩])
 (.cond (.v 8) (.skip)
 (.exit 0)))
 (.seq (.block 1 (.region [⟨(some 11), .move (.v 0), none⟩,
  ⟨(some 12), .bin .quo (.t 11) (.c (.val (.int .u32) (W.of .u32 2) (.no))), none⟩,
  ⟨(some 0), .move (.t 12), none⟩]))
 (.region [⟨(some 9), .move (.v 5), none⟩,
  ⟨(some 10), .bin .add (.t 9) (.c (.val (.int .i64) (W.of .i64 1) (.no))), none⟩,
  ⟨(some 5), .move (.t 10), none⟩]))
def m_ref03_bit_5 : ACode tab := .trim [(0, .any)] (.loop (.mark 7 [(0, .any), (1, .any), (5, .any)] c_ref03_bit_5))
def b_ref03_bit : ACode tab :=
 .seq (.region [⟨(some 4), .move (.c (.val (.int .u32) (W.of .u32 0) (.no))), none⟩])
 (.seq (.seq (.region [⟨(some 5), .move (.c (.val (.int .i64) (W.of .i64 0) (.no))), none⟩])
 (.block 0 (.mark 5 [(0, .any), (1, .any), (5, .any)] m_ref03_bit_5)))
 (.seq (.region [⟨(some 13), .move (.v 0), none⟩,
  ⟨(some 14), .bin .rem (.t 13) (.c (.val (.int .u32) (W.of .u32 2) (.no))), none⟩,
  ⟨(some 4), .move (.t 14), none⟩])
 (.ret)))
def g_ref03_bit : AFn tab := { np := 2, keep := [0, 1, 4, 5, 8], lent := [], body := b_ref03_bit, res := [(.tmp 4, true)] }
def x_ref03_bit : FnX := { keep := [0, 1, 4, 5, 8], lent := [], res := [true], marks := [(5, [(0, .any), (1, .any), (5, .any)]), (6, [(0, .any)]), (7, [(0, .any), (1, .any), (5, .any)])] }
def c_ref03_word_7 : ACode tab :=
 .seq (.seq (.region [⟨(some 5), .move (.v 4), none⟩,
  ⟨(some 6), .bin .geq (.t 5) (.c (.val (.int .i64) (W.of .i64 0) (.no))), none⟩])
 (.cond (.v 6) (.skip)
 (.exit 0)))
 (.seq (.block 1 (.region [⟨(some 9), .move (.v 3), none⟩,
  ⟨(some 10), .bin .mul (.c (.val (.int .u32) (W.of .u32 2) (.no))) (.t 9), none⟩,
  ⟨(some 11), .move (.v 4), none⟩,
  ⟨(some 12), .idxA 32 (.int .u32) (.v 1) (.t 11), none⟩,
  ⟨(some 13), .load (.int .u32) (.t 12), none⟩,
  ⟨(some 14), .bin .add (.t 10) (.t 13), none⟩,
  ⟨(some 3), .move (.t 14), none⟩]))
 (.region [⟨(some 7), .move (.v 4), none⟩,
  ⟨(some 8), .bin .sub (.t 7) (.c (.val (.int .i64) (W.of .i64 1) (.no))), none⟩,
  ⟨(some 4), .move (.t 8), none⟩]))
def m_ref03_word_7 : ACode tab := .trim [(3, .any)] (.loop (.mark 9 [(1, .any), (3, .any), (4, .any)] c_ref03_word_7))
def b_ref03_word : ACode tab :=
 .seq (.region [⟨(some 1), .box (.arr 32 (.int .u32)) (.v 0), none⟩,
  ⟨(some 2), .move (.c (.val (.int .u32) (W.of .u32 0) (.no))), none⟩])
 (.seq (.region [⟨(some 3), .move (.c (.val (.int .u32) (W.of .u32 0) (.no))), none⟩])
 (.seq (.seq (.region [⟨(some 4), .move (.c (.val (.int .i64) (W.of .i64 31) (.no))), none⟩])
 (.block 0 (.mark 7 [(1, .any), (3, .any), (4, .any)] m_ref03_word_7)))
 (.seq (.region [⟨(some 15), .move (.v 3), none⟩,
  ⟨(some 2), .move (.t 15), none⟩])
 (.ret))))
def g_ref03_word : AFn tab := { np := 1, keep := [0, 1, 2, 3, 4, 6], lent := [], body := b_ref03_word, res := [(.tmp 2, true)] }
def x_ref03_word : FnX := { keep := [0, 1, 2, 3, 4, 6], lent := [], res := [true], marks := [(7, [(1, .any), (3, .any), (4, .any)]), (8, [(3, .any)]), (9, [(1, .any), (3, .any), (4, .any)])] }
def c_ref03_logic_7 : ACode tab :=
 .seq (.seq (.region [⟨(some 12), .move (.v 10), none⟩,
  ⟨(some 13), .bin .lss (.t 12) (.c (.val (.int .i64) (W.of .i64 32) (.no))), none⟩])
 (.cond (.v 13) (.skip)
 (.exit 0)))
 (.seq (.block 1 (.seq (.region [⟨(some 16), .move (.v 0), none⟩,
  ⟨(some 17), .move (.v 10), none⟩,
  ⟨(some 18), .call 60 [(.t 16), (.t 17)], none⟩,
  ⟨(some 19), .move (.v 1), none⟩,
  ⟨(some 20), .move (.v 10), none⟩,
  ⟨(some 21), .call 60 [(.t 19), (.t 20)], none⟩,
  ⟨(some 22), .bin .add (.t 18) (.t 21), none⟩,
  ⟨(some 11), .move (.t 22), none⟩])
 (.seq (.region [⟨(some 23), .move (.v 11), none⟩,
  ⟨(some 24), .move (.v 2), none⟩,
  ⟨(some 25), .bin .geq (.t 23) (.t 24), none⟩,
  ⟨(some 26), .move (.t 25), none⟩,
  ⟨(some 27), .move (.v 11), (some (26, true))⟩,
  ⟨(some 28), .move (.v 3), (some (26, true))⟩,
  ⟨(some 29), .bin .leq (.t 27) (.t 28), (some (26, true))⟩,
  ⟨(some 30), .pick (.t 26) (.t 29) (.c (.val (.bool) false (.no))), none⟩])
 (.cond (.v 30) (.region [⟨(some 31), .move (.v 10), none⟩,
  ⟨(some 32), .idxA 32 (.int .u32) (.v 9) (.t 31), none⟩,
  ⟨none, .store (.int .u32) (.t 32) (.c (.val (.int .u32) (W.of .u32 1) (.no))), none⟩])
 (.skip)))))
 (.region [⟨(some 14), .move (.v 10), none⟩,
  ⟨(some 15), .bin .add (.t 14) (.c (.val (.int .i64) (W.of .i64 1) (.no))), none⟩,
  ⟨(some 10), .move (.t 15), none⟩]))
def m_ref03_logic_7 : ACode tab := .trim [(9, .any)] (.loop (.mark 9 [(0, .any), (1, .any), (2, .any), (3, .any), (9, .any), (10, .any), (27, .any), (28, .any), (29, .any)] c_ref03_logic_7))
def b_ref03_logic : ACode tab :=
 .seq (.region [⟨(some 8), .move (.c (.val (.int .u32) (W.of .u32 0) (.no))), none⟩])
 (.seq (.region [⟨(some 9), .alloc (.arr 32 (.int .u32)), none⟩])
 (.seq (.seq (.region [⟨(some 10), .move (.c (.val (.int .i64) (W.of .i64 0) (.no))), none⟩])
 (.block 0 (.mark 7 [(0, .any), (1, .any), (2, .any), (3, .any), (9, .any), (10, .any), (27, .any), (28, .any), (29, .any)] m_ref03_logic_7)))
 (.seq (.region [⟨(some 33), .load (.arr 32 (.int .u32)) (.v 9), none⟩,
  ⟨(some 34), .call 74 [(.t 33)], none⟩,
  ⟨(some 8), .move (.t 34), none⟩])
 (.ret))))
def g_ref03_logic : AFn tab := { np := 4, keep := [0, 1, 2, 3, 8, 9, 10, 11, 13, 30], lent := [], body := b_ref03_logic, res := [(.tmp 8, true)] }
def x_ref03_logic : FnX := { keep := [0, 1, 2, 3, 8, 9, 10, 11, 13, 30], lent := [], res := [true], marks := [(7, [(0, .any), (1, .any), (2, .any), (3, .any), (9, .any), (10, .any), (27, .any), (28, .any), (29, .any)]), (8, [(9, .any)]), (9, [(0, .any), (1, .any), (2, .any), (3, .any), (9, .any), (10, .any), (27, .any), (28, .any), (29, .any)])] }
def c_ref03_moved_7 : ACode tab :=
 .seq (.seq (.region [⟨(some 9), .move (.v 8), none⟩,
  ⟨(some 10), .bin .lss (.t 9) (.c (.val (.int .i64) (W.of .i64 32) (.no))), none⟩])
 (.cond (.v 10) (.skip)
 (.exit 0)))
 (.seq (.block 1 (.seq (.region [⟨(some 13), .move (.v 8), none⟩,
  ⟨(some 14), .move (.v 2), none⟩,
  ⟨(some 15), .idxA 32 (.int .u32) (.v 7) (.t 13), none⟩,
  ⟨none, .store (.int .u32) (.t 15) (.t 14), none⟩])
 (.seq (.region [⟨(some 16), .move (.v 8), none⟩,
  ⟨(some 17), .move (.v 1), none⟩,
  ⟨(some 18), .bin .add (.t 16) (.t 17), none⟩,
  ⟨(some 19), .bin .geq (.t 18) (.c (.val (.int .i64) (W.of .i64 0) (.no))), none⟩,
  ⟨(some 20), .move (.t 19), none⟩,
  ⟨(some 21), .move (.v 8), (some (20, true))⟩,
  ⟨(some 22), .move (.v 1), (some (20, true))⟩,
  ⟨(some 23), .bin .add (.t 21) (.t 22), (some (20, true))⟩,
  ⟨(some 24), .bin .lss (.t 23) (.c (.val (.int .i64) (W.of .i64 32) (.no))), (some (20, true))⟩,
  ⟨(some 25), .pick (.t 20) (.t 24) (.c (.val (.bool) false (.no))), none⟩])
 (.cond (.v 25) (.region [⟨(some 26), .move (.v 8), none⟩,
  ⟨(some 27), .move (.v 0), none⟩,
  ⟨(some 28), .move (.v 8), none⟩,
  ⟨(some 29), .move (.v 1), none⟩,
  ⟨(some 30), .bin .add (.t 28) (.t 29), none⟩,
  ⟨(some 31), .call 60 [(.t 27), (.t 30)], none⟩,
  ⟨(some 32), .idxA 32 (.int .u32) (.v 7) (.t 26), none⟩,
  ⟨none, .store (.int .u32) (.t 32) (.t 31), none⟩])
 (.skip)))))
 (.region [⟨(some 11), .move (.v 8), none⟩,
  ⟨(some 12), .bin .add (.t 11) (.c (.val (.int .i64) (W.of .i64 1) (.no))), none⟩,
  ⟨(some 8), .move (.t 12), none⟩]))
def m_ref03_moved_7 : ACode tab := .trim [(7, .any)] (.loop (.mark 9 [(0, .any), (1, .any), (2, .any), (7, .any), (8, .any), (21, .any), (22, .any), (23, .any), (24, .any)] c_ref03_moved_7))
def b_ref03_moved : ACode tab :=
 .seq (.region [⟨(some 6), .move (.c (.val (.int .u32) (W.of .u32 0) (.no))), none⟩])
 (.seq (.region [⟨(some 7), .alloc (.arr 32 (.int .u32)), none⟩])
 (.seq (.seq (.region [⟨(some 8), .move (.c (.val (.int .i64) (W.of .i64 0) (.no))), none⟩])
 (.block 0 (.mark 7 [(0, .any), (1, .any), (2, .any), (7, .any), (8, .any), (21, .any), (22, .any), (23, .any), (24, .any)] m_ref03_moved_7)))
 (.seq (.region [⟨(some 33), .load (.arr 32 (.int .u32)) (.v 7), none⟩,
  ⟨(some 34), .call 74 [(.t 33)], none⟩,
  ⟨(some 6), .move (.t 34), none⟩])
 (.ret))))
def g_ref03_moved : AFn tab := { np := 3, keep := [0, 1, 2, 6, 7, 8, 10, 25], lent := [], body := b_ref03_moved, res := [(.tmp 6, true)] }
def x_ref03_moved : FnX := { keep := [0, 1, 2, 6, 7, 8, 10, 25], lent := [], res := [true], marks := [(7, [(0, .any), (1, .any), (2, .any), (7, .any), (8, .any), (21, .any), (22, .any), (23, .any), (24, .any)]), (8, [(7, .any)]), (9, [(0, .any), (1, .any), (2, .any), (7, .any), (8, .any), (21, .any), (22, .any), (23, .any), (24, .any)])] }
def b_ref03_signed : ACode tab :=
 .seq (.region [⟨(some 2), .move (.c (.val (.int .i64) (W.of .i64 0) (.no))), none⟩])
 (.seq (.seq (.region [⟨(some 3), .move (.v 0), none⟩,
  ⟨(some 4), .bin .geq (.t 3) (.c (.val (.int .u32) (W.of .u32 2147483648) (.no))), none⟩])
 (.cond (.v 4) (.seq (.region [⟨(some 5), .move (.v 0), none⟩,
  ⟨(some 6), .conv .i64 (.t 5), none⟩,
  ⟨(some 7), .bin .sub (.t 6) (.c (.val (.int .i64) (W.of .i64 4294967296) (.no))), none⟩,
  ⟨(some 2), .move (.t 7), none⟩])
 (.ret))
 (.skip)))
 (.seq (.region [⟨(some 8), .move (.v 0), none⟩,
  ⟨(some 9), .conv .i64 (.t 8), none⟩,
  ⟨(some 2), .move (.t 9), none⟩])
 (.ret)))
def g_ref03_signed : AFn tab := { np := 1, keep := [0, 2, 4], lent := [], body := b_ref03_signed, res := [(.tmp 2, true)] }
def x_ref03_signed : FnX := { keep := [0, 2, 4], lent := [], res := [true], marks := [] }
def b_ref03_one : ACode tab :=
 .seq (.region [⟨(some 2), .move (.c (.val (.int .u32) (W.of .u32 0) (.no))), none⟩])
 (.seq (.seq (.region [⟨(some 3), .move (.v 0), none⟩])
 (.cond (.v 3) (.seq (.region [⟨(some 2), .move (.c (.val (.int .u32) (W.of .u32 1) (.no))), none⟩])
 (.ret))
 (.skip)))
 (.seq (.region [⟨(some 2), .move (.c (.val (.int .u32) (W.of .u32 0) (.no))), none⟩])
 (.ret)))
def g_ref03_one : AFn tab := { np := 1, keep := [0, 2, 3], lent := [], body := b_ref03_one, res := [(.tmp 2, true)] }
def x_ref03_one : FnX := { keep := [0, 2, 3], lent := [], res := [true], marks := [] }
def c_ref03_turned_7 : ACode tab :=
 .seq (.seq (.region [⟨(some 7), .move (.v 6), none⟩,
  ⟨(some 8), .bin .lss (.t 7) (.c (.val (.int .i64) (W.of .i64 32) (.no))), none⟩])
 (.cond (.v 8) (.skip)
 (.exit 0)))
 (.seq (.block 1 (.region [⟨(some 11), .move (.v 6), none⟩,
  ⟨(some 12), .move (.v 0), none⟩,
  ⟨(some 13), .move (.v 6), none⟩,
  ⟨(some 14), .move (.v 1), none⟩,
  ⟨(some 15), .bin .add (.t 13) (.t 14), none⟩,
  ⟨(some 16), .bin .rem (.t 15) (.c (.val (.int .i64) (W.of .i64 32) (.no))), none⟩,
  ⟨(some 17), .call 60 [(.t 12), (.t 16)], none⟩,
  ⟨(some 18), .idxA 32 (.int .u32) (.v 5) (.t 11), none⟩,
  ⟨none, .store (.int .u32) (.t 18) (.t 17), none⟩]))
 (.region [⟨(some 9), .move (.v 6), none⟩,
  ⟨(some 10), .bin .add (.t 9) (.c (.val (.int .i64) (W.of .i64 1) (.no))), none⟩,
  ⟨(some 6), .move (.t 10), none⟩]))
def m_ref03_turned_7 : ACode tab := .trim [(5, .any)] (.loop (.mark 9 [(0, .any), (1, .any), (5, .any), (6, .any)] c_ref03_turned_7))
def b_ref03_turned : ACode tab :=
 .seq (.region [⟨(some 4), .move (.c (.val (.int .u32) (W.of .u32 0) (.no))), none⟩])
 (.seq (.region [⟨(some 5), .alloc (.arr 32 (.int .u32)), none⟩])
 (.seq (.seq (.region [⟨(some 6), .move (.c (.val (.int .i64) (W.of .i64 0) (.no))), none⟩])
 (.block 0 (.mark 7 [(0, .any), (1, .any), (5, .any), (6, .any)] m_ref03_turned_7)))
 (.seq (.region [⟨(some 19), .load (.arr 32 (.int .u32)) (.v 5), none⟩,
  ⟨(some 20), .call 74 [(.t 19)], none⟩,
  ⟨(some 4), .move (.t 20), none⟩])
 (.ret))))
def g_ref03_turned : AFn tab := { np := 2, keep := [0, 1, 4, 5, 6, 8], lent := [], body := b_ref03_turned, res := [(.tmp 4, true)] }
def x_ref03_turned : FnX := { keep := [0, 1, 4, 5, 6, 8], lent := [], res := [true], marks := [(7, [(0, .any), (1, .any), (5, .any), (6, .any)]), (8, [(5, .any)]), (9, [(0, .any), (1, .any), (5, .any), (6, .any)])] }
def c_ref03_Clz_5 : ACode tab :=
 .seq (.seq (.region [⟨(some 4), .move (.v 3), none⟩,
  ⟨(some 5), .bin .lss (.t 4) (.c (.val (.int .i64) (W.of .i64 32) (.no))), none⟩,
  ⟨(some 6), .move (.t 5), none⟩,
  ⟨(some 7), .move (.v 0), (some (6, true))⟩,
  ⟨(some 8), .move (.v 3), (some (6, true))⟩,
  ⟨(some 9), .bin .sub (.c (.val (.int .i64) (W.of .i64 31) (.no))) (.t 8), (some (6, true))⟩,
  ⟨(some 10), .call 60 [(.t 7), (.t 9)], (some (6, true))⟩,
  ⟨(some 11), .bin .eql (.t 10) (.c (.val (.int .u32) (W.of .u32 0) (.no))), (some (6, true))⟩,
  ⟨(some 12), .pick (.t 6) (.t 11) (.c (.val (.bool) false (.no))), none⟩])
 (.cond (.v 12) (.skip)
 (.exit 0)))
 (.block 1 (.region [⟨(some 13), .move (.v 3), none⟩,
  ⟨(some 14), .bin .add (.t 13) (.c (.val (.int .i64) (W.of .i64 1) (.no))), none⟩,
  ⟨(some 3), .move (.t 14), none⟩]))
def m_ref03_Clz_5 : ACode tab := .trim [(3, .any)] (.loop (.mark 7 [(0, .any), (3, .any), (7, .any), (8, .any), (9, .any), (10, .any), (11, .any)] c_ref03_Clz_5))
def b_ref03_Clz : ACode tab :=
 .seq (.region [⟨(some 2), .move (.c (.val (.int .i64) (W.of .i64 0) (.no))), none⟩])
 (.seq (.region [⟨(some 3), .move (.c (.val (.int .i64) (W.of .i64 0) (.no))), none⟩])
 (.seq (.block 0 (.mark 5 [(0, .any), (3, .any), (7, .any), (8, .any), (9, .any), (10, .any), (11, .any)] m_ref03_Clz_5))
 (.seq (.region [⟨(some 15), .move (.v 3), none⟩,
  ⟨(some 2), .move (.t 15), none⟩])
 (.ret))))
def g_ref03_Clz : AFn tab := { np := 1, keep := [0, 2, 3, 12], lent := [], body := b_ref03_Clz, res := [(.tmp 2, true)] }
def x_ref03_Clz : FnX := { keep := [0, 2, 3, 12], lent := [], res := [true], marks := [(5, [(0, .any), (3, .any), (7, .any), (8, .any), (9, .any), (10, .any), (11, .any)]), (6, [(3, .any)]), (7, [(0, .any), (3, .any), (7, .any), (8, .any), (9, .any), (10, .any), (11, .any)])] }
def c_ref03_Pop_7 : ACode tab :=
 .seq (.seq (.region [⟨(some 5), .move (.v 4), none⟩,
  ⟨(some 6), .bin .lss (.t 5) (.c (.val (.int .i64) (W.of .i64 32) (.no))), none⟩])
 (.cond (.v 6) (.skip)
 (.exit 0)))
 (.seq (.block 1 (.region [⟨(some 9), .move (.v 3), none⟩,
  ⟨(some 10), .move (.v 0), none⟩,
  ⟨(some 11), .move (.v 4), none⟩,
  ⟨(some 12), .call 60 [(.t 10), (.t 11)], none⟩,
  ⟨(some 13), .conv .i64 (.t 12), none⟩,
  ⟨(some 14), .bin .add (.t 9) (.t 13), none⟩,
  ⟨(some 3), .move (.t 14), none⟩]))
 (.region [⟨(some 7), .move (.v 4), none⟩,
  ⟨(some 8), .bin .add (.t 7) (.c (.val (.int .i64) (W.of .i64 1) (.no))), none⟩,
  ⟨(some 4), .move (.t 8), none⟩]))
def m_ref03_Pop_7 : ACode tab := .trim [(3, .any)] (.loop (.mark 9 [(0, .any), (3, .any), (4, .any)] c_ref03_Pop_7))
def b_ref03_Pop : ACode tab :=
 .seq (.region [⟨(some 2), .move (.c (.val (.int .i64) (W.of .i64 0) (.no))), none⟩])
 (.seq (.region [⟨(some 3), .move (.c (.val (.int .i64) (W.of .i64 0) (.no))), none⟩])
 (.seq (.seq (.region [⟨(some 4), .move (.c (.val (.int .i64) (W.of .i64 0) (.no))), none⟩])
 (.block 0 (.mark 7 [(0, .any), (3, .any), (4, .any)] m_ref03_Pop_7)))
 (.seq (.region [⟨(some 15), .move (.v 3), none⟩,
  ⟨(some 2), .move (.t 15), none⟩])
 (.ret))))
def g_ref03_Pop : AFn tab := { np := 1, keep := [0, 2, 3, 4, 6], lent := [], body := b_ref03_Pop, res := [(.tmp 2, true)] }
def x_ref03_Pop : FnX := { keep := [0, 2, 3, 4, 6], lent := [], res := [true], marks := [(7, [(0, .any), (3, .any), (4, .any)]), (8, [(3, .any)]), (9, [(0, .any), (3, .any), (4, .any)])] }
def c_ref03_Rev_7 : ACode tab :=
 .seq (.seq (.region [⟨(some 5), .move (.v 4), none⟩,
  ⟨(some 6), .bin .lss (.t 5) (.c (.val (.int .i64) (W.of .i64 4) (.no))), none⟩])
 (.cond (.v 6) (.skip)
 (.exit 0)))
 (.seq (.block 1 (.seq (.region [⟨(some 9), .move (.v 3), none⟩,
  ⟨(some 10), .bin .mul (.c (.val (.int .u32) (W.of .u32 256) (.no))) (.t 9), none⟩,
  ⟨(some 11), .move (.v 0), none⟩,
  ⟨(some 12), .bin .rem (.t 11) (.c (.val (.int .u32) (W.of .u32 256) (.no))), none⟩,
  ⟨(some 13), .bin .add (.t 10) (.t 12), none⟩,
  ⟨(some 3), .move (.t 13), none⟩])
 (.region [⟨(some 14), .move (.v 0), none⟩,
  ⟨(some 15), .bin .quo (.t 14) (.c (.val (.int .u32) (W.of .u32 256) (.no))), none⟩,
  ⟨(some 0), .move (.t 15), none⟩])))
 (.region [⟨(some 7), .move (.v 4), none⟩,
  ⟨(some 8), .bin .add (.t 7) (.c (.val (.int .i64) (W.of .i64 1) (.no))), none⟩,
  ⟨(some 4), .move (.t 8), none⟩]))
def m_ref03_Rev_7 : ACode tab := .trim [(3, .any)] (.loop (.mark 9 [(0, .any), (3, .any), (4, .any)] c_ref03_Rev_7))
def b_ref03_Rev : ACode tab :=
 .seq (.region [⟨(some 2), .move (.c (.val (.int .u32) (W.of .u32 0) (.no))), none⟩])
 (.seq (.region [⟨(some 3), .move (.c (.val (.int .u32) (W.of .u32 0) (.no))), none⟩])
 (.seq (.seq (.region [⟨(some 4), .move (.c (.val (.int .i64) (W.of .i64 0) (.no))), none⟩])
 (.block 0 (.mark 7 [(0, .any), (3, .any), (4, .any)] m_ref03_Rev_7)))
 (.seq (.region [⟨(some 16), .move (.v 3), none⟩,
  ⟨(some 2), .move (.t 16), none⟩])
 (.ret))))
def g_ref03_Rev : AFn tab := { np := 1, keep := [0, 2, 3, 4, 6], lent := [], body := b_ref03_Rev, res := [(.tmp 2, true)] }
def x_ref03_Rev : FnX := { keep := [0, 2, 3, 4, 6], lent := [], res := [true], marks := [(7, [(0, .any), (3, .any), (4, .any)]), (8, [(3, .any)]), (9, [(0, .any), (3, .any), (4, .any)])] }
def b_ref03_Do : ACode tab :=
 .seq (.region [⟨(some 6), .move (.c (.val (.int .u32) (W.of .u32 0) (.no))), none⟩,
  ⟨(some 7), .move (.c (.val (.bool) false (.no))), none⟩])
 (.seq (.region [⟨(some 9), .move (.v 2), none⟩,
  ⟨(some 10), .bin .rem (.t 9) (.c (.val (.int .u32) (W.of .u32 32) (.no))), none⟩,
  ⟨(some 11), .conv .i64 (.t 10), none⟩,
  ⟨(some 8), .move (.t 11), none⟩])
 (.seq (.seq (.region [⟨(some 12), .move (.v 0), none⟩])
 (.block 0 (.seq (.seq (.region [⟨(some 14), .bin .eql (.v 12) (.c (.val (.int .i64) (W.of .i64 1) (.no))), none⟩,
  ⟨(some 13), .move (.t 14), none⟩])
 (.cond (.v 13) (.skip)
 (.region [⟨(some 15), .bin .eql (.v 12) (.c (.val (.int .i64) (W.of .i64 25) (.no))), none⟩,
  ⟨(some 13), .move (.t 15), none⟩])))
 (.cond (.v 13) (.seq (.region [⟨(some 16), .move (.v 1), none⟩,
  ⟨(some 17), .move (.v 2), none⟩,
  ⟨(some 18), .bin .add (.t 16) (.t 17), none⟩,
  ⟨(some 6), .move (.t 18), none⟩,
  ⟨(some 7), .move (.c (.val (.bool) true (.no))), none⟩])
 (.ret))
 (.seq (.region [⟨(some 20), .bin .eql (.v 12) (.c (.val (.int .i64) (W.of .i64 2) (.no))), none⟩,
  ⟨(some 19), .move (.t 20), none⟩])
 (.cond (.v 19) (.seq (.region [⟨(some 21), .move (.v 1), none⟩,
  ⟨(some 22), .move (.v 2), none⟩,
  ⟨(some 23), .bin .sub (.t 21) (.t 22), none⟩,
  ⟨(some 6), .move (.t 23), none⟩,
  ⟨(some 7), .move (.c (.val (.bool) true (.no))), none⟩])
 (.ret))
 (.seq (.seq (.region [⟨(some 25), .bin .eql (.v 12) (.c (.val (.int .i64) (W.of .i64 3) (.no))), none⟩,
  ⟨(some 24), .move (.t 25), none⟩])
 (.cond (.v 24) (.skip)
 (.region [⟨(some 26), .bin .eql (.v 12) (.c (.val (.int .i64) (W.of .i64 26) (.no))), none⟩,
  ⟨(some 24), .move (.t 26), none⟩])))
 (.cond (.v 24) (.seq (.region [⟨(some 27), .move (.v 1), none⟩,
  ⟨(some 28), .move (.v 2), none⟩,
  ⟨(some 29), .call 58 [(.t 27), (.t 28), (.c (.val (.int .u32) (W.of .u32 2) (.no))), (.c (.val (.int .u32) (W.of .u32 2) (.no)))], none⟩,
  ⟨(some 6), .move (.t 29), none⟩,
  ⟨(some 7), .move (.c (.val (.bool) true (.no))), none⟩])
 (.ret))
 (.seq (.seq (.region [⟨(some 31), .bin .eql (.v 12) (.c (.val (.int .i64) (W.of .i64 4) (.no))), none⟩,
  ⟨(some 30), .move (.t 31), none⟩])
 (.cond (.v 30) (.skip)
 (.region [⟨(some 32), .bin .eql (.v 12) (.c (.val (.int .i64) (W.of .i64 27) (.no))), none⟩,
  ⟨(some 30), .move (.t 32), none⟩])))
 (.cond (.v 30) (.seq (.region [⟨(some 33), .move (.v 1), none⟩,
  ⟨(some 34), .move (.v 2), none⟩,
  ⟨(some 35), .call 58 [(.t 33), (.t 34), (.c (.val (.int .u32) (W.of .u32 1) (.no))), (.c (.val (.int .u32) (W.of .u32 2) (.no)))], none⟩,
  ⟨(some 6), .move (.t 35), none⟩,
  ⟨(some 7), .move (.c (.val (.bool) true (.no))), none⟩])
 (.ret))
 (.seq (.seq (.region [⟨(some 37), .bin .eql (.v 12) (.c (.val (.int .i64) (W.of .i64 5) (.no))), none⟩,
  ⟨(some 36), .move (.t 37), none⟩])
 (.cond (.v 36) (.skip)
 (.region [⟨(some 38), .bin .eql (.v 12) (.c (.val (.int .i64) (W.of .i64 28) (.no))), none⟩,
  ⟨(some 36), .move (.t 38), none⟩])))
 (.cond (.v 36) (.seq (.region [⟨(some 39), .move (.v 1), none⟩,
  ⟨(some 40), .move (.v 2), none⟩,
  ⟨(some 41), .call 58 [(.t 39), (.t 40), (.c (.val (.int .u32) (W.of .u32 1) (.no))), (.c (.val (.int .u32) (W.of .u32 1) (.no)))], none⟩,
  ⟨(some 6), .move (.t 41), none⟩,
  ⟨(some 7), .move (.c (.val (.bool) true (.no))), none⟩])
 (.ret))
 (.seq (.seq (.region [⟨(some 43), .bin .eql (.v 12) (.c (.val (.int .i64) (W.of .i64 6) (.no))), none⟩,
  ⟨(some 42), .move (.t 43), none⟩])
 (.cond (.v 42) (.skip)
 (.region [⟨(some 44), .bin .eql (.v 12) (.c (.val (.int .i64) (W.of .i64 30) (.no))), none⟩,
  ⟨(some 42), .move (.t 44), none⟩])))
 (.cond (.v 42) (.seq (.region [⟨(some 45), .move (.v 1), none⟩,
  ⟨(some 46), .move (.v 8), none⟩,
  ⟨(some 47), .un .neg (.t 46), none⟩,
  ⟨(some 48), .call 59 [(.t 45), (.t 47), (.c (.val (.int .u32) (W.of .u32 0) (.no)))], none⟩,
  ⟨(some 6), .move (.t 48), none⟩,
  ⟨(some 7), .move (.c (.val (.bool) true (.no))), none⟩])
 (.ret))
 (.seq (.seq (.region [⟨(some 50), .bin .eql (.v 12) (.c (.val (.int .i64) (W.of .i64 7) (.no))), none⟩,
  ⟨(some 49), .move (.t 50), none⟩])
 (.cond (.v 49) (.skip)
 (.region [⟨(some 51), .bin .eql (.v 12) (.c (.val (.int .i64) (W.of .i64 31) (.no))), none⟩,
  ⟨(some 49), .move (.t 51), none⟩])))
 (.cond (.v 49) (.seq (.region [⟨(some 52), .move (.v 1), none⟩,
  ⟨(some 53), .move (.v 8), none⟩,
  ⟨(some 54), .call 59 [(.t 52), (.t 53), (.c (.val (.int .u32) (W.of .u32 0) (.no)))], none⟩,
  ⟨(some 6), .move (.t 54), none⟩,
  ⟨(some 7), .move (.c (.val (.bool) true (.no))), none⟩])
 (.ret))
 (.seq (.seq (.region [⟨(some 56), .bin .eql (.v 12) (.c (.val (.int .i64) (W.of .i64 8) (.no))), none⟩,
  ⟨(some 55), .move (.t 56), none⟩])
 (.cond (.v 55) (.skip)
 (.region [⟨(some 57), .bin .eql (.v 12) (.c (.val (.int .i64) (W.of .i64 32) (.no))), none⟩,
  ⟨(some 55), .move (.t 57), none⟩])))
 (.cond (.v 55) (.seq (.region [⟨(some 58), .move (.v 1), none⟩,
  ⟨(some 59), .move (.v 8), none⟩,
  ⟨(some 60), .move (.v 1), none⟩,
  ⟨(some 61), .call 60 [(.t 60), (.c (.val (.int .i64) (W.of .i64 31) (.no)))], none⟩,
  ⟨(some 62), .call 59 [(.t 58), (.t 59), (.t 61)], none⟩,
  ⟨(some 6), .move (.t 62), none⟩,
  ⟨(some 7), .move (.c (.val (.bool) true (.no))), none⟩])
 (.ret))
 (.seq (.seq (.region [⟨(some 64), .bin .eql (.v 12) (.c (.val (.int .i64) (W.of .i64 9) (.no))), none⟩,
  ⟨(some 63), .move (.t 64), none⟩])
 (.cond (.v 63) (.skip)
 (.region [⟨(some 65), .bin .eql (.v 12) (.c (.val (.int .i64) (W.of .i64 29) (.no))), none⟩,
  ⟨(some 63), .move (.t 65), none⟩])))
 (.cond (.v 63) (.seq (.region [⟨(some 66), .move (.v 1), none⟩,
  ⟨(some 67), .call 42 [(.t 66)], none⟩,
  ⟨(some 68), .move (.v 2), none⟩,
  ⟨(some 69), .call 42 [(.t 68)], none⟩,
  ⟨(some 70), .bin .lss (.t 67) (.t 69), none⟩,
  ⟨(some 71), .call 61 [(.t 70)], none⟩,
  ⟨(some 6), .move (.t 71), none⟩,
  ⟨(some 7), .move (.c (.val (.bool) true (.no))), none⟩])
 (.ret))
 (.seq (.region [⟨(some 73), .bin .eql (.v 12) (.c (.val (.int .i64) (W.of .i64 10) (.no))), none⟩,
  ⟨(some 72), .move (.t 73), none⟩])
 (.cond (.v 72) (.seq (.region [⟨(some 74), .move (.v 1), none⟩,
  ⟨(some 75), .move (.v 2), none⟩,
  ⟨(some 76), .bin .lss (.t 74) (.t 75), none⟩,
  ⟨(some 77), .call 61 [(.t 76)], none⟩,
  ⟨(some 6), .move (.t 77), none⟩,
  ⟨(some 7), .move (.c (.val (.bool) true (.no))), none⟩])
 (.ret))
 (.seq (.region [⟨(some 79), .bin .eql (.v 12) (.c (.val (.int .i64) (W.of .i64 18) (.no))), none⟩,
  ⟨(some 78), .move (.t 79), none⟩])
 (.cond (.v 78) (.seq (.seq (.region [⟨(some 80), .move (.v 2), none⟩,
  ⟨(some 81), .call 42 [(.t 80)], none⟩,
  ⟨(some 82), .move (.v 1), none⟩,
  ⟨(some 83), .call 42 [(.t 82)], none⟩,
  ⟨(some 84), .bin .lss (.t 81) (.t 83), none⟩])
 (.cond (.v 84) (.seq (.region [⟨(some 85), .move (.v 2), none⟩,
  ⟨(some 6), .move (.t 85), none⟩,
  ⟨(some 7), .move (.c (.val (.bool) true (.no))), none⟩])
 (.ret))
 (.skip)))
 (.seq (.region [⟨(some 86), .move (.v 1), none⟩,
  ⟨(some 6), .move (.t 86), none⟩,
  ⟨(some 7), .move (.c (.val (.bool) true (.no))), none⟩])
 (.ret)))
 (.seq (.region [⟨(some 88), .bin .eql (.v 12) (.c (.val (.int .i64) (W.of .i64 19) (.no))), none⟩,
  ⟨(some 87), .move (.t 88), none⟩])
 (.cond (.v 87) (.seq (.seq (.region [⟨(some 89), .move (.v 2), none⟩,
  ⟨(some 90), .call 42 [(.t 89)], none⟩,
  ⟨(some 91), .move (.v 1), none⟩,
  ⟨(some 92), .call 42 [(.t 91)], none⟩,
  ⟨(some 93), .bin .gtr (.t 90) (.t 92), none⟩])
 (.cond (.v 93) (.seq (.region [⟨(some 94), .move (.v 2), none⟩,
  ⟨(some 6), .move (.t 94), none⟩,
  ⟨(some 7), .move (.c (.val (.bool) true (.no))), none⟩])
 (.ret))
 (.skip)))
 (.seq (.region [⟨(some 95), .move (.v 1), none⟩,
  ⟨(some 6), .move (.t 95), none⟩,
  ⟨(some 7), .move (.c (.val (.bool) true (.no))), none⟩])
 (.ret)))
 (.seq (.region [⟨(some 97), .bin .eql (.v 12) (.c (.val (.int .i64) (W.of .i64 20) (.no))), none⟩,
  ⟨(some 96), .move (.t 97), none⟩])
 (.cond (.v 96) (.seq (.region [⟨(some 98), .move (.v 1), none⟩,
  ⟨(some 99), .move (.v 8), none⟩,
  ⟨(some 100), .call 62 [(.t 98), (.t 99)], none⟩,
  ⟨(some 6), .move (.t 100), none⟩,
  ⟨(some 7), .move (.c (.val (.bool) true (.no))), none⟩])
 (.ret))
 (.seq (.region [⟨(some 102), .bin .eql (.v 12) (.c (.val (.int .i64) (W.of .i64 21) (.no))), none⟩,
  ⟨(some 101), .move (.t 102), none⟩])
 (.cond (.v 101) (.seq (.region [⟨(some 103), .move (.v 1), none⟩,
  ⟨(some 104), .call 63 [(.t 103)], none⟩,
  ⟨(some 105), .conv .u32 (.t 104), none⟩,
  ⟨(some 6), .move (.t 105), none⟩,
  ⟨(some 7), .move (.c (.val (.bool) true (.no))), none⟩])
 (.ret))
 (.seq (.region [⟨(some 107), .bin .eql (.v 12) (.c (.val (.int .i64) (W.of .i64 22) (.no))), none⟩,
  ⟨(some 106), .move (.t 107), none⟩])
 (.cond (.v 106) (.seq (.region [⟨(some 108), .move (.v 1), none⟩,
  ⟨(some 109), .call 64 [(.t 108)], none⟩,
  ⟨(some 110), .conv .u32 (.t 109), none⟩,
  ⟨(some 6), .move (.t 110), none⟩,
  ⟨(some 7), .move (.c (.val (.bool) true (.no))), none⟩])
 (.ret))
 (.seq (.region [⟨(some 112), .bin .eql (.v 12) (.c (.val (.int .i64) (W.of .i64 23) (.no))), none⟩,
  ⟨(some 111), .move (.t 112), none⟩])
 (.cond (.v 111) (.seq (.region [⟨(some 113), .move (.v 1), none⟩,
  ⟨(some 114), .call 65 [(.t 113)], none⟩,
  ⟨(some 6), .move (.t 114), none⟩,
  ⟨(some 7), .move (.c (.val (.bool) true (.no))), none⟩])
 (.ret))
 (.seq (.region [⟨(some 116), .bin .eql (.v 12) (.c (.val (.int .i64) (W.of .i64 33) (.no))), none⟩,
  ⟨(some 115), .move (.t 116), none⟩])
 (.cond (.v 115) (.seq (.region [⟨(some 117), .move (.v 2), none⟩,
  ⟨(some 118), .bin .mul (.t 117) (.c (.val (.int .u32) (W.of .u32 16384) (.no))), none⟩,
  ⟨(some 6), .move (.t 118), none⟩,
  ⟨(some 7), .move (.c (.val (.bool) true (.no))), none⟩])
 (.ret))
 (.skip)))))))))))))))))))))))))))))))))))))
 (.seq (.region [⟨(some 6), .move (.c (.val (.int .u32) (W.of .u32 0) (.no))), none⟩,
  ⟨(some 7), .move (.c (.val (.bool) false (.no))), none⟩])
 (.ret))))
def g_ref03_Do : AFn tab := { np := 3, keep := [0, 1, 2, 6, 7, 8, 12, 13, 19, 24, 30, 36, 42, 49, 55, 63, 72, 78, 84, 87, 93, 96, 101, 106, 111, 115], lent := [], body := b_ref03_Do, res := [(.tmp 6, true), (.tmp 7, true)] }
def x_ref03_Do : FnX := { keep := [0, 1, 2, 6, 7, 8, 12, 13, 19, 24, 30, 36, 42, 49, 55, 63, 72, 78, 84, 87, 93, 96, 101, 106, 111, 115], lent := [], res := [true, true], marks := [] }
def b_ref32_value : ACode tab :=
 .seq (.region [⟨(some 2), .box (.named .TInst) (.v 0), none⟩,
  ⟨(some 3), .box (.arr 3 (.int .u32)) (.v 1), none⟩,
  ⟨(some 4), .move (.c (.val (.int .u32) (W.of .u32 0) (.no))), none⟩])
 (.seq (.region [⟨(some 7), .idxA 3 (.int .u32) (.v 3) (.c (.val (.int .i64) (W.of .i64 1) (.no))), none⟩,
  ⟨(some 8), .load (.int .u32) (.t 7), none⟩,
  ⟨(some 5), .move (.t 8), none⟩])
 (.seq (.seq (.region [⟨(some 9), .fld .TInst 0 (.v 2), none⟩,
  ⟨(some 10), .load (.int .i64) (.t 9), none⟩,
  ⟨(some 11), .bin .geq (.t 10) (.c (.val (.int .i64) (W.of .i64 25) (.no))), none⟩])
 (.cond (.v 11) (.region [⟨(some 12), .fld .TInst 4 (.v 2), none⟩,
  ⟨(some 13), .load (.int .i64) (.t 12), none⟩,
  ⟨(some 14), .conv .u32 (.t 13), none⟩,
  ⟨(some 5), .move (.t 14), none⟩])
 (.skip)))
 (.seq (.region [⟨(some 6), .move (.c (.val (.int .u32) (W.of .u32 0) (.no))), none⟩])
 (.seq (.block 0 (.seq (.region [⟨(some 25), .fld .TInst 0 (.v 2), none⟩,
  ⟨(some 26), .load (.int .i64) (.t 25), none⟩,
  ⟨(some 27), .bin .geq (.t 26) (.c (.val (.int .i64) (W.of .i64 11) (.no))), none⟩,
  ⟨(some 28), .move (.t 27), none⟩,
  ⟨(some 29), .fld .TInst 0 (.v 2), (some (28, true))⟩,
  ⟨(some 30), .load (.int .i64) (.t 29), (some (28, true))⟩,
  ⟨(some 31), .bin .leq (.t 30) (.c (.val (.int .i64) (W.of .i64 13) (.no))), (some (28, true))⟩,
  ⟨(some 32), .pick (.t 28) (.t 31) (.c (.val (.bool) false (.no))), none⟩,
  ⟨(some 24), .move (.t 32), none⟩])
 (.cond (.v 24) (.region [⟨(some 34), .fld .TInst 0 (.v 2), none⟩,
  ⟨(some 35), .load (.int .i64) (.t 34), none⟩,
  ⟨(some 36), .idxA 3 (.int .u32) (.v 3) (.c (.val (.int .i64) (W.of .i64 0) (.no))), none⟩,
  ⟨(some 37), .load (.int .u32) (.t 36), none⟩,
  ⟨(some 38), .move (.v 5), none⟩,
  ⟨(some 39), .call 38 [(.t 35), (.t 37), (.t 38)], none⟩,
  ⟨(some 33), .move (.t 39), none⟩,
  ⟨(some 40), .extract (.t 33) 0, none⟩,
  ⟨(some 41), .extract (.t 33) 1, none⟩,
  ⟨(some 6), .move (.t 40), none⟩])
 (.seq (.region [⟨(some 43), .fld .TInst 0 (.v 2), none⟩,
  ⟨(some 44), .load (.int .i64) (.t 43), none⟩,
  ⟨(some 45), .bin .geq (.t 44) (.c (.val (.int .i64) (W.of .i64 14) (.no))), none⟩,
  ⟨(some 46), .move (.t 45), none⟩,
  ⟨(some 47), .fld .TInst 0 (.v 2), (some (46, true))⟩,
  ⟨(some 48), .load (.int .i64) (.t 47), (some (46, true))⟩,
  ⟨(some 49), .bin .leq (.t 48) (.c (.val (.int .i64) (W.of .i64 17) (.no))), (some (46, true))⟩,
  ⟨(some 50), .pick (.t 46) (.t 49) (.c (.val (.bool) false (.no))), none⟩,
  ⟨(some 42), .move (.t 50), none⟩])
 (.cond (.v 42) (.region [⟨(some 52), .fld .TInst 0 (.v 2), none⟩,
  ⟨(some 53), .load (.int .i64) (.t 52), none⟩,
  ⟨(some 54), .idxA 3 (.int .u32) (.v 3) (.c (.val (.int .i64) (W.of .i64 0) (.no))), none⟩,
  ⟨(some 55), .load (.int .u32) (.t 54), none⟩,
  ⟨(some 56), .move (.v 5), none⟩,
  ⟨(some 57), .call 39 [(.t 53), (.t 55), (.t 56)], none⟩,
  ⟨(some 51), .move (.t 57), none⟩,
  ⟨(some 58), .extract (.t 51) 0, none⟩,
  ⟨(some 59), .extract (.t 51) 1, none⟩,
  ⟨(some 6), .move (.t 58), none⟩])
 (.seq (.region [⟨(some 61), .fld .TInst 0 (.v 2), none⟩,
  ⟨(some 62), .load (.int .i64) (.t 61), none⟩,
  ⟨(some 63), .bin .eql (.t 62) (.c (.val (.int .i64) (W.of .i64 24) (.no))), none⟩,
  ⟨(some 60), .move (.t 63), none⟩])
 (.cond (.v 60) (.region [⟨(some 64), .idxA 3 (.int .u32) (.v 3) (.c (.val (.int .i64) (W.of .i64 2) (.no))), none⟩,
  ⟨(some 65), .load (.int .u32) (.t 64), none⟩,
  ⟨(some 66), .idxA 3 (.int .u32) (.v 3) (.c (.val (.int .i64) (W.of .i64 0) (.no))), none⟩,
  ⟨(some 67), .load (.int .u32) (.t 66), none⟩,
  ⟨(some 68), .move (.v 5), none⟩,
  ⟨(some 69), .call 40 [(.t 65), (.t 67), (.t 68)], none⟩,
  ⟨(some 6), .move (.t 69), none⟩])
 (.region [⟨(some 16), .fld .TInst 0 (.v 2), none⟩,
  ⟨(some 17), .load (.int .i64) (.t 16), none⟩,
  ⟨(some 18), .idxA 3 (.int .u32) (.v 3) (.c (.val (.int .i64) (W.of .i64 0) (.no))), none⟩,
  ⟨(some 19), .load (.int .u32) (.t 18), none⟩,
  ⟨(some 20), .move (.v 5), none⟩,
  ⟨(some 21), .call 41 [(.t 17), (.t 19), (.t 20)], none⟩,
  ⟨(some 15), .move (.t 21), none⟩,
  ⟨(some 22), .extract (.t 15) 0, none⟩,
  ⟨(some 23), .extract (.t 15) 1, none⟩,
  ⟨(some 6), .move (.t 22), none⟩]))))))))
 (.seq (.region [⟨(some 70), .move (.v 6), none⟩,
  ⟨(some 4), .move (.t 70), none⟩])
 (.ret))))))
def g_ref32_value : AFn tab := { np := 2, keep := [0, 1, 2, 3, 4, 5, 6, 11, 24, 42, 60], lent := [], body := b_ref32_value, res := [(.tmp 4, true)] }
def x_ref32_value : FnX := { keep := [0, 1, 2, 3, 4, 5, 6, 11, 24, 42, 60], lent := [], res := [true], marks := [] }
def b_ref03_Taken : ACode tab :=
 .seq (.region [⟨(some 6), .move (.c (.val (.bool) false (.no))), none⟩])
 (.seq (.seq (.region [⟨(some 7), .move (.v 0), none⟩])
 (.block 0 (.seq (.region [⟨(some 9), .bin .eql (.v 7) (.c (.val (.int .i64) (W.of .i64 43) (.no))), none⟩,
  ⟨(some 8), .move (.t 9), none⟩])
 (.cond (.v 8) (.seq (.region [⟨(some 10), .move (.v 1), none⟩,
  ⟨(some 11), .move (.v 2), none⟩,
  ⟨(some 12), .bin .eql (.t 10) (.t 11), none⟩,
  ⟨(some 6), .move (.t 12), none⟩])
 (.ret))
 (.seq (.region [⟨(some 14), .bin .eql (.v 7) (.c (.val (.int .i64) (W.of .i64 44) (.no))), none⟩,
  ⟨(some 13), .move (.t 14), none⟩])
 (.cond (.v 13) (.seq (.region [⟨(some 15), .move (.v 1), none⟩,
  ⟨(some 16), .move (.v 2), none⟩,
  ⟨(some 17), .bin .neq (.t 15) (.t 16), none⟩,
  ⟨(some 6), .move (.t 17), none⟩])
 (.ret))
 (.seq (.region [⟨(some 19), .bin .eql (.v 7) (.c (.val (.int .i64) (W.of .i64 45) (.no))), none⟩,
  ⟨(some 18), .move (.t 19), none⟩])
 (.cond (.v 18) (.seq (.region [⟨(some 20), .move (.v 1), none⟩,
  ⟨(some 21), .call 42 [(.t 20)], none⟩,
  ⟨(some 22), .move (.v 2), none⟩,
  ⟨(some 23), .call 42 [(.t 22)], none⟩,
  ⟨(some 24), .bin .lss (.t 21) (.t 23), none⟩,
  ⟨(some 6), .move (.t 24), none⟩])
 (.ret))
 (.seq (.region [⟨(some 26), .bin .eql (.v 7) (.c (.val (.int .i64) (W.of .i64 46) (.no))), none⟩,
  ⟨(some 25), .move (.t 26), none⟩])
 (.cond (.v 25) (.seq (.region [⟨(some 27), .move (.v 1), none⟩,
  ⟨(some 28), .call 42 [(.t 27)], none⟩,
  ⟨(some 29), .move (.v 2), none⟩,
  ⟨(some 30), .call 42 [(.t 29)], none⟩,
  ⟨(some 31), .bin .geq (.t 28) (.t 30), none⟩,
  ⟨(some 6), .move (.t 31), none⟩])
 (.ret))
 (.seq (.region [⟨(some 33), .bin .eql (.v 7) (.c (.val (.int .i64) (W.of .i64 47) (.no))), none⟩,
  ⟨(some 32), .move (.t 33), none⟩])
 (.cond (.v 32) (.seq (.region [⟨(some 34), .move (.v 1), none⟩,
  ⟨(some 35), .move (.v 2), none⟩,
  ⟨(some 36), .bin .lss (.t 34) (.t 35), none⟩,
  ⟨(some 6), .move (.t 36), none⟩])
 (.ret))
 (.seq (.region [⟨(some 38), .bin .eql (.v 7) (.c (.val (.int .i64) (W.of .i64 48) (.no))), none⟩,
  ⟨(some 37), .move (.t 38), none⟩])
 (.cond (.v 37) (.seq (.region [⟨(some 39), .move (.v 1), none⟩,
  ⟨(some 40), .move (.v 2), none⟩,
  ⟨(some 41), .bin .geq (.t 39) (.t 40), none⟩,
  ⟨(some 6), .move (.t 41), none⟩])
 (.ret))
 (.skip)))))))))))))))
 (.seq (.region [⟨(some 6), .move (.c (.val (.bool) false (.no))), none⟩])
 (.ret)))
def g_ref03_Taken : AFn tab := { np := 3, keep := [0, 1, 2, 6, 7, 8, 13, 18, 25, 32, 37], lent := [], body := b_ref03_Taken, res := [(.tmp 6, true)] }
def x_ref03_Taken : FnX := { keep := [0, 1, 2, 6, 7, 8, 13, 18, 25, 32, 37], lent := [], res := [true], marks := [] }
def b_ref32_Do : ACode tab :=
 .seq (.region [⟨(some 2), .box (.named .TUop) (.v 0), none⟩,
  ⟨(some 3), .box (.arr 3 (.int .u32)) (.v 1), none⟩,
  ⟨(some 4), .move (.c (.val (.int .u32) (W.of .u32 0) (.no))), none⟩,
  ⟨(some 5), .move (.c (.val (.int .u32) (W.of .u32 0) (.no))), none⟩,
  ⟨(some 6), .move (.c (.val (.int .i64) (W.of .i64 0) (.no))), none⟩,
  ⟨(some 7), .move (.c (.val (.int .u32) (W.of .u32 0) (.no))), none⟩])
 (.seq (.draw [⟨(some 12), .fld .TUop 1 (.v 2), none⟩,
  ⟨(some 13), .fld .TSlot 0 (.t 12), none⟩,
  ⟨(some 14), .load (.int .u32) (.t 13), none⟩,
  ⟨(some 15), .fld .TUop 0 (.v 2), none⟩,
  ⟨(some 16), .load (.named .TInst) (.t 15), none⟩,
  ⟨(some 9), .alloc (.named .TInst), none⟩,
  ⟨(some 8), .move (.t 14), none⟩,
  ⟨none, .store (.named .TInst) (.v 9) (.t 16), none⟩] [0, 1, 3, 0, 8, 0, 39, 127])
 (.seq (.seq (.region [⟨(some 17), .fld .TUop 7 (.v 2), none⟩,
  ⟨(some 18), .load (.int .i64) (.t 17), none⟩,
  ⟨(some 19), .bin .neq (.t 18) (.c (.val (.int .i64) (W.of .i64 0) (.no))), none⟩])
 (.cond (.v 19) (.seq (.draw [⟨(some 20), .move (.v 8), none⟩,
  ⟨(some 21), .bin .add (.t 20) (.c (.val (.int .u32) (W.of .u32 4) (.no))), none⟩,
  ⟨(some 22), .fld .TUop 7 (.v 2), none⟩,
  ⟨(some 23), .load (.int .i64) (.t 22), none⟩,
  ⟨(some 24), .fld .TUop 8 (.v 2), none⟩,
  ⟨(some 25), .load (.int .u32) (.t 24), none⟩,
  ⟨(some 4), .move (.c (.val (.int .u32) (W.of .u32 0) (.no))), none⟩,
  ⟨(some 5), .move (.t 21), none⟩,
  ⟨(some 6), .move (.t 23), none⟩,
  ⟨(some 7), .move (.t 25), none⟩] [0, 1, 0, 4, 0, 16, 0, 67, 207, 511])
 (.ret))
 (.skip)))
 (.seq (.region [⟨(some 26), .move (.v 8), none⟩,
  ⟨(some 27), .fld .TInst 4 (.v 9), none⟩,
  ⟨(some 28), .load (.int .i64) (.t 27), none⟩,
  ⟨(some 29), .bin .mul (.c (.val (.int .i64) (W.of .i64 4) (.no))) (.t 28), none⟩,
  ⟨(some 30), .conv .u32 (.t 29), none⟩,
  ⟨(some 31), .bin .add (.t 26) (.t 30), none⟩,
  ⟨(some 10), .move (.t 31), none⟩])
 (.seq (.block 0 (.seq (.region [⟨(some 33), .fld .TInst 0 (.v 9), none⟩,
  ⟨(some 34), .load (.int .i64) (.t 33), none⟩,
  ⟨(some 35), .bin .geq (.t 34) (.c (.val (.int .i64) (W.of .i64 1) (.no))), none⟩,
  ⟨(some 36), .move (.t 35), none⟩,
  ⟨(some 37), .fld .TInst 0 (.v 9), (some (36, true))⟩,
  ⟨(some 38), .load (.int .i64) (.t 37), (some (36, true))⟩,
  ⟨(some 39), .bin .leq (.t 38) (.c (.val (.int .i64) (W.of .i64 33) (.no))), (some (36, true))⟩,
  ⟨(some 40), .pick (.t 36) (.t 39) (.c (.val (.bool) false (.no))), none⟩,
  ⟨(some 32), .move (.t 40), none⟩])
 (.cond (.v 32) (.seq (.region [⟨(some 41), .load (.named .TInst) (.v 9), none⟩,
  ⟨(some 42), .load (.arr 3 (.int .u32)) (.v 3), none⟩,
  ⟨(some 43), .call 27 [(.t 41), (.t 42)], none⟩,
  ⟨(some 44), .move (.v 8), none⟩,
  ⟨(some 45), .bin .add (.t 44) (.c (.val (.int .u32) (W.of .u32 4) (.no))), none⟩,
  ⟨(some 4), .move (.t 43), none⟩,
  ⟨(some 5), .move (.t 45), none⟩,
  ⟨(some 6), .move (.c (.val (.int .i64) (W.of .i64 0) (.no))), none⟩,
  ⟨(some 7), .move (.c (.val (.int .u32) (W.of .u32 0) (.no))), none⟩])
 (.ret))
 (.seq (.region [⟨(some 47), .fld .TInst 0 (.v 9), none⟩,
  ⟨(some 48), .load (.int .i64) (.t 47), none⟩,
  ⟨(some 49), .bin .geq (.t 48) (.c (.val (.int .i64) (W.of .i64 43) (.no))), none⟩,
  ⟨(some 50), .move (.t 49), none⟩,
  ⟨(some 51), .fld .TInst 0 (.v 9), (some (50, true))⟩,
  ⟨(some 52), .load (.int .i64) (.t 51), (some (50, true))⟩,
  ⟨(some 53), .bin .leq (.t 52) (.c (.val (.int .i64) (W.of .i64 48) (.no))), (some (50, true))⟩,
  ⟨(some 54), .pick (.t 50) (.t 53) (.c (.val (.bool) false (.no))), none⟩,
  ⟨(some 55), .move (.t 54), none⟩,
  ⟨(some 56), .fld .TInst 0 (.v 9), (some (55, true))⟩,
  ⟨(some 57), .load (.int .i64) (.t 56), (some (55, true))⟩,
  ⟨(some 58), .idxA 3 (.int .u32) (.v 3) (.c (.val (.int .i64) (W.of .i64 0) (.no))), (some (55, true))⟩,
  ⟨(some 59), .load (.int .u32) (.t 58), (some (55, true))⟩,
  ⟨(some 60), .idxA 3 (.int .u32) (.v 3) (.c (.val (.int .i64) (W.of .i64 1) (.no))), (some (55, true))⟩,
  ⟨(some 61), .load (.int .u32) (.t 60), (some (55, true))⟩,
  ⟨(some 62), .call 28 [(.t 57), (.t 59), (.t 61)], (some (55, true))⟩,
  ⟨(some 63), .pick (.t 55) (.t 62) (.c (.val (.bool) false (.no))), none⟩,
  ⟨(some 46), .move (.t 63), none⟩])
 (.cond (.v 46) (.seq (.region [⟨(some 64), .move (.v 10), none⟩,
  ⟨(some 4), .move (.c (.val (.int .u32) (W.of .u32 0) (.no))), none⟩,
  ⟨(some 5), .move (.t 64), none⟩,
  ⟨(some 6), .move (.c (.val (.int .i64) (W.of .i64 0) (.no))), none⟩,
  ⟨(some 7), .move (.c (.val (.int .u32) (W.of .u32 0) (.no))), none⟩])
 (.ret))
 (.seq (.region [⟨(some 66), .fld .TInst 0 (.v 9), none⟩,
  ⟨(some 67), .load (.int .i64) (.t 66), none⟩,
  ⟨(some 68), .bin .eql (.t 67) (.c (.val (.int .i64) (W.of .i64 49) (.no))), none⟩,
  ⟨(some 65), .move (.t 68), none⟩])
 (.cond (.v 65) (.seq (.region [⟨(some 69), .move (.v 8), none⟩,
  ⟨(some 70), .bin .add (.t 69) (.c (.val (.int .u32) (W.of .u32 4) (.no))), none⟩,
  ⟨(some 71), .move (.v 10), none⟩,
  ⟨(some 4), .move (.t 70), none⟩,
  ⟨(some 5), .move (.t 71), none⟩,
  ⟨(some 6), .move (.c (.val (.int .i64) (W.of .i64 0) (.no))), none⟩,
  ⟨(some 7), .move (.c (.val (.int .u32) (W.of .u32 0) (.no))), none⟩])
 (.ret))
 (.seq (.region [⟨(some 73), .fld .TInst 0 (.v 9), none⟩,
  ⟨(some 74), .load (.int .i64) (.t 73), none⟩,
  ⟨(some 75), .bin .eql (.t 74) (.c (.val (.int .i64) (W.of .i64 50) (.no))), none⟩,
  ⟨(some 72), .move (.t 75), none⟩])
 (.cond (.v 72) (.seq (.region [⟨(some 76), .idxA 3 (.int .u32) (.v 3) (.c (.val (.int .i64) (W.of .i64 0) (.no))), none⟩,
  ⟨(some 77), .load (.int .u32) (.t 76), none⟩,
  ⟨(some 78), .fld .TInst 4 (.v 9), none⟩,
  ⟨(some 79), .load (.int .i64) (.t 78), none⟩,
  ⟨(some 80), .conv .u32 (.t 79), none⟩,
  ⟨(some 81), .bin .add (.t 77) (.t 80), none⟩,
  ⟨(some 11), .move (.t 81), none⟩])
 (.seq (.region [⟨(some 82), .move (.v 8), none⟩,
  ⟨(some 83), .bin .add (.t 82) (.c (.val (.int .u32) (W.of .u32 4) (.no))), none⟩,
  ⟨(some 84), .move (.v 11), none⟩,
  ⟨(some 85), .move (.v 11), none⟩,
  ⟨(some 86), .bin .rem (.t 85) (.c (.val (.int .u32) (W.of .u32 4) (.no))), none⟩,
  ⟨(some 87), .bin .sub (.t 84) (.t 86), none⟩,
  ⟨(some 4), .move (.t 83), none⟩,
  ⟨(some 5), .move (.t 87), none⟩,
  ⟨(some 6), .move (.c (.val (.int .i64) (W.of .i64 0) (.no))), none⟩,
  ⟨(some 7), .move (.c (.val (.int .u32) (W.of .u32 0) (.no))), none⟩])
 (.ret)))
 (.skip))))))))))
 (.seq (.region [⟨(some 88), .move (.v 8), none⟩,
  ⟨(some 89), .bin .add (.t 88) (.c (.val (.int .u32) (W.of .u32 4) (.no))), none⟩,
  ⟨(some 4), .move (.c (.val (.int .u32) (W.of .u32 0) (.no))), none⟩,
  ⟨(some 5), .move (.t 89), none⟩,
  ⟨(some 6), .move (.c (.val (.int .i64) (W.of .i64 0) (.no))), none⟩,
  ⟨(some 7), .move (.c (.val (.int .u32) (W.of .u32 0) (.no))), none⟩])
 (.ret))))))
def g_ref32_Do : AFn tab := { np := 2, keep := [0, 1, 2, 3, 4, 5, 6, 7, 8, 9, 10, 11, 19, 32, 46, 65, 72], lent := [], body := b_ref32_Do, res := [(.tmp 4, true), (.tmp 5, true), (.tmp 6, true), (.tmp 7, true)] }
def x_ref32_Do : FnX := { keep := [0, 1, 2, 3, 4, 5, 6, 7, 8, 9, 10, 11, 19, 32, 46, 65, 72], lent := [], res := [true, true, true, true], marks := [] }
def b_exec_Wrong : ACode tab :=
 .seq (.region [⟨(some 2), .box (.named .TUop) (.v 0), none⟩,
  ⟨(some 4), .move (.c (.val (.bool) false (.no))), none⟩])
 (.seq (.seq (.region [⟨(some 5), .fld .TUop 1 (.v 2), none⟩,
  ⟨(some 6), .fld .TSlot 4 (.t 5), none⟩,
  ⟨(some 7), .fld .TGuess 0 (.t 6), none⟩,
  ⟨(some 8), .load (.bool) (.t 7), none⟩])
 (.cond (.v 8) (.seq (.region [⟨(some 9), .move (.v 1), none⟩,
  ⟨(some 10), .fld .TUop 1 (.v 2), none⟩,
  ⟨(some 11), .fld .TSlot 4 (.t 10), none⟩,
  ⟨(some 12), .fld .TGuess 1 (.t 11), none⟩,
  ⟨(some 13), .load (.int .u32) (.t 12), none⟩,
  ⟨(some 14), .bin .neq (.t 9) (.t 13), none⟩,
  ⟨(some 4), .move (.t 14), none⟩])
 (.ret))
 (.skip)))
 (.seq (.region [⟨(some 15), .move (.v 1), none⟩,
  ⟨(some 16), .load (.named .TUop) (.v 2), none⟩,
  ⟨(some 17), .call 21 [(.t 16)], none⟩,
  ⟨(some 18), .bin .neq (.t 15) (.t 17), none⟩,
  ⟨(some 4), .move (.t 18), none⟩])
 (.ret)))
def g_exec_Wrong : AFn tab := { np := 2, keep := [0, 1, 2, 4, 8], lent := [], body := b_exec_Wrong, res := [(.tmp 4, true)] }
def x_exec_Wrong : FnX := { keep := [0, 1, 2, 4, 8], lent := [], res := [true], marks := [] }
def b_ref32_Wrong : ACode tab :=
 .seq (.region [⟨(some 2), .box (.named .TUop) (.v 0), none⟩,
  ⟨(some 4), .move (.c (.val (.bool) false (.no))), none⟩])
 (.seq (.seq (.region [⟨(some 5), .fld .TUop 1 (.v 2), none⟩,
  ⟨(some 6), .fld .TSlot 4 (.t 5), none⟩,
  ⟨(some 7), .fld .TGuess 0 (.t 6), none⟩,
  ⟨(some 8), .load (.bool) (.t 7), none⟩])
 (.cond (.v 8) (.seq (.region [⟨(some 9), .move (.v 1), none⟩,
  ⟨(some 10), .fld .TUop 1 (.v 2), none⟩,
  ⟨(some 11), .fld .TSlot 4 (.t 10), none⟩,
  ⟨(some 12), .fld .TGuess 1 (.t 11), none⟩,
  ⟨(some 13), .load (.int .u32) (.t 12), none⟩,
  ⟨(some 14), .bin .neq (.t 9) (.t 13), none⟩,
  ⟨(some 4), .move (.t 14), none⟩])
 (.ret))
 (.skip)))
 (.seq (.region [⟨(some 15), .move (.v 1), none⟩,
  ⟨(some 16), .fld .TUop 1 (.v 2), none⟩,
  ⟨(some 17), .fld .TSlot 0 (.t 16), none⟩,
  ⟨(some 18), .load (.int .u32) (.t 17), none⟩,
  ⟨(some 19), .bin .add (.t 18) (.c (.val (.int .u32) (W.of .u32 4) (.no))), none⟩,
  ⟨(some 20), .bin .neq (.t 15) (.t 19), none⟩,
  ⟨(some 4), .move (.t 20), none⟩])
 (.ret)))
def g_ref32_Wrong : AFn tab := { np := 2, keep := [0, 1, 2, 4, 8], lent := [], body := b_ref32_Wrong, res := [(.tmp 4, true)] }
def x_ref32_Wrong : FnX := { keep := [0, 1, 2, 4, 8], lent := [], res := [true], marks := [] }
def b_bits_clamp : ACode tab :=
 .seq (.region [⟨(some 6), .move (.c (.val (.int .i64) (W.of .i64 0) (.no))), none⟩])
 (.seq (.region [⟨(some 7), .move (.v 0), none⟩,
  ⟨(some 8), .move (.v 1), none⟩,
  ⟨(some 9), .mm true [(.t 7), (.t 8)], none⟩,
  ⟨(some 10), .move (.v 2), none⟩,
  ⟨(some 11), .mm false [(.t 9), (.t 10)], none⟩,
  ⟨(some 6), .move (.t 11), none⟩])
 (.ret))
def g_bits_clamp : AFn tab := { np := 3, keep := [0, 1, 2, 6], lent := [], body := b_bits_clamp, res := [(.tmp 6, true)] }
def x_bits_clamp : FnX := { keep := [0, 1, 2, 6], lent := [], res := [true], marks := [] }
def b_bits_Sext : ACode tab :=
 .seq (.region [⟨(some 4), .move (.c (.val (.int .u32) (W.of .u32 0) (.no))), none⟩])
 (.seq (.region [⟨(some 6), .move (.v 1), none⟩,
  ⟨(some 7), .call 44 [(.t 6), (.c (.val (.int .i64) (W.of .i64 0) (.no))), (.c (.val (.int .i64) (W.of .i64 32) (.no)))], none⟩,
  ⟨(some 8), .bin .sub (.c (.val (.int .i64) (W.of .i64 32) (.no))) (.t 7), none⟩,
  ⟨(some 5), .move (.t 8), none⟩])
 (.seq (.region [⟨(some 9), .move (.v 0), none⟩,
  ⟨(some 10), .move (.v 5), none⟩,
  ⟨(some 11), .bin .shl (.t 9) (.t 10), none⟩,
  ⟨(some 12), .conv .i32 (.t 11), none⟩,
  ⟨(some 13), .move (.v 5), none⟩,
  ⟨(some 14), .bin .shr (.t 12) (.t 13), none⟩,
  ⟨(some 15), .conv .u32 (.t 14), none⟩,
  ⟨(some 4), .move (.t 15), none⟩])
 (.ret)))
def g_bits_Sext : AFn tab := { np := 2, keep := [0, 1, 4, 5], lent := [], body := b_bits_Sext, res := [(.tmp 4, true)] }
def x_bits_Sext : FnX := { keep := [0, 1, 4, 5], lent := [], res := [true], marks := [] }
def b_bits_ones : ACode tab :=
 .seq (.region [⟨(some 2), .move (.c (.val (.int .u32) (W.of .u32 0) (.no))), none⟩])
 (.seq (.region [⟨(some 3), .move (.v 0), none⟩,
  ⟨(some 4), .bin .shl (.c (.val (.int .u64) (W.of .u64 1) (.no))) (.t 3), none⟩,
  ⟨(some 5), .bin .sub (.t 4) (.c (.val (.int .u64) (W.of .u64 1) (.no))), none⟩,
  ⟨(some 6), .conv .u32 (.t 5), none⟩,
  ⟨(some 2), .move (.t 6), none⟩])
 (.ret))
def g_bits_ones : AFn tab := { np := 1, keep := [0, 2], lent := [], body := b_bits_ones, res := [(.tmp 2, true)] }
def x_bits_ones : FnX := { keep := [0, 2], lent := [], res := [true], marks := [] }
def b_bits_Zext : ACode tab :=
 .seq (.region [⟨(some 4), .move (.c (.val (.int .u32) (W.of .u32 0) (.no))), none⟩])
 (.seq (.region [⟨(some 5), .move (.v 0), none⟩,
  ⟨(some 6), .move (.v 1), none⟩,
  ⟨(some 7), .call 44 [(.t 6), (.c (.val (.int .i64) (W.of .i64 0) (.no))), (.c (.val (.int .i64) (W.of .i64 32) (.no)))], none⟩,
  ⟨(some 8), .call 43 [(.t 7)], none⟩,
  ⟨(some 9), .bin .and (.t 5) (.t 8), none⟩,
  ⟨(some 4), .move (.t 9), none⟩])
 (.ret))
def g_bits_Zext : AFn tab := { np := 2, keep := [0, 1, 4], lent := [], body := b_bits_Zext, res := [(.tmp 4, true)] }
def x_bits_Zext : FnX := { keep := [0, 1, 4], lent := [], res := [true], marks := [] }
def b_exec_Ext : ACode tab :=
 .seq (.region [⟨(some 4), .move (.c (.val (.int .u32) (W.of .u32 0) (.no))), none⟩])
 (.seq (.seq (.region [⟨(some 5), .move (.v 0), none⟩])
 (.block 0 (.seq (.region [⟨(some 7), .bin .eql (.v 5) (.c (.val (.int .i64) (W.of .i64 34) (.no))), none⟩,
  ⟨(some 6), .move (.t 7), none⟩])
 (.cond (.v 6) (.seq (.region [⟨(some 8), .move (.v 1), none⟩,
  ⟨(some 9), .call 32 [(.t 8), (.c (.val (.int .i64) (W.of .i64 8) (.no)))], none⟩,
  ⟨(some 4), .move (.t 9), none⟩])
 (.ret))
 (.seq (.region [⟨(some 11), .bin .eql (.v 5) (.c (.val (.int .i64) (W.of .i64 36) (.no))), none⟩,
  ⟨(some 10), .move (.t 11), none⟩])
 (.cond (.v 10) (.seq (.region [⟨(some 12), .move (.v 1), none⟩,
  ⟨(some 13), .call 32 [(.t 12), (.c (.val (.int .i64) (W.of .i64 16) (.no)))], none⟩,
  ⟨(some 4), .move (.t 13), none⟩])
 (.ret))
 (.seq (.region [⟨(some 15), .bin .eql (.v 5) (.c (.val (.int .i64) (W.of .i64 35) (.no))), none⟩,
  ⟨(some 14), .move (.t 15), none⟩])
 (.cond (.v 14) (.seq (.region [⟨(some 16), .move (.v 1), none⟩,
  ⟨(some 17), .call 30 [(.t 16), (.c (.val (.int .i64) (W.of .i64 8) (.no)))], none⟩,
  ⟨(some 4), .move (.t 17), none⟩])
 (.ret))
 (.seq (.region [⟨(some 19), .bin .eql (.v 5) (.c (.val (.int .i64) (W.of .i64 37) (.no))), none⟩,
  ⟨(some 18), .move (.t 19), none⟩])
 (.cond (.v 18) (.seq (.region [⟨(some 20), .move (.v 1), none⟩,
  ⟨(some 21), .call 30 [(.t 20), (.c (.val (.int .i64) (W.of .i64 16) (.no)))], none⟩,
  ⟨(some 4), .move (.t 21), none⟩])
 (.ret))
 (.skip)))))))))))
 (.seq (.region [⟨(some 22), .move (.v 1), none⟩,
  ⟨(some 4), .move (.t 22), none⟩])
 (.ret)))
def g_exec_Ext : AFn tab := { np := 2, keep := [0, 1, 4, 5, 6, 10, 14, 18], lent := [], body := b_exec_Ext, res := [(.tmp 4, true)] }
def x_exec_Ext : FnX := { keep := [0, 1, 4, 5, 6, 10, 14, 18], lent := [], res := [true], marks := [] }
def b_law32_awake : ACode tab :=
 .seq (.region [⟨(some 0), .move (.c (.val (.bool) false (.no))), none⟩])
 (.seq (.region [⟨(some 6), .build .TInst [(0, (.c (.val (.int .i64) (W.of .i64 25) (.no)))), (4, (.c (.val (.int .i64) (W.of .i64 (-1)) (.no))))], none⟩,
  ⟨(some 7), .build .TSlot [(0, (.c (.val (.int .u32) (W.of .u32 8) (.no))))], none⟩,
  ⟨(some 8), .build .TUop [(0, (.t 6)), (1, (.t 7))], none⟩,
  ⟨(some 1), .alloc (.named .TUop), none⟩,
  ⟨none, .store (.named .TUop) (.v 1) (.t 8), none⟩])
 (.seq (.region [⟨(some 10), .load (.named .TUop) (.v 1), none⟩,
  ⟨(some 11), .buildA 3 (.int .u32) [(0, (.c (.val (.int .u32) (W.of .u32 5) (.no))))], none⟩,
  ⟨(some 12), .call 7 [(.t 10), (.t 11)], none⟩,
  ⟨(some 9), .move (.t 12), none⟩,
  ⟨(some 13), .extract (.t 9) 0, none⟩,
  ⟨(some 14), .extract (.t 9) 1, none⟩,
  ⟨(some 15), .extract (.t 9) 2, none⟩,
  ⟨(some 16), .extract (.t 9) 3, none⟩,
  ⟨(some 2), .move (.t 13), none⟩,
  ⟨(some 3), .move (.t 14), none⟩,
  ⟨(some 4), .move (.t 15), none⟩,
  ⟨(some 5), .move (.t 16), none⟩])
 (.seq (.region [⟨(some 17), .move (.v 2), none⟩,
  ⟨(some 18), .bin .eql (.t 17) (.c (.val (.int .u32) (W.of .u32 4) (.no))), none⟩,
  ⟨(some 19), .move (.t 18), none⟩,
  ⟨(some 20), .move (.v 3), (some (19, true))⟩,
  ⟨(some 21), .bin .eql (.t 20) (.c (.val (.int .u32) (W.of .u32 12) (.no))), (some (19, true))⟩,
  ⟨(some 22), .pick (.t 19) (.t 21) (.c (.val (.bool) false (.no))), none⟩,
  ⟨(some 23), .move (.t 22), none⟩,
  ⟨(some 24), .move (.v 4), (some (23, true))⟩,
  ⟨(some 25), .bin .eql (.t 24) (.c (.val (.int .i64) (W.of .i64 0) (.no))), (some (23, true))⟩,
  ⟨(some 26), .pick (.t 23) (.t 25) (.c (.val (.bool) false (.no))), none⟩,
  ⟨(some 27), .move (.t 26), none⟩,
  ⟨(some 28), .call 17 [(.c (.val (.int .i64) (W.of .i64 34) (.no))), (.c (.val (.int .u32) (W.of .u32 128) (.no)))], (some (27, true))⟩,
  ⟨(some 29), .bin .eql (.t 28) (.c (.val (.int .u32) (W.of .u32 4294967168) (.no))), (some (27, true))⟩,
  ⟨(some 30), .pick (.t 27) (.t 29) (.c (.val (.bool) false (.no))), none⟩,
  ⟨(some 31), .move (.t 30), none⟩,
  ⟨(some 32), .load (.named .TUop) (.v 1), (some (31, true))⟩,
  ⟨(some 33), .call 9 [(.t 32), (.c (.val (.int .u32) (W.of .u32 16) (.no)))], (some (31, true))⟩,
  ⟨(some 34), .pick (.t 31) (.t 33) (.c (.val (.bool) false (.no))), none⟩,
  ⟨(some 35), .move (.t 34), none⟩,
  ⟨(some 36), .load (.named .TUop) (.v 1), (some (35, true))⟩,
  ⟨(some 37), .call 9 [(.t 36), (.c (.val (.int .u32) (W.of .u32 12) (.no)))], (some (35, true))⟩,
  ⟨(some 38), .un .not (.t 37), (some (35, true))⟩,
  ⟨(some 39), .pick (.t 35) (.t 38) (.c (.val (.bool) false (.no))), none⟩,
  ⟨(some 0), .move (.t 39), none⟩])
 (.ret))))
def g_law32_awake : AFn tab := { np := 0, keep := [0, 1, 2, 3, 4], lent := [], body := b_law32_awake, res := [(.tmp 0, true)] }
def x_law32_awake : FnX := { keep := [0, 1, 2, 3, 4], lent := [], res := [true], marks := [] }
def b_law32_ExecDoes : ACode tab :=
 .seq (.region [⟨(some 3), .box (.named .TUop) (.v 0), none⟩,
  ⟨(some 4), .box (.arr 3 (.int .u32)) (.v 1), none⟩,
  ⟨(some 6), .move (.c (.val (.bool) false (.no))), none⟩])
 (.seq (.region [⟨(some 16), .load (.named .TUop) (.v 3), none⟩,
  ⟨(some 17), .load (.arr 3 (.int .u32)) (.v 4), none⟩,
  ⟨(some 18), .call 7 [(.t 16), (.t 17)], none⟩,
  ⟨(some 15), .move (.t 18), none⟩,
  ⟨(some 19), .extract (.t 15) 0, none⟩,
  ⟨(some 20), .extract (.t 15) 1, none⟩,
  ⟨(some 21), .extract (.t 15) 2, none⟩,
  ⟨(some 22), .extract (.t 15) 3, none⟩,
  ⟨(some 7), .move (.t 19), none⟩,
  ⟨(some 8), .move (.t 20), none⟩,
  ⟨(some 9), .move (.t 21), none⟩,
  ⟨(some 10), .move (.t 22), none⟩])
 (.seq (.region [⟨(some 24), .load (.named .TUop) (.v 3), none⟩,
  ⟨(some 25), .load (.arr 3 (.int .u32)) (.v 4), none⟩,
  ⟨(some 26), .call 8 [(.t 24), (.t 25)], none⟩,
  ⟨(some 23), .move (.t 26), none⟩,
  ⟨(some 27), .extract (.t 23) 0, none⟩,
  ⟨(some 28), .extract (.t 23) 1, none⟩,
  ⟨(some 29), .extract (.t 23) 2, none⟩,
  ⟨(some 30), .extract (.t 23) 3, none⟩,
  ⟨(some 11), .move (.t 27), none⟩,
  ⟨(some 12), .move (.t 28), none⟩,
  ⟨(some 13), .move (.t 29), none⟩,
  ⟨(some 14), .move (.t 30), none⟩])
 (.seq (.draw [⟨(some 31), .move (.v 7), none⟩,
  ⟨(some 32), .move (.v 11), none⟩,
  ⟨(some 33), .bin .eql (.t 31) (.t 32), none⟩,
  ⟨(some 34), .move (.t 33), none⟩,
  ⟨(some 35), .move (.v 8), (some (34, true))⟩,
  ⟨(some 36), .move (.v 12), (some (34, true))⟩,
  ⟨(some 37), .bin .eql (.t 35) (.t 36), (some (34, true))⟩,
  ⟨(some 38), .pick (.t 34) (.t 37) (.c (.val (.bool) false (.no))), none⟩,
  ⟨(some 39), .move (.t 38), none⟩,
  ⟨(some 40), .move (.v 9), (some (39, true))⟩,
  ⟨(some 41), .move (.v 13), (some (39, true))⟩,
  ⟨(some 42), .bin .eql (.t 40) (.t 41), (some (39, true))⟩,
  ⟨(some 43), .pick (.t 39) (.t 42) (.c (.val (.bool) false (.no))), none⟩,
  ⟨(some 44), .move (.t 43), none⟩,
  ⟨(some 45), .move (.v 10), (some (44, true))⟩,
  ⟨(some 46), .move (.v 14), (some (44, true))⟩,
  ⟨(some 47), .bin .eql (.t 45) (.t 46), (some (44, true))⟩,
  ⟨(some 48), .pick (.t 44) (.t 47) (.c (.val (.bool) false (.no))), none⟩,
  ⟨(some 49), .move (.t 48), none⟩,
  ⟨(some 50), .load (.named .TUop) (.v 3), (some (49, true))⟩,
  ⟨(some 51), .move (.v 2), (some (49, true))⟩,
  ⟨(some 52), .call 9 [(.t 50), (.t 51)], (some (49, true))⟩,
  ⟨(some 53), .load (.named .TUop) (.v 3), (some (49, true))⟩,
  ⟨(some 54), .move (.v 2), (some (49, true))⟩,
  ⟨(some 55), .call 10 [(.t 53), (.t 54)], (some (49, true))⟩,
  ⟨(some 56), .eq (.bool) false (.t 52) (.t 55), (some (49, true))⟩,
  ⟨(some 57), .pick (.t 49) (.t 56) (.c (.val (.bool) false (.no))), none⟩,
  ⟨(some 58), .move (.t 57), none⟩,
  ⟨(some 59), .load (.named .TUop) (.v 3), (some (58, true))⟩,
  ⟨(some 60), .move (.v 8), (some (58, true))⟩,
  ⟨(some 61), .call 9 [(.t 59), (.t 60)], (some (58, true))⟩,
  ⟨(some 62), .load (.named .TUop) (.v 3), (some (58, true))⟩,
  ⟨(some 63), .move (.v 12), (some (58, true))⟩,
  ⟨(some 64), .call 10 [(.t 62), (.t 63)], (some (58, true))⟩,
  ⟨(some 65), .eq (.bool) false (.t 61) (.t 64), (some (58, true))⟩,
  ⟨(some 66), .pick (.t 58) (.t 65) (.c (.val (.bool) false (.no))), none⟩,
  ⟨(some 67), .move (.t 66), none⟩,
  ⟨(some 68), .call 11 [], (some (67, true))⟩,
  ⟨(some 69), .pick (.t 67) (.t 68) (.c (.val (.bool) false (.no))), none⟩,
  ⟨(some 6), .move (.t 69), none⟩] [0, 0, 3, 7, 15, 15, 63, 127, 255, 511, 511, 2047, 4095, 8191, 16383, 16383, 65535, 131071, 262143, 524287, 524287, 2097151, 524287, 524287, 16777215, 33554431, 67108863, 134217727, 268435455, 268435455, 1073741823, 268435455, 268435455, 8589934591, 17179869183, 34359738367, 68719476735, 137438953471, 274877906943, 549755813887])
 (.ret))))
def g_law32_ExecDoes : AFn tab := { np := 3, keep := [0, 1, 2, 3, 4, 6, 7, 8, 9, 10, 11, 12, 13, 14], lent := [], body := b_law32_ExecDoes, res := [(.tmp 6, true)] }
def x_law32_ExecDoes : FnX := { keep := [0, 1, 2, 3, 4, 6, 7, 8, 9, 10, 11, 12, 13, 14], lent := [], res := [true], marks := [] }
def b_pred_Next : ACode tab :=
 .seq (.region [⟨(some 1), .box (.named .TSlot) (.v 0), none⟩,
  ⟨(some 2), .move (.c (.val (.int .u32) (W.of .u32 0) (.no))), none⟩])
 (.seq (.seq (.region [⟨(some 3), .fld .TSlot 4 (.v 1), none⟩,
  ⟨(some 4), .fld .TGuess 0 (.t 3), none⟩,
  ⟨(some 5), .load (.bool) (.t 4), none⟩])
 (.cond (.v 5) (.seq (.region [⟨(some 6), .fld .TSlot 4 (.v 1), none⟩,
  ⟨(some 7), .fld .TGuess 1 (.t 6), none⟩,
  ⟨(some 8), .load (.int .u32) (.t 7), none⟩,
  ⟨(some 2), .move (.t 8), none⟩])
 (.ret))
 (.skip)))
 (.seq (.region [⟨(some 9), .fld .TSlot 0 (.v 1), none⟩,
  ⟨(some 10), .load (.int .u32) (.t 9), none⟩,
  ⟨(some 11), .bin .add (.t 10) (.c (.val (.int .u32) (W.of .u32 4) (.no))), none⟩,
  ⟨(some 2), .move (.t 11), none⟩])
 (.ret)))
def g_pred_Next : AFn tab := { np := 1, keep := [0, 1, 2, 5], lent := [], body := b_pred_Next, res := [(.tmp 2, true)] }
def x_pred_Next : FnX := { keep := [0, 1, 2, 5], lent := [], res := [true], marks := [] }
def b_law32_ExecGuess : ACode tab :=
 .seq (.region [⟨(some 2), .box (.named .TUop) (.v 0), none⟩,
  ⟨(some 4), .move (.c (.val (.bool) false (.no))), none⟩])
 (.seq (.region [⟨(some 6), .fld .TUop 1 (.v 2), none⟩,
  ⟨(some 7), .load (.named .TSlot) (.t 6), none⟩,
  ⟨(some 8), .call 12 [(.t 7)], none⟩,
  ⟨(some 5), .move (.t 8), none⟩])
 (.seq (.region [⟨(some 9), .load (.named .TUop) (.v 2), none⟩,
  ⟨(some 10), .move (.v 1), none⟩,
  ⟨(some 11), .call 9 [(.t 9), (.t 10)], none⟩,
  ⟨(some 12), .move (.v 1), none⟩,
  ⟨(some 13), .move (.v 5), none⟩,
  ⟨(some 14), .bin .neq (.t 12) (.t 13), none⟩,
  ⟨(some 15), .eq (.bool) false (.t 11) (.t 14), none⟩,
  ⟨(some 16), .move (.t 15), none⟩,
  ⟨(some 17), .load (.named .TUop) (.v 2), (some (16, true))⟩,
  ⟨(some 18), .move (.v 5), (some (16, true))⟩,
  ⟨(some 19), .call 9 [(.t 17), (.t 18)], (some (16, true))⟩,
  ⟨(some 20), .un .not (.t 19), (some (16, true))⟩,
  ⟨(some 21), .pick (.t 16) (.t 20) (.c (.val (.bool) false (.no))), none⟩,
  ⟨(some 22), .move (.t 21), none⟩,
  ⟨(some 23), .call 11 [], (some (22, true))⟩,
  ⟨(some 24), .pick (.t 22) (.t 23) (.c (.val (.bool) false (.no))), none⟩,
  ⟨(some 4), .move (.t 24), none⟩])
 (.ret)))
def g_law32_ExecGuess : AFn tab := { np := 2, keep := [0, 1, 2, 4, 5], lent := [], body := b_law32_ExecGuess, res := [(.tmp 4, true)] }
def x_law32_ExecGuess : FnX := { keep := [0, 1, 2, 4, 5], lent := [], res := [true], marks := [] }
def b_crack_Size : ACode tab :=
 .seq (.region [⟨(some 2), .move (.c (.val (.int .i64) (W.of .i64 0) (.no))), none⟩])
 (.seq (.seq (.region [⟨(some 3), .move (.v 0), none⟩])
 (.block 0 (.seq (.seq (.region [⟨(some 5), .bin .eql (.v 3) (.c (.val (.int .i64) (W.of .i64 34) (.no))), none⟩,
  ⟨(some 4), .move (.t 5), none⟩])
 (.cond (.v 4) (.skip)
 (.seq (.region [⟨(some 6), .bin .eql (.v 3) (.c (.val (.int .i64) (W.of .i64 35) (.no))), none⟩,
  ⟨(some 4), .move (.t 6), none⟩])
 (.cond (.v 4) (.skip)
 (.region [⟨(some 7), .bin .eql (.v 3) (.c (.val (.int .i64) (W.of .i64 40) (.no))), none⟩,
  ⟨(some 4), .move (.t 7), none⟩])))))
 (.cond (.v 4) (.seq (.region [⟨(some 2), .move (.c (.val (.int .i64) (W.of .i64 1) (.no))), none⟩])
 (.ret))
 (.seq (.seq (.region [⟨(some 9), .bin .eql (.v 3) (.c (.val (.int .i64) (W.of .i64 36) (.no))), none⟩,
  ⟨(some 8), .move (.t 9), none⟩])
 (.cond (.v 8) (.skip)
 (.seq (.region [⟨(some 10), .bin .eql (.v 3) (.c (.val (.int .i64) (W.of .i64 37) (.no))), none⟩,
  ⟨(some 8), .move (.t 10), none⟩])
 (.cond (.v 8) (.skip)
 (.region [⟨(some 11), .bin .eql (.v 3) (.c (.val (.int .i64) (W.of .i64 41) (.no))), none⟩,
  ⟨(some 8), .move (.t 11), none⟩])))))
 (.cond (.v 8) (.seq (.region [⟨(some 2), .move (.c (.val (.int .i64) (W.of .i64 2) (.no))), none⟩])
 (.ret))
 (.seq (.seq (.region [⟨(some 13), .bin .eql (.v 3) (.c (.val (.int .i64) (W.of .i64 38) (.no))), none⟩,
  ⟨(some 12), .move (.t 13), none⟩])
 (.cond (.v 12) (.skip)
 (.seq (.region [⟨(some 14), .bin .eql (.v 3) (.c (.val (.int .i64) (W.of .i64 39) (.no))), none⟩,
  ⟨(some 12), .move (.t 14), none⟩])
 (.cond (.v 12) (.skip)
 (.seq (.region [⟨(some 15), .bin .eql (.v 3) (.c (.val (.int .i64) (W.of .i64 42) (.no))), none⟩,
  ⟨(some 12), .move (.t 15), none⟩])
 (.cond (.v 12) (.skip)
 (.seq (.region [⟨(some 16), .bin .eql (.v 3) (.c (.val (.int .i64) (W.of .i64 51) (.no))), none⟩,
  ⟨(some 12), .move (.t 16), none⟩])
 (.cond (.v 12) (.skip)
 (.seq (.region [⟨(some 17), .bin .eql (.v 3) (.c (.val (.int .i64) (W.of .i64 52) (.no))), none⟩,
  ⟨(some 12), .move (.t 17), none⟩])
 (.cond (.v 12) (.skip)
 (.region [⟨(some 18), .bin .eql (.v 3) (.c (.val (.int .i64) (W.of .i64 53) (.no))), none⟩,
  ⟨(some 12), .move (.t 18), none⟩])))))))))))
 (.cond (.v 12) (.seq (.region [⟨(some 2), .move (.c (.val (.int .i64) (W.of .i64 4) (.no))), none⟩])
 (.ret))
 (.skip)))))))))
 (.seq (.region [⟨(some 2), .move (.c (.val (.int .i64) (W.of .i64 0) (.no))), none⟩])
 (.ret)))
def g_crack_Size : AFn tab := { np := 1, keep := [0, 2, 3, 4, 8, 12], lent := [], body := b_crack_Size, res := [(.tmp 2, true)] }
def x_crack_Size : FnX := { keep := [0, 2, 3, 4, 8, 12], lent := [], res := [true], marks := [] }
def b_exec_Addr : ACode tab :=
 .seq (.region [⟨(some 2), .box (.named .TUop) (.v 0), none⟩,
  ⟨(some 3), .box (.arr 3 (.int .u32)) (.v 1), none⟩,
  ⟨(some 4), .move (.c (.val (.int .u32) (W.of .u32 0) (.no))), none⟩,
  ⟨(some 5), .move (.c (.val (.int .i64) (W.of .i64 0) (.no))), none⟩])
 (.seq (.region [⟨(some 7), .fld .TUop 0 (.v 2), none⟩,
  ⟨(some 8), .fld .TInst 0 (.t 7), none⟩,
  ⟨(some 9), .load (.int .i64) (.t 8), none⟩,
  ⟨(some 6), .move (.t 9), none⟩])
 (.seq (.block 0 (.seq (.region [⟨(some 11), .move (.v 6), none⟩,
  ⟨(some 12), .call 22 [(.t 11), (.c (.val (.int .i64) (W.of .i64 34) (.no))), (.c (.val (.int .i64) (W.of .i64 38) (.no)))], none⟩,
  ⟨(some 13), .move (.t 12), none⟩,
  ⟨(some 14), .move (.v 6), (some (13, false))⟩,
  ⟨(some 15), .call 22 [(.t 14), (.c (.val (.int .i64) (W.of .i64 40) (.no))), (.c (.val (.int .i64) (W.of .i64 42) (.no)))], (some (13, false))⟩,
  ⟨(some 16), .pick (.t 13) (.c (.val (.bool) true (.no))) (.t 15), none⟩,
  ⟨(some 10), .move (.t 16), none⟩])
 (.cond (.v 10) (.seq (.draw [⟨(some 17), .idxA 3 (.int .u32) (.v 3) (.c (.val (.int .i64) (W.of .i64 0) (.no))), none⟩,
  ⟨(some 18), .load (.int .u32) (.t 17), none⟩,
  ⟨(some 19), .fld .TUop 0 (.v 2), none⟩,
  ⟨(some 20), .fld .TInst 4 (.t 19), none⟩,
  ⟨(some 21), .load (.int .i64) (.t 20), none⟩,
  ⟨(some 22), .conv .u32 (.t 21), none⟩,
  ⟨(some 23), .bin .add (.t 18) (.t 22), none⟩,
  ⟨(some 24), .move (.v 6), none⟩,
  ⟨(some 25), .call 19 [(.t 24)], none⟩,
  ⟨(some 4), .move (.t 23), none⟩,
  ⟨(some 5), .move (.t 25), none⟩] [0, 1, 0, 4, 12, 28, 63, 0, 128, 511, 1023])
 (.ret))
 (.seq (.region [⟨(some 27), .move (.v 6), none⟩,
  ⟨(some 28), .bin .eql (.t 27) (.c (.val (.int .i64) (W.of .i64 39) (.no))), none⟩,
  ⟨(some 29), .move (.t 28), none⟩,
  ⟨(some 30), .move (.v 6), (some (29, false))⟩,
  ⟨(some 31), .call 22 [(.t 30), (.c (.val (.int .i64) (W.of .i64 51) (.no))), (.c (.val (.int .i64) (W.of .i64 53) (.no)))], (some (29, false))⟩,
  ⟨(some 32), .pick (.t 29) (.c (.val (.bool) true (.no))) (.t 31), none⟩,
  ⟨(some 26), .move (.t 32), none⟩])
 (.cond (.v 26) (.seq (.draw [⟨(some 33), .idxA 3 (.int .u32) (.v 3) (.c (.val (.int .i64) (W.of .i64 0) (.no))), none⟩,
  ⟨(some 34), .load (.int .u32) (.t 33), none⟩,
  ⟨(some 35), .move (.v 6), none⟩,
  ⟨(some 36), .call 19 [(.t 35)], none⟩,
  ⟨(some 4), .move (.t 34), none⟩,
  ⟨(some 5), .move (.t 36), none⟩] [0, 1, 0, 4, 15, 31])
 (.ret))
 (.skip))))))
 (.seq (.region [⟨(some 4), .move (.c (.val (.int .u32) (W.of .u32 0) (.no))), none⟩,
  ⟨(some 5), .move (.c (.val (.int .i64) (W.of .i64 0) (.no))), none⟩])
 (.ret))))
def g_exec_Addr : AFn tab := { np := 2, keep := [0, 1, 2, 3, 4, 5, 6, 10, 26], lent := [], body := b_exec_Addr, res := [(.tmp 4, true), (.tmp 5, true)] }
def x_exec_Addr : FnX := { keep := [0, 1, 2, 3, 4, 5, 6, 10, 26], lent := [], res := [true, true], marks := [] }
def b_ref24_Size : ACode tab :=
 .seq (.region [⟨(some 2), .move (.c (.val (.int .i64) (W.of .i64 0) (.no))), none⟩])
 (.seq (.seq (.region [⟨(some 3), .move (.v 0), none⟩])
 (.block 0 (.seq (.seq (.region [⟨(some 5), .bin .eql (.v 3) (.c (.val (.int .i64) (W.of .i64 34) (.no))), none⟩,
  ⟨(some 4), .move (.t 5), none⟩])
 (.cond (.v 4) (.skip)
 (.seq (.region [⟨(some 6), .bin .eql (.v 3) (.c (.val (.int .i64) (W.of .i64 35) (.no))), none⟩,
  ⟨(some 4), .move (.t 6), none⟩])
 (.cond (.v 4) (.skip)
 (.region [⟨(some 7), .bin .eql (.v 3) (.c (.val (.int .i64) (W.of .i64 40) (.no))), none⟩,
  ⟨(some 4), .move (.t 7), none⟩])))))
 (.cond (.v 4) (.seq (.region [⟨(some 2), .move (.c (.val (.int .i64) (W.of .i64 1) (.no))), none⟩])
 (.ret))
 (.seq (.seq (.region [⟨(some 9), .bin .eql (.v 3) (.c (.val (.int .i64) (W.of .i64 36) (.no))), none⟩,
  ⟨(some 8), .move (.t 9), none⟩])
 (.cond (.v 8) (.skip)
 (.seq (.region [⟨(some 10), .bin .eql (.v 3) (.c (.val (.int .i64) (W.of .i64 37) (.no))), none⟩,
  ⟨(some 8), .move (.t 10), none⟩])
 (.cond (.v 8) (.skip)
 (.region [⟨(some 11), .bin .eql (.v 3) (.c (.val (.int .i64) (W.of .i64 41) (.no))), none⟩,
  ⟨(some 8), .move (.t 11), none⟩])))))
 (.cond (.v 8) (.seq (.region [⟨(some 2), .move (.c (.val (.int .i64) (W.of .i64 2) (.no))), none⟩])
 (.ret))
 (.seq (.seq (.region [⟨(some 13), .bin .eql (.v 3) (.c (.val (.int .i64) (W.of .i64 38) (.no))), none⟩,
  ⟨(some 12), .move (.t 13), none⟩])
 (.cond (.v 12) (.skip)
 (.seq (.region [⟨(some 14), .bin .eql (.v 3) (.c (.val (.int .i64) (W.of .i64 39) (.no))), none⟩,
  ⟨(some 12), .move (.t 14), none⟩])
 (.cond (.v 12) (.skip)
 (.seq (.region [⟨(some 15), .bin .eql (.v 3) (.c (.val (.int .i64) (W.of .i64 42) (.no))), none⟩,
  ⟨(some 12), .move (.t 15), none⟩])
 (.cond (.v 12) (.skip)
 (.seq (.region [⟨(some 16), .bin .eql (.v 3) (.c (.val (.int .i64) (W.of .i64 51) (.no))), none⟩,
  ⟨(some 12), .move (.t 16), none⟩])
 (.cond (.v 12) (.skip)
 (.seq (.region [⟨(some 17), .bin .eql (.v 3) (.c (.val (.int .i64) (W.of .i64 52) (.no))), none⟩,
  ⟨(some 12), .move (.t 17), none⟩])
 (.cond (.v 12) (.skip)
 (.region [⟨(some 18), .bin .eql (.v 3) (.c (.val (.int .i64) (W.of .i64 53) (.no))), none⟩,
  ⟨(some 12), .move (.t 18), none⟩])))))))))))
 (.cond (.v 12) (.seq (.region [⟨(some 2), .move (.c (.val (.int .i64) (W.of .i64 4) (.no))), none⟩])
 (.ret))
 (.skip)))))))))
 (.seq (.region [⟨(some 2), .move (.c (.val (.int .i64) (W.of .i64 0) (.no))), none⟩])
 (.ret)))
def g_ref24_Size : AFn tab := { np := 1, keep := [0, 2, 3, 4, 8, 12], lent := [], body := b_ref24_Size, res := [(.tmp 2, true)] }
def x_ref24_Size : FnX := { keep := [0, 2, 3, 4, 8, 12], lent := [], res := [true], marks := [] }
def b_ref32_Addr : ACode tab :=
 .seq (.region [⟨(some 2), .box (.named .TUop) (.v 0), none⟩,
  ⟨(some 3), .box (.arr 3 (.int .u32)) (.v 1), none⟩,
  ⟨(some 4), .move (.c (.val (.int .u32) (W.of .u32 0) (.no))), none⟩,
  ⟨(some 5), .move (.c (.val (.int .i64) (W.of .i64 0) (.no))), none⟩])
 (.seq (.region [⟨(some 7), .fld .TUop 0 (.v 2), none⟩,
  ⟨(some 8), .fld .TInst 0 (.t 7), none⟩,
  ⟨(some 9), .load (.int .i64) (.t 8), none⟩,
  ⟨(some 6), .move (.t 9), none⟩])
 (.seq (.seq (.region [⟨(some 10), .move (.v 6), none⟩,
  ⟨(some 11), .bin .geq (.t 10) (.c (.val (.int .i64) (W.of .i64 34) (.no))), none⟩,
  ⟨(some 12), .move (.t 11), none⟩,
  ⟨(some 13), .move (.v 6), (some (12, true))⟩,
  ⟨(some 14), .bin .leq (.t 13) (.c (.val (.int .i64) (W.of .i64 38) (.no))), (some (12, true))⟩,
  ⟨(some 15), .pick (.t 12) (.t 14) (.c (.val (.bool) false (.no))), none⟩,
  ⟨(some 16), .move (.t 15), none⟩,
  ⟨(some 17), .move (.v 6), (some (16, false))⟩,
  ⟨(some 18), .bin .geq (.t 17) (.c (.val (.int .i64) (W.of .i64 40) (.no))), (some (16, false))⟩,
  ⟨(some 19), .move (.t 18), (some (16, false))⟩,
  ⟨(some 20), .move (.v 6), (some (19, true))⟩,
  ⟨(some 21), .bin .leq (.t 20) (.c (.val (.int .i64) (W.of .i64 42) (.no))), (some (19, true))⟩,
  ⟨(some 22), .pick (.t 19) (.t 21) (.c (.val (.bool) false (.no))), (some (16, false))⟩,
  ⟨(some 23), .pick (.t 16) (.c (.val (.bool) true (.no))) (.t 22), none⟩])
 (.cond (.v 23) (.seq (.draw [⟨(some 24), .idxA 3 (.int .u32) (.v 3) (.c (.val (.int .i64) (W.of .i64 0) (.no))), none⟩,
  ⟨(some 25), .load (.int .u32) (.t 24), none⟩,
  ⟨(some 26), .fld .TUop 0 (.v 2), none⟩,
  ⟨(some 27), .fld .TInst 4 (.t 26), none⟩,
  ⟨(some 28), .load (.int .i64) (.t 27), none⟩,
  ⟨(some 29), .conv .u32 (.t 28), none⟩,
  ⟨(some 30), .bin .add (.t 25) (.t 29), none⟩,
  ⟨(some 31), .move (.v 6), none⟩,
  ⟨(some 32), .call 29 [(.t 31)], none⟩,
  ⟨(some 4), .move (.t 30), none⟩,
  ⟨(some 5), .move (.t 32), none⟩] [0, 1, 0, 4, 12, 28, 63, 0, 128, 511, 1023])
 (.ret))
 (.skip)))
 (.seq (.seq (.region [⟨(some 33), .move (.v 6), none⟩,
  ⟨(some 34), .bin .eql (.t 33) (.c (.val (.int .i64) (W.of .i64 39) (.no))), none⟩,
  ⟨(some 35), .move (.t 34), none⟩,
  ⟨(some 36), .move (.v 6), (some (35, false))⟩,
  ⟨(some 37), .bin .geq (.t 36) (.c (.val (.int .i64) (W.of .i64 51) (.no))), (some (35, false))⟩,
  ⟨(some 38), .move (.t 37), (some (35, false))⟩,
  ⟨(some 39), .move (.v 6), (some (38, true))⟩,
  ⟨(some 40), .bin .leq (.t 39) (.c (.val (.int .i64) (W.of .i64 53) (.no))), (some (38, true))⟩,
  ⟨(some 41), .pick (.t 38) (.t 40) (.c (.val (.bool) false (.no))), (some (35, false))⟩,
  ⟨(some 42), .pick (.t 35) (.c (.val (.bool) true (.no))) (.t 41), none⟩])
 (.cond (.v 42) (.seq (.draw [⟨(some 43), .idxA 3 (.int .u32) (.v 3) (.c (.val (.int .i64) (W.of .i64 0) (.no))), none⟩,
  ⟨(some 44), .load (.int .u32) (.t 43), none⟩,
  ⟨(some 45), .move (.v 6), none⟩,
  ⟨(some 46), .call 29 [(.t 45)], none⟩,
  ⟨(some 4), .move (.t 44), none⟩,
  ⟨(some 5), .move (.t 46), none⟩] [0, 1, 0, 4, 15, 31])
 (.ret))
 (.skip)))
 (.seq (.region [⟨(some 4), .move (.c (.val (.int .u32) (W.of .u32 0) (.no))), none⟩,
  ⟨(some 5), .move (.c (.val (.int .i64) (W.of .i64 0) (.no))), none⟩])
 (.ret)))))
def g_ref32_Addr : AFn tab := { np := 2, keep := [0, 1, 2, 3, 4, 5, 6, 23, 42], lent := [], body := b_ref32_Addr, res := [(.tmp 4, true), (.tmp 5, true)] }
def x_ref32_Addr : FnX := { keep := [0, 1, 2, 3, 4, 5, 6, 23, 42], lent := [], res := [true, true], marks := [] }
def b_exec_Data : ACode tab :=
 .seq (.region [⟨(some 2), .box (.named .TUop) (.v 0), none⟩,
  ⟨(some 3), .box (.arr 3 (.int .u32)) (.v 1), none⟩,
  ⟨(some 4), .move (.c (.val (.int .u32) (W.of .u32 0) (.no))), none⟩])
 (.seq (.seq (.region [⟨(some 5), .fld .TUop 0 (.v 2), none⟩,
  ⟨(some 6), .fld .TInst 0 (.t 5), none⟩,
  ⟨(some 7), .load (.int .i64) (.t 6), none⟩,
  ⟨(some 8), .call 22 [(.t 7), (.c (.val (.int .i64) (W.of .i64 40) (.no))), (.c (.val (.int .i64) (W.of .i64 42) (.no)))], none⟩,
  ⟨(some 9), .un .not (.t 8), none⟩])
 (.cond (.v 9) (.seq (.region [⟨(some 4), .move (.c (.val (.int .u32) (W.of .u32 0) (.no))), none⟩])
 (.ret))
 (.skip)))
 (.seq (.draw [⟨(some 10), .idxA 3 (.int .u32) (.v 3) (.c (.val (.int .i64) (W.of .i64 1) (.no))), none⟩,
  ⟨(some 11), .load (.int .u32) (.t 10), none⟩,
  ⟨(some 12), .fld .TUop 0 (.v 2), none⟩,
  ⟨(some 13), .fld .TInst 0 (.t 12), none⟩,
  ⟨(some 14), .load (.int .i64) (.t 13), none⟩,
  ⟨(some 15), .call 19 [(.t 14)], none⟩,
  ⟨(some 16), .bin .mul (.c (.val (.int .i64) (W.of .i64 8) (.no))) (.t 15), none⟩,
  ⟨(some 17), .call 30 [(.t 11), (.t 16)], none⟩,
  ⟨(some 4), .move (.t 17), none⟩] [0, 1, 0, 4, 12, 28, 60, 127, 255])
 (.ret)))
def g_exec_Data : AFn tab := { np := 2, keep := [0, 1, 2, 3, 4, 9], lent := [], body := b_exec_Data, res := [(.tmp 4, true)] }
def x_exec_Data : FnX := { keep := [0, 1, 2, 3, 4, 9], lent := [], res := [true], marks := [] }
def b_ref01_brought : ACode tab :=
 .seq (.region [⟨(some 6), .move (.c (.val (.int .i64) (W.of .i64 0) (.no))), none⟩])
 (.seq (.seq (.region [⟨(some 7), .move (.v 0), none⟩,
  ⟨(some 8), .move (.v 1), none⟩,
  ⟨(some 9), .bin .lss (.t 7) (.t 8), none⟩])
 (.cond (.v 9) (.seq (.region [⟨(some 10), .move (.v 1), none⟩,
  ⟨(some 6), .move (.t 10), none⟩])
 (.ret))
 (.skip)))
 (.seq (.seq (.region [⟨(some 11), .move (.v 0), none⟩,
  ⟨(some 12), .move (.v 2), none⟩,
  ⟨(some 13), .bin .gtr (.t 11) (.t 12), none⟩])
 (.cond (.v 13) (.seq (.region [⟨(some 14), .move (.v 2), none⟩,
  ⟨(some 6), .move (.t 14), none⟩])
 (.ret))
 (.skip)))
 (.seq (.region [⟨(some 15), .move (.v 0), none⟩,
  ⟨(some 6), .move (.t 15), none⟩])
 (.ret))))
def g_ref01_brought : AFn tab := { np := 3, keep := [0, 1, 2, 6, 9, 13], lent := [], body := b_ref01_brought, res := [(.tmp 6, true)] }
def x_ref01_brought : FnX := { keep := [0, 1, 2, 6, 9, 13], lent := [], res := [true], marks := [] }
def c_ref01_power_7 : ACode tab :=
 .seq (.seq (.region [⟨(some 5), .move (.v 4), none⟩,
  ⟨(some 6), .move (.v 0), none⟩,
  ⟨(some 7), .bin .lss (.t 5) (.t 6), none⟩])
 (.cond (.v 7) (.skip)
 (.exit 0)))
 (.seq (.block 1 (.region [⟨(some 10), .move (.v 3), none⟩,
  ⟨(some 11), .bin .mul (.t 10) (.c (.val (.int .u32) (W.of .u32 2) (.no))), none⟩,
  ⟨(some 3), .move (.t 11), none⟩]))
 (.region [⟨(some 8), .move (.v 4), none⟩,
  ⟨(some 9), .bin .add (.t 8) (.c (.val (.int .i64) (W.of .i64 1) (.no))), none⟩,
  ⟨(some 4), .move (.t 9), none⟩]))
def m_ref01_power_7 : ACode tab := .trim [(3, .any)] (.loop (.mark 9 [(0, .any), (3, .any), (4, .any)] c_ref01_power_7))
def b_ref01_power : ACode tab :=
 .seq (.region [⟨(some 2), .move (.c (.val (.int .u32) (W.of .u32 0) (.no))), none⟩])
 (.seq (.region [⟨(some 3), .move (.c (.val (.int .u32) (W.of .u32 1) (.no))), none⟩])
 (.seq (.seq (.region [⟨(some 4), .move (.c (.val (.int .i64) (W.of .i64 0) (.no))), none⟩])
 (.block 0 (.mark 7 [(0, .any), (3, .any), (4, .any)] m_ref01_power_7)))
 (.seq (.region [⟨(some 12), .move (.v 3), none⟩,
  ⟨(some 2), .move (.t 12), none⟩])
 (.ret))))
def g_ref01_power : AFn tab := { np := 1, keep := [0, 2, 3, 4, 7], lent := [], body := b_ref01_power, res := [(.tmp 2, true)] }
def x_ref01_power : FnX := { keep := [0, 2, 3, 4, 7], lent := [], res := [true], marks := [(7, [(0, .any), (3, .any), (4, .any)]), (8, [(3, .any)]), (9, [(0, .any), (3, .any), (4, .any)])] }
def b_ref01_bit : ACode tab :=
 .seq (.region [⟨(some 4), .move (.c (.val (.int .u32) (W.of .u32 0) (.no))), none⟩])
 (.seq (.region [⟨(some 5), .move (.v 0), none⟩,
  ⟨(some 6), .move (.v 1), none⟩,
  ⟨(some 7), .call 47 [(.t 6)], none⟩,
  ⟨(some 8), .bin .quo (.t 5) (.t 7), none⟩,
  ⟨(some 9), .bin .rem (.t 8) (.c (.val (.int .u32) (W.of .u32 2) (.no))), none⟩,
  ⟨(some 4), .move (.t 9), none⟩])
 (.ret))
def g_ref01_bit : AFn tab := { np := 2, keep := [0, 1, 4], lent := [], body := b_ref01_bit, res := [(.tmp 4, true)] }
def x_ref01_bit : FnX := { keep := [0, 1, 4], lent := [], res := [true], marks := [] }
def c_ref01_Zext_9 : ACode tab :=
 .seq (.seq (.region [⟨(some 9), .move (.v 6), none⟩,
  ⟨(some 10), .move (.v 1), none⟩,
  ⟨(some 11), .bin .lss (.t 9) (.t 10), none⟩])
 (.cond (.v 11) (.skip)
 (.exit 0)))
 (.seq (.block 1 (.region [⟨(some 14), .move (.v 5), none⟩,
  ⟨(some 15), .move (.v 0), none⟩,
  ⟨(some 16), .move (.v 6), none⟩,
  ⟨(some 17), .call 46 [(.t 15), (.t 16)], none⟩,
  ⟨(some 18), .move (.v 6), none⟩,
  ⟨(some 19), .call 47 [(.t 18)], none⟩,
  ⟨(some 20), .bin .mul (.t 17) (.t 19), none⟩,
  ⟨(some 21), .bin .add (.t 14) (.t 20), none⟩,
  ⟨(some 5), .move (.t 21), none⟩]))
 (.region [⟨(some 12), .move (.v 6), none⟩,
  ⟨(some 13), .bin .add (.t 12) (.c (.val (.int .i64) (W.of .i64 1) (.no))), none⟩,
  ⟨(some 6), .move (.t 13), none⟩]))
def m_ref01_Zext_9 : ACode tab := .trim [(5, .any)] (.loop (.mark 11 [(0, .any), (1, .any), (5, .any), (6, .any)] c_ref01_Zext_9))
def b_ref01_Zext : ACode tab :=
 .seq (.region [⟨(some 4), .move (.c (.val (.int .u32) (W.of .u32 0) (.no))), none⟩])
 (.seq (.region [⟨(some 7), .move (.v 1), none⟩,
  ⟨(some 8), .call 45 [(.t 7), (.c (.val (.int .i64) (W.of .i64 0) (.no))), (.c (.val (.int .i64) (W.of .i64 32) (.no)))], none⟩,
  ⟨(some 1), .move (.t 8), none⟩])
 (.seq (.region [⟨(some 5), .move (.c (.val (.int .u32) (W.of .u32 0) (.no))), none⟩])
 (.seq (.seq (.region [⟨(some 6), .move (.c (.val (.int .i64) (W.of .i64 0) (.no))), none⟩])
 (.block 0 (.mark 9 [(0, .any), (1, .any), (5, .any), (6, .any)] m_ref01_Zext_9)))
 (.seq (.region [⟨(some 22), .move (.v 5), none⟩,
  ⟨(some 4), .move (.t 22), none⟩])
 (.ret)))))
def g_ref01_Zext : AFn tab := { np := 2, keep := [0, 1, 4, 5, 6, 11], lent := [], body := b_ref01_Zext, res := [(.tmp 4, true)] }
def x_ref01_Zext : FnX := { keep := [0, 1, 4, 5, 6, 11], lent := [], res := [true], marks := [(9, [(0, .any), (1, .any), (5, .any), (6, .any)]), (10, [(5, .any)]), (11, [(0, .any), (1, .any), (5, .any), (6, .any)])] }
def b_ref32_Data : ACode tab :=
 .seq (.region [⟨(some 2), .box (.named .TUop) (.v 0), none⟩,
  ⟨(some 3), .box (.arr 3 (.int .u32)) (.v 1), none⟩,
  ⟨(some 4), .move (.c (.val (.int .u32) (W.of .u32 0) (.no))), none⟩])
 (.seq (.region [⟨(some 6), .fld .TUop 0 (.v 2), none⟩,
  ⟨(some 7), .fld .TInst 0 (.t 6), none⟩,
  ⟨(some 8), .load (.int .i64) (.t 7), none⟩,
  ⟨(some 5), .move (.t 8), none⟩])
 (.seq (.seq (.region [⟨(some 9), .move (.v 5), none⟩,
  ⟨(some 10), .bin .lss (.t 9) (.c (.val (.int .i64) (W.of .i64 40) (.no))), none⟩,
  ⟨(some 11), .move (.t 10), none⟩,
  ⟨(some 12), .move (.v 5), (some (11, false))⟩,
  ⟨(some 13), .bin .gtr (.t 12) (.c (.val (.int .i64) (W.of .i64 42) (.no))), (some (11, false))⟩,
  ⟨(some 14), .pick (.t 11) (.c (.val (.bool) true (.no))) (.t 13), none⟩])
 (.cond (.v 14) (.seq (.region [⟨(some 4), .move (.c (.val (.int .u32) (W.of .u32 0) (.no))), none⟩])
 (.ret))
 (.skip)))
 (.seq (.draw [⟨(some 15), .idxA 3 (.int .u32) (.v 3) (.c (.val (.int .i64) (W.of .i64 1) (.no))), none⟩,
  ⟨(some 16), .load (.int .u32) (.t 15), none⟩,
  ⟨(some 17), .move (.v 5), none⟩,
  ⟨(some 18), .call 29 [(.t 17)], none⟩,
  ⟨(some 19), .bin .mul (.c (.val (.int .i64) (W.of .i64 8) (.no))) (.t 18), none⟩,
  ⟨(some 20), .call 31 [(.t 16), (.t 19)], none⟩,
  ⟨(some 4), .move (.t 20), none⟩] [0, 1, 0, 4, 12, 31, 63])
 (.ret))))
def g_ref32_Data : AFn tab := { np := 2, keep := [0, 1, 2, 3, 4, 5, 14], lent := [], body := b_ref32_Data, res := [(.tmp 4, true)] }
def x_ref32_Data : FnX := { keep := [0, 1, 2, 3, 4, 5, 14], lent := [], res := [true], marks := [] }
def c_ref01_Sext_15 : ACode tab :=
 .seq (.seq (.region [⟨(some 23), .move (.v 6), none⟩,
  ⟨(some 24), .bin .lss (.t 23) (.c (.val (.int .i64) (W.of .i64 32) (.no))), none⟩])
 (.cond (.v 24) (.skip)
 (.exit 0)))
 (.seq (.block 1 (.region [⟨(some 27), .move (.v 5), none⟩,
  ⟨(some 28), .move (.v 6), none⟩,
  ⟨(some 29), .call 47 [(.t 28)], none⟩,
  ⟨(some 30), .bin .add (.t 27) (.t 29), none⟩,
  ⟨(some 5), .move (.t 30), none⟩]))
 (.region [⟨(some 25), .move (.v 6), none⟩,
  ⟨(some 26), .bin .add (.t 25) (.c (.val (.int .i64) (W.of .i64 1) (.no))), none⟩,
  ⟨(some 6), .move (.t 26), none⟩]))
def m_ref01_Sext_15 : ACode tab := .trim [(5, .any)] (.loop (.mark 17 [(5, .any), (6, .any)] c_ref01_Sext_15))
def b_ref01_Sext : ACode tab :=
 .seq (.region [⟨(some 4), .move (.c (.val (.int .u32) (W.of .u32 0) (.no))), none⟩])
 (.seq (.region [⟨(some 7), .move (.v 1), none⟩,
  ⟨(some 8), .call 45 [(.t 7), (.c (.val (.int .i64) (W.of .i64 0) (.no))), (.c (.val (.int .i64) (W.of .i64 32) (.no)))], none⟩,
  ⟨(some 1), .move (.t 8), none⟩])
 (.seq (.region [⟨(some 9), .move (.v 0), none⟩,
  ⟨(some 10), .move (.v 1), none⟩,
  ⟨(some 11), .call 31 [(.t 9), (.t 10)], none⟩,
  ⟨(some 5), .move (.t 11), none⟩])
 (.seq (.seq (.region [⟨(some 12), .move (.v 1), none⟩,
  ⟨(some 13), .bin .eql (.t 12) (.c (.val (.int .i64) (W.of .i64 0) (.no))), none⟩,
  ⟨(some 14), .move (.t 13), none⟩,
  ⟨(some 15), .move (.v 0), (some (14, false))⟩,
  ⟨(some 16), .move (.v 1), (some (14, false))⟩,
  ⟨(some 17), .bin .sub (.t 16) (.c (.val (.int .i64) (W.of .i64 1) (.no))), (some (14, false))⟩,
  ⟨(some 18), .call 46 [(.t 15), (.t 17)], (some (14, false))⟩,
  ⟨(some 19), .bin .eql (.t 18) (.c (.val (.int .u32) (W.of .u32 0) (.no))), (some (14, false))⟩,
  ⟨(some 20), .pick (.t 14) (.c (.val (.bool) true (.no))) (.t 19), none⟩])
 (.cond (.v 20) (.seq (.region [⟨(some 21), .move (.v 5), none⟩,
  ⟨(some 4), .move (.t 21), none⟩])
 (.ret))
 (.skip)))
 (.seq (.seq (.region [⟨(some 22), .move (.v 1), none⟩,
  ⟨(some 6), .move (.t 22), none⟩])
 (.block 0 (.mark 15 [(5, .any), (6, .any)] m_ref01_Sext_15)))
 (.seq (.region [⟨(some 31), .move (.v 5), none⟩,
  ⟨(some 4), .move (.t 31), none⟩])
 (.ret))))))
def g_ref01_Sext : AFn tab := { np := 2, keep := [0, 1, 4, 5, 6, 20, 24], lent := [], body := b_ref01_Sext, res := [(.tmp 4, true)] }
def x_ref01_Sext : FnX := { keep := [0, 1, 4, 5, 6, 20, 24], lent := [], res := [true], marks := [(15, [(5, .any), (6, .any)]), (16, [(5, .any)]), (17, [(5, .any), (6, .any)])] }
def b_ref32_Ext : ACode tab :=
 .seq (.region [⟨(some 4), .move (.c (.val (.int .u32) (W.of .u32 0) (.no))), none⟩])
 (.seq (.seq (.region [⟨(some 5), .move (.v 0), none⟩])
 (.block 0 (.seq (.region [⟨(some 7), .bin .eql (.v 5) (.c (.val (.int .i64) (W.of .i64 34) (.no))), none⟩,
  ⟨(some 6), .move (.t 7), none⟩])
 (.cond (.v 6) (.seq (.region [⟨(some 8), .move (.v 1), none⟩,
  ⟨(some 9), .call 33 [(.t 8), (.c (.val (.int .i64) (W.of .i64 8) (.no)))], none⟩,
  ⟨(some 4), .move (.t 9), none⟩])
 (.ret))
 (.seq (.region [⟨(some 11), .bin .eql (.v 5) (.c (.val (.int .i64) (W.of .i64 35) (.no))), none⟩,
  ⟨(some 10), .move (.t 11), none⟩])
 (.cond (.v 10) (.seq (.region [⟨(some 12), .move (.v 1), none⟩,
  ⟨(some 13), .call 31 [(.t 12), (.c (.val (.int .i64) (W.of .i64 8) (.no)))], none⟩,
  ⟨(some 4), .move (.t 13), none⟩])
 (.ret))
 (.seq (.region [⟨(some 15), .bin .eql (.v 5) (.c (.val (.int .i64) (W.of .i64 36) (.no))), none⟩,
  ⟨(some 14), .move (.t 15), none⟩])
 (.cond (.v 14) (.seq (.region [⟨(some 16), .move (.v 1), none⟩,
  ⟨(some 17), .call 33 [(.t 16), (.c (.val (.int .i64) (W.of .i64 16) (.no)))], none⟩,
  ⟨(some 4), .move (.t 17), none⟩])
 (.ret))
 (.seq (.region [⟨(some 19), .bin .eql (.v 5) (.c (.val (.int .i64) (W.of .i64 37) (.no))), none⟩,
  ⟨(some 18), .move (.t 19), none⟩])
 (.cond (.v 18) (.seq (.region [⟨(some 20), .move (.v 1), none⟩,
  ⟨(some 21), .call 31 [(.t 20), (.c (.val (.int .i64) (W.of .i64 16) (.no)))], none⟩,
  ⟨(some 4), .move (.t 21), none⟩])
 (.ret))
 (.skip)))))))))))
 (.seq (.region [⟨(some 22), .move (.v 1), none⟩,
  ⟨(some 4), .move (.t 22), none⟩])
 (.ret)))
def g_ref32_Ext : AFn tab := { np := 2, keep := [0, 1, 4, 5, 6, 10, 14, 18], lent := [], body := b_ref32_Ext, res := [(.tmp 4, true)] }
def x_ref32_Ext : FnX := { keep := [0, 1, 4, 5, 6, 10, 14, 18], lent := [], res := [true], marks := [] }
def b_law32_ExecMoves : ACode tab :=
 .seq (.region [⟨(some 3), .box (.named .TUop) (.v 0), none⟩,
  ⟨(some 4), .box (.arr 3 (.int .u32)) (.v 1), none⟩,
  ⟨(some 6), .move (.c (.val (.bool) false (.no))), none⟩])
 (.seq (.region [⟨(some 12), .load (.named .TUop) (.v 3), none⟩,
  ⟨(some 13), .load (.arr 3 (.int .u32)) (.v 4), none⟩,
  ⟨(some 14), .call 13 [(.t 12), (.t 13)], none⟩,
  ⟨(some 11), .move (.t 14), none⟩,
  ⟨(some 15), .extract (.t 11) 0, none⟩,
  ⟨(some 16), .extract (.t 11) 1, none⟩,
  ⟨(some 7), .move (.t 15), none⟩,
  ⟨(some 8), .move (.t 16), none⟩])
 (.seq (.region [⟨(some 18), .load (.named .TUop) (.v 3), none⟩,
  ⟨(some 19), .load (.arr 3 (.int .u32)) (.v 4), none⟩,
  ⟨(some 20), .call 14 [(.t 18), (.t 19)], none⟩,
  ⟨(some 17), .move (.t 20), none⟩,
  ⟨(some 21), .extract (.t 17) 0, none⟩,
  ⟨(some 22), .extract (.t 17) 1, none⟩,
  ⟨(some 9), .move (.t 21), none⟩,
  ⟨(some 10), .move (.t 22), none⟩])
 (.seq (.draw [⟨(some 23), .move (.v 7), none⟩,
  ⟨(some 24), .move (.v 9), none⟩,
  ⟨(some 25), .bin .eql (.t 23) (.t 24), none⟩,
  ⟨(some 26), .move (.t 25), none⟩,
  ⟨(some 27), .move (.v 8), (some (26, true))⟩,
  ⟨(some 28), .move (.v 10), (some (26, true))⟩,
  ⟨(some 29), .bin .eql (.t 27) (.t 28), (some (26, true))⟩,
  ⟨(some 30), .pick (.t 26) (.t 29) (.c (.val (.bool) false (.no))), none⟩,
  ⟨(some 31), .move (.t 30), none⟩,
  ⟨(some 32), .load (.named .TUop) (.v 3), (some (31, true))⟩,
  ⟨(some 33), .load (.arr 3 (.int .u32)) (.v 4), (some (31, true))⟩,
  ⟨(some 34), .call 15 [(.t 32), (.t 33)], (some (31, true))⟩,
  ⟨(some 35), .load (.named .TUop) (.v 3), (some (31, true))⟩,
  ⟨(some 36), .load (.arr 3 (.int .u32)) (.v 4), (some (31, true))⟩,
  ⟨(some 37), .call 16 [(.t 35), (.t 36)], (some (31, true))⟩,
  ⟨(some 38), .bin .eql (.t 34) (.t 37), (some (31, true))⟩,
  ⟨(some 39), .pick (.t 31) (.t 38) (.c (.val (.bool) false (.no))), none⟩,
  ⟨(some 40), .move (.t 39), none⟩,
  ⟨(some 41), .fld .TUop 0 (.v 3), (some (40, true))⟩,
  ⟨(some 42), .fld .TInst 0 (.t 41), (some (40, true))⟩,
  ⟨(some 43), .load (.int .i64) (.t 42), (some (40, true))⟩,
  ⟨(some 44), .move (.v 2), (some (40, true))⟩,
  ⟨(some 45), .call 17 [(.t 43), (.t 44)], (some (40, true))⟩,
  ⟨(some 46), .fld .TUop 0 (.v 3), (some (40, true))⟩,
  ⟨(some 47), .fld .TInst 0 (.t 46), (some (40, true))⟩,
  ⟨(some 48), .load (.int .i64) (.t 47), (some (40, true))⟩,
  ⟨(some 49), .move (.v 2), (some (40, true))⟩,
  ⟨(some 50), .call 18 [(.t 48), (.t 49)], (some (40, true))⟩,
  ⟨(some 51), .bin .eql (.t 45) (.t 50), (some (40, true))⟩,
  ⟨(some 52), .pick (.t 40) (.t 51) (.c (.val (.bool) false (.no))), none⟩,
  ⟨(some 53), .move (.t 52), none⟩,
  ⟨(some 54), .call 11 [], (some (53, true))⟩,
  ⟨(some 55), .pick (.t 53) (.t 54) (.c (.val (.bool) false (.no))), none⟩,
  ⟨(some 6), .move (.t 55), none⟩] [0, 0, 3, 7, 15, 15, 63, 127, 255, 511, 511, 2047, 511, 511, 16383, 32767, 65535, 131071, 262143, 524287, 1048575, 262143, 4194303, 262143, 8650751, 25427967, 262143, 134217727, 268435455, 536870911, 1073741823, 2147483647, 4294967295, 8589934591])
 (.ret))))
def g_law32_ExecMoves : AFn tab := { np := 3, keep := [0, 1, 2, 3, 4, 6, 7, 8, 9, 10], lent := [], body := b_law32_ExecMoves, res := [(.tmp 6, true)] }
def x_law32_ExecMoves : FnX := { keep := [0, 1, 2, 3, 4, 6, 7, 8, 9, 10], lent := [], res := [true], marks := [] }
def b_crack_Serial : ACode tab :=
 .seq (.region [⟨(some 2), .move (.c (.val (.bool) false (.no))), none⟩])
 (.seq (.region [⟨(some 3), .move (.v 0), none⟩,
  ⟨(some 4), .bin .geq (.t 3) (.c (.val (.int .i64) (W.of .i64 51) (.no))), none⟩,
  ⟨(some 5), .move (.t 4), none⟩,
  ⟨(some 6), .move (.v 0), (some (5, true))⟩,
  ⟨(some 7), .bin .leq (.t 6) (.c (.val (.int .i64) (W.of .i64 62) (.no))), (some (5, true))⟩,
  ⟨(some 8), .pick (.t 5) (.t 7) (.c (.val (.bool) false (.no))), none⟩,
  ⟨(some 2), .move (.t 8), none⟩])
 (.ret))
def g_crack_Serial : AFn tab := { np := 1, keep := [0, 2], lent := [], body := b_crack_Serial, res := [(.tmp 2, true)] }
def x_crack_Serial : FnX := { keep := [0, 2], lent := [], res := [true], marks := [] }
def b_crack_Unit : ACode tab :=
 .seq (.region [⟨(some 2), .move (.c (.val (.int .i64) (W.of .i64 0) (.no))), none⟩])
 (.seq (.block 0 (.seq (.region [⟨(some 4), .move (.v 0), none⟩,
  ⟨(some 5), .bin .lss (.t 4) (.c (.val (.int .i64) (W.of .i64 1) (.no))), none⟩,
  ⟨(some 6), .move (.t 5), none⟩,
  ⟨(some 7), .move (.v 0), (some (6, false))⟩,
  ⟨(some 8), .bin .gtr (.t 7) (.c (.val (.int .i64) (W.of .i64 63) (.no))), (some (6, false))⟩,
  ⟨(some 9), .pick (.t 6) (.c (.val (.bool) true (.no))) (.t 8), none⟩,
  ⟨(some 3), .move (.t 9), none⟩])
 (.cond (.v 3) (.seq (.region [⟨(some 2), .move (.c (.val (.int .i64) (W.of .i64 0) (.no))), none⟩])
 (.ret))
 (.seq (.region [⟨(some 11), .move (.v 0), none⟩,
  ⟨(some 12), .bin .geq (.t 11) (.c (.val (.int .i64) (W.of .i64 11) (.no))), none⟩,
  ⟨(some 13), .move (.t 12), none⟩,
  ⟨(some 14), .move (.v 0), (some (13, true))⟩,
  ⟨(some 15), .bin .leq (.t 14) (.c (.val (.int .i64) (W.of .i64 13) (.no))), (some (13, true))⟩,
  ⟨(some 16), .pick (.t 13) (.t 15) (.c (.val (.bool) false (.no))), none⟩,
  ⟨(some 10), .move (.t 16), none⟩])
 (.cond (.v 10) (.seq (.region [⟨(some 2), .move (.c (.val (.int .i64) (W.of .i64 2) (.no))), none⟩])
 (.ret))
 (.seq (.region [⟨(some 18), .move (.v 0), none⟩,
  ⟨(some 19), .bin .geq (.t 18) (.c (.val (.int .i64) (W.of .i64 14) (.no))), none⟩,
  ⟨(some 20), .move (.t 19), none⟩,
  ⟨(some 21), .move (.v 0), (some (20, true))⟩,
  ⟨(some 22), .bin .leq (.t 21) (.c (.val (.int .i64) (W.of .i64 17) (.no))), (some (20, true))⟩,
  ⟨(some 23), .pick (.t 20) (.t 22) (.c (.val (.bool) false (.no))), none⟩,
  ⟨(some 17), .move (.t 23), none⟩])
 (.cond (.v 17) (.seq (.region [⟨(some 2), .move (.c (.val (.int .i64) (W.of .i64 3) (.no))), none⟩])
 (.ret))
 (.seq (.region [⟨(some 25), .move (.v 0), none⟩,
  ⟨(some 26), .bin .geq (.t 25) (.c (.val (.int .i64) (W.of .i64 34) (.no))), none⟩,
  ⟨(some 27), .move (.t 26), none⟩,
  ⟨(some 28), .move (.v 0), (some (27, true))⟩,
  ⟨(some 29), .bin .leq (.t 28) (.c (.val (.int .i64) (W.of .i64 39) (.no))), (some (27, true))⟩,
  ⟨(some 30), .pick (.t 27) (.t 29) (.c (.val (.bool) false (.no))), none⟩,
  ⟨(some 24), .move (.t 30), none⟩])
 (.cond (.v 24) (.seq (.region [⟨(some 2), .move (.c (.val (.int .i64) (W.of .i64 5) (.no))), none⟩])
 (.ret))
 (.seq (.region [⟨(some 32), .move (.v 0), none⟩,
  ⟨(some 33), .bin .geq (.t 32) (.c (.val (.int .i64) (W.of .i64 40) (.no))), none⟩,
  ⟨(some 34), .move (.t 33), none⟩,
  ⟨(some 35), .move (.v 0), (some (34, true))⟩,
  ⟨(some 36), .bin .leq (.t 35) (.c (.val (.int .i64) (W.of .i64 42) (.no))), (some (34, true))⟩,
  ⟨(some 37), .pick (.t 34) (.t 36) (.c (.val (.bool) false (.no))), none⟩,
  ⟨(some 31), .move (.t 37), none⟩])
 (.cond (.v 31) (.seq (.region [⟨(some 2), .move (.c (.val (.int .i64) (W.of .i64 6) (.no))), none⟩])
 (.ret))
 (.seq (.region [⟨(some 39), .move (.v 0), none⟩,
  ⟨(some 40), .bin .geq (.t 39) (.c (.val (.int .i64) (W.of .i64 43) (.no))), none⟩,
  ⟨(some 41), .move (.t 40), none⟩,
  ⟨(some 42), .move (.v 0), (some (41, true))⟩,
  ⟨(some 43), .bin .leq (.t 42) (.c (.val (.int .i64) (W.of .i64 50) (.no))), (some (41, true))⟩,
  ⟨(some 44), .pick (.t 41) (.t 43) (.c (.val (.bool) false (.no))), none⟩,
  ⟨(some 38), .move (.t 44), none⟩])
 (.cond (.v 38) (.seq (.region [⟨(some 2), .move (.c (.val (.int .i64) (W.of .i64 4) (.no))), none⟩])
 (.ret))
 (.seq (.region [⟨(some 46), .move (.v 0), none⟩,
  ⟨(some 47), .call 34 [(.t 46)], none⟩,
  ⟨(some 45), .move (.t 47), none⟩])
 (.cond (.v 45) (.seq (.region [⟨(some 2), .move (.c (.val (.int .i64) (W.of .i64 7) (.no))), none⟩])
 (.ret))
 (.skip))))))))))))))))
 (.seq (.region [⟨(some 2), .move (.c (.val (.int .i64) (W.of .i64 1) (.no))), none⟩])
 (.ret)))
def g_crack_Unit : AFn tab := { np := 1, keep := [0, 2, 3, 10, 17, 24, 31, 38, 45], lent := [], body := b_crack_Unit, res := [(.tmp 2, true)] }
def x_crack_Unit : FnX := { keep := [0, 2, 3, 10, 17, 24, 31, 38, 45], lent := [], res := [true], marks := [] }
def b_law32_ExecLoads : ACode tab :=
 .seq (.region [⟨(some 6), .move (.c (.val (.bool) false (.no))), none⟩])
 (.seq (.region [⟨(some 11), .move (.v 0), none⟩,
  ⟨(some 12), .call 19 [(.t 11)], none⟩,
  ⟨(some 7), .move (.t 12), none⟩])
 (.seq (.seq (.region [⟨(some 13), .move (.v 0), none⟩,
  ⟨(some 14), .call 20 [(.t 13)], none⟩,
  ⟨(some 15), .bin .neq (.t 14) (.c (.val (.int .i64) (W.of .i64 5) (.no))), none⟩,
  ⟨(some 16), .move (.t 15), none⟩,
  ⟨(some 17), .move (.v 7), (some (16, false))⟩,
  ⟨(some 18), .bin .lss (.t 17) (.c (.val (.int .i64) (W.of .i64 1) (.no))), (some (16, false))⟩,
  ⟨(some 19), .pick (.t 16) (.c (.val (.bool) true (.no))) (.t 18), none⟩,
  ⟨(some 20), .move (.t 19), none⟩,
  ⟨(some 21), .move (.v 7), (some (20, false))⟩,
  ⟨(some 22), .bin .gtr (.t 21) (.c (.val (.int .i64) (W.of .i64 4) (.no))), (some (20, false))⟩,
  ⟨(some 23), .pick (.t 20) (.c (.val (.bool) true (.no))) (.t 22), none⟩])
 (.cond (.v 23) (.seq (.region [⟨(some 24), .call 11 [], none⟩,
  ⟨(some 6), .move (.t 24), none⟩])
 (.ret))
 (.skip)))
 (.seq (.region [⟨(some 25), .move (.v 7), none⟩,
  ⟨(some 26), .conv .u64 (.t 25), none⟩,
  ⟨(some 27), .bin .mul (.c (.val (.int .u64) (W.of .u64 8) (.no))) (.t 26), none⟩,
  ⟨(some 28), .bin .shl (.c (.val (.int .u32) (W.of .u32 1) (.no))) (.t 27), none⟩,
  ⟨(some 29), .bin .sub (.t 28) (.c (.val (.int .u32) (W.of .u32 1) (.no))), none⟩,
  ⟨(some 8), .move (.t 29), none⟩])
 (.seq (.seq (.region [⟨(some 30), .move (.v 0), none⟩,
  ⟨(some 31), .move (.v 1), none⟩,
  ⟨(some 32), .call 17 [(.t 30), (.t 31)], none⟩,
  ⟨(some 33), .move (.v 0), none⟩,
  ⟨(some 34), .move (.v 1), none⟩,
  ⟨(some 35), .move (.v 8), none⟩,
  ⟨(some 36), .bin .and (.t 34) (.t 35), none⟩,
  ⟨(some 37), .move (.v 2), none⟩,
  ⟨(some 38), .move (.v 8), none⟩,
  ⟨(some 39), .bin .andNot (.t 37) (.t 38), none⟩,
  ⟨(some 40), .bin .or (.t 36) (.t 39), none⟩,
  ⟨(some 41), .call 17 [(.t 33), (.t 40)], none⟩,
  ⟨(some 42), .bin .neq (.t 32) (.t 41), none⟩,
  ⟨(some 43), .move (.t 42), none⟩,
  ⟨(some 44), .move (.v 7), (some (43, true))⟩,
  ⟨(some 45), .bin .lss (.t 44) (.c (.val (.int .i64) (W.of .i64 4) (.no))), (some (43, true))⟩,
  ⟨(some 46), .pick (.t 43) (.t 45) (.c (.val (.bool) false (.no))), none⟩,
  ⟨(some 47), .move (.t 46), none⟩,
  ⟨(some 48), .move (.v 0), (some (47, false))⟩,
  ⟨(some 49), .move (.v 1), (some (47, false))⟩,
  ⟨(some 50), .call 17 [(.t 48), (.t 49)], (some (47, false))⟩,
  ⟨(some 51), .move (.v 8), (some (47, false))⟩,
  ⟨(some 52), .bin .and (.t 50) (.t 51), (some (47, false))⟩,
  ⟨(some 53), .move (.v 1), (some (47, false))⟩,
  ⟨(some 54), .move (.v 8), (some (47, false))⟩,
  ⟨(some 55), .bin .and (.t 53) (.t 54), (some (47, false))⟩,
  ⟨(some 56), .bin .neq (.t 52) (.t 55), (some (47, false))⟩,
  ⟨(some 57), .pick (.t 47) (.c (.val (.bool) true (.no))) (.t 56), none⟩])
 (.cond (.v 57) (.seq (.region [⟨(some 6), .move (.c (.val (.bool) false (.no))), none⟩])
 (.ret))
 (.skip)))
 (.seq (.region [⟨(some 58), .move (.v 0), none⟩,
  ⟨(some 59), .move (.v 1), none⟩,
  ⟨(some 60), .call 17 [(.t 58), (.t 59)], none⟩,
  ⟨(some 61), .move (.v 8), none⟩,
  ⟨(some 62), .bin .andNot (.t 60) (.t 61), none⟩,
  ⟨(some 9), .move (.t 62), none⟩])
 (.seq (.region [⟨(some 63), .move (.v 0), none⟩,
  ⟨(some 64), .bin .eql (.t 63) (.c (.val (.int .i64) (W.of .i64 34) (.no))), none⟩,
  ⟨(some 65), .move (.t 64), none⟩,
  ⟨(some 66), .move (.v 0), (some (65, false))⟩,
  ⟨(some 67), .bin .eql (.t 66) (.c (.val (.int .i64) (W.of .i64 36) (.no))), (some (65, false))⟩,
  ⟨(some 68), .pick (.t 65) (.c (.val (.bool) true (.no))) (.t 67), none⟩,
  ⟨(some 10), .move (.t 68), none⟩])
 (.seq (.seq (.region [⟨(some 69), .move (.v 7), none⟩,
  ⟨(some 70), .bin .lss (.t 69) (.c (.val (.int .i64) (W.of .i64 4) (.no))), none⟩,
  ⟨(some 71), .move (.t 70), none⟩,
  ⟨(some 72), .move (.v 9), (some (71, true))⟩,
  ⟨(some 73), .bin .neq (.t 72) (.c (.val (.int .u32) (W.of .u32 0) (.no))), (some (71, true))⟩,
  ⟨(some 74), .pick (.t 71) (.t 73) (.c (.val (.bool) false (.no))), none⟩,
  ⟨(some 75), .move (.t 74), none⟩,
  ⟨(some 76), .move (.v 10), (some (75, true))⟩,
  ⟨(some 77), .un .not (.t 76), (some (75, true))⟩,
  ⟨(some 78), .move (.t 77), (some (75, true))⟩,
  ⟨(some 79), .move (.v 9), (some (78, false))⟩,
  ⟨(some 80), .move (.v 8), (some (78, false))⟩,
  ⟨(some 81), .un .xor (.t 80), (some (78, false))⟩,
  ⟨(some 82), .bin .neq (.t 79) (.t 81), (some (78, false))⟩,
  ⟨(some 83), .pick (.t 78) (.c (.val (.bool) true (.no))) (.t 82), (some (75, true))⟩,
  ⟨(some 84), .move (.t 83), (some (75, true))⟩,
  ⟨(some 85), .move (.v 1), (some (84, false))⟩,
  ⟨(some 86), .move (.v 7), (some (84, false))⟩,
  ⟨(some 87), .conv .u64 (.t 86), (some (84, false))⟩,
  ⟨(some 88), .bin .mul (.c (.val (.int .u64) (W.of .u64 8) (.no))) (.t 87), (some (84, false))⟩,
  ⟨(some 89), .bin .sub (.t 88) (.c (.val (.int .u64) (W.of .u64 1) (.no))), (some (84, false))⟩,
  ⟨(some 90), .bin .shr (.t 85) (.t 89), (some (84, false))⟩,
  ⟨(some 91), .bin .and (.t 90) (.c (.val (.int .u32) (W.of .u32 1) (.no))), (some (84, false))⟩,
  ⟨(some 92), .bin .neq (.t 91) (.c (.val (.int .u32) (W.of .u32 1) (.no))), (some (84, false))⟩,
  ⟨(some 93), .pick (.t 84) (.c (.val (.bool) true (.no))) (.t 92), (some (75, true))⟩,
  ⟨(some 94), .pick (.t 75) (.t 93) (.c (.val (.bool) false (.no))), none⟩])
 (.cond (.v 94) (.seq (.region [⟨(some 6), .move (.c (.val (.bool) false (.no))), none⟩])
 (.ret))
 (.skip)))
 (.seq (.region [⟨(some 95), .call 11 [], none⟩,
  ⟨(some 6), .move (.t 95), none⟩])
 (.ret)))))))))
def g_law32_ExecLoads : AFn tab := { np := 3, keep := [0, 1, 2, 6, 7, 8, 9, 10, 23, 57, 94], lent := [], body := b_law32_ExecLoads, res := [(.tmp 6, true)] }
def x_law32_ExecLoads : FnX := { keep := [0, 1, 2, 6, 7, 8, 9, 10, 23, 57, 94], lent := [], res := [true], marks := [] }
end Go.Proofs.Ytcinobbeapgklaa
