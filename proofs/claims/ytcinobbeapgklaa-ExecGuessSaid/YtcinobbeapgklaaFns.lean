/- YtcinobbeapgklaaFns: the functions that the statements reach, for the abstract machine. No statement of the seat is proved here. -/
import Derived.Test.YtcinobbeapgklaaAmCore
namespace Go.Proofs.Ytcinobbeapgklaa
open Go Go.AM
/-- cotterel/cotterellaw32.ExecDoes -/
def c3 : ACode :=
 .seq (.region [3, 4] [
   ⟨some 3, .box (.v 0), none, true⟩,
   ⟨some 4, .box (.v 1), none, true⟩,
   ⟨some 6, .assign (.c (.bool false)), none, true⟩])
  (.seq (.region [] [
    ⟨some 16, .loadN 23 (.v 3), none, true⟩,
    ⟨some 17, .loadN 3 (.v 4), none, true⟩,
    ⟨some 18, .call 7 [.t 16, .t 17], none, true⟩,
    ⟨some 15, .move (.t 18), none, true⟩,
    ⟨some 19, .extract (.t 15) 0, none, true⟩,
    ⟨some 20, .extract (.t 15) 1, none, true⟩,
    ⟨some 21, .extract (.t 15) 2, none, true⟩,
    ⟨some 22, .extract (.t 15) 3, none, true⟩,
    ⟨some 7, .assign (.t 19), none, true⟩,
    ⟨some 8, .assign (.t 20), none, true⟩,
    ⟨some 9, .assign (.t 21), none, true⟩,
    ⟨some 10, .assign (.t 22), none, true⟩])
   (.seq (.region [] [
     ⟨some 24, .loadN 23 (.v 3), none, true⟩,
     ⟨some 25, .loadN 3 (.v 4), none, true⟩,
     ⟨some 26, .call 8 [.t 24, .t 25], none, true⟩,
     ⟨some 23, .move (.t 26), none, true⟩,
     ⟨some 27, .extract (.t 23) 0, none, true⟩,
     ⟨some 28, .extract (.t 23) 1, none, true⟩,
     ⟨some 29, .extract (.t 23) 2, none, true⟩,
     ⟨some 30, .extract (.t 23) 3, none, true⟩,
     ⟨some 11, .assign (.t 27), none, true⟩,
     ⟨some 12, .assign (.t 28), none, true⟩,
     ⟨some 13, .assign (.t 29), none, true⟩,
     ⟨some 14, .assign (.t 30), none, true⟩])
    (.seq (.draw [] [
      ⟨some 31, .move (.v 7), none, false⟩,
      ⟨some 32, .move (.v 11), none, false⟩,
      ⟨some 33, .bin .eql (.t 31) (.t 32), none, true⟩,
      ⟨some 34, .move (.t 33), none, true⟩,
      ⟨some 35, .move (.v 8), some (34, true), false⟩,
      ⟨some 36, .move (.v 12), some (34, true), false⟩,
      ⟨some 37, .bin .eql (.t 35) (.t 36), some (34, true), true⟩,
      ⟨some 38, .pick (.t 34) (.t 37) (.c (.bool false)), none, true⟩,
      ⟨some 39, .move (.t 38), none, true⟩,
      ⟨some 40, .move (.v 9), some (39, true), false⟩,
      ⟨some 41, .move (.v 13), some (39, true), false⟩,
      ⟨some 42, .bin .eql (.t 40) (.t 41), some (39, true), true⟩,
      ⟨some 43, .pick (.t 39) (.t 42) (.c (.bool false)), none, true⟩,
      ⟨some 44, .move (.t 43), none, true⟩,
      ⟨some 45, .move (.v 10), some (44, true), false⟩,
      ⟨some 46, .move (.v 14), some (44, true), false⟩,
      ⟨some 47, .bin .eql (.t 45) (.t 46), some (44, true), true⟩,
      ⟨some 48, .pick (.t 44) (.t 47) (.c (.bool false)), none, true⟩,
      ⟨some 49, .move (.t 48), none, true⟩,
      ⟨some 50, .loadN 23 (.v 3), some (49, true), false⟩,
      ⟨some 51, .move (.v 2), some (49, true), false⟩,
      ⟨some 52, .call 9 [.t 50, .t 51], some (49, true), false⟩,
      ⟨some 53, .loadN 23 (.v 3), some (49, true), false⟩,
      ⟨some 54, .move (.v 2), some (49, true), false⟩,
      ⟨some 55, .call 10 [.t 53, .t 54], some (49, true), true⟩,
      ⟨some 56, .eqB false (.t 52) (.t 55), some (49, true), true⟩,
      ⟨some 57, .pick (.t 49) (.t 56) (.c (.bool false)), none, true⟩,
      ⟨some 58, .move (.t 57), none, true⟩,
      ⟨some 59, .loadN 23 (.v 3), some (58, true), false⟩,
      ⟨some 60, .move (.v 8), some (58, true), false⟩,
      ⟨some 61, .call 9 [.t 59, .t 60], some (58, true), false⟩,
      ⟨some 62, .loadN 23 (.v 3), some (58, true), false⟩,
      ⟨some 63, .move (.v 12), some (58, true), false⟩,
      ⟨some 64, .call 10 [.t 62, .t 63], some (58, true), true⟩,
      ⟨some 65, .eqB false (.t 61) (.t 64), some (58, true), true⟩,
      ⟨some 66, .pick (.t 58) (.t 65) (.c (.bool false)), none, true⟩,
      ⟨some 67, .move (.t 66), none, true⟩,
      ⟨some 68, .call 11 [], some (67, true), true⟩,
      ⟨some 69, .pick (.t 67) (.t 68) (.c (.bool false)), none, true⟩,
      ⟨some 6, .assign (.t 69), none, true⟩])
     (.ret))))
def g3 : AFn := { np := 3, keep := [0, 1, 2, 3, 4, 6, 7, 8, 9, 10, 11, 12, 13, 14], res := [.tmp 6], fresh := true, body := c3 }
/-- cotterel/cotterellaw32.ExecGuess -/
def c4 : ACode :=
 .seq (.region [2] [
   ⟨some 2, .box (.v 0), none, true⟩,
   ⟨some 4, .assign (.c (.bool false)), none, true⟩])
  (.seq (.region [] [
    ⟨some 6, .addOff (.v 2) 5, none, true⟩,
    ⟨some 7, .loadN 9 (.t 6), none, true⟩,
    ⟨some 8, .call 12 [.t 7], none, true⟩,
    ⟨some 5, .assign (.t 8), none, true⟩])
   (.seq (.region [] [
     ⟨some 9, .loadN 23 (.v 2), none, true⟩,
     ⟨some 10, .move (.v 1), none, true⟩,
     ⟨some 11, .call 9 [.t 9, .t 10], none, true⟩,
     ⟨some 12, .move (.v 1), none, true⟩,
     ⟨some 13, .move (.v 5), none, true⟩,
     ⟨some 14, .bin .neq (.t 12) (.t 13), none, true⟩,
     ⟨some 15, .eqB false (.t 11) (.t 14), none, true⟩,
     ⟨some 16, .move (.t 15), none, true⟩,
     ⟨some 17, .loadN 23 (.v 2), some (16, true), true⟩,
     ⟨some 18, .move (.v 5), some (16, true), true⟩,
     ⟨some 19, .call 9 [.t 17, .t 18], some (16, true), true⟩,
     ⟨some 20, .un .not (.t 19), some (16, true), true⟩,
     ⟨some 21, .pick (.t 16) (.t 20) (.c (.bool false)), none, true⟩,
     ⟨some 22, .move (.t 21), none, true⟩,
     ⟨some 23, .call 11 [], some (22, true), true⟩,
     ⟨some 24, .pick (.t 22) (.t 23) (.c (.bool false)), none, true⟩,
     ⟨some 4, .assign (.t 24), none, true⟩])
    (.ret)))
def g4 : AFn := { np := 2, keep := [0, 1, 2, 4, 5], res := [.tmp 4], fresh := true, body := c4 }
/-- cotterel/cotterellaw32.ExecMoves -/
def c5 : ACode :=
 .seq (.region [3, 4] [
   ⟨some 3, .box (.v 0), none, true⟩,
   ⟨some 4, .box (.v 1), none, true⟩,
   ⟨some 6, .assign (.c (.bool false)), none, true⟩])
  (.seq (.region [] [
    ⟨some 12, .loadN 23 (.v 3), none, true⟩,
    ⟨some 13, .loadN 3 (.v 4), none, true⟩,
    ⟨some 14, .call 13 [.t 12, .t 13], none, true⟩,
    ⟨some 11, .move (.t 14), none, true⟩,
    ⟨some 15, .extract (.t 11) 0, none, true⟩,
    ⟨some 16, .extract (.t 11) 1, none, true⟩,
    ⟨some 7, .assign (.t 15), none, true⟩,
    ⟨some 8, .assign (.t 16), none, true⟩])
   (.seq (.region [] [
     ⟨some 18, .loadN 23 (.v 3), none, true⟩,
     ⟨some 19, .loadN 3 (.v 4), none, true⟩,
     ⟨some 20, .call 14 [.t 18, .t 19], none, true⟩,
     ⟨some 17, .move (.t 20), none, true⟩,
     ⟨some 21, .extract (.t 17) 0, none, true⟩,
     ⟨some 22, .extract (.t 17) 1, none, true⟩,
     ⟨some 9, .assign (.t 21), none, true⟩,
     ⟨some 10, .assign (.t 22), none, true⟩])
    (.seq (.draw [] [
      ⟨some 23, .move (.v 7), none, false⟩,
      ⟨some 24, .move (.v 9), none, false⟩,
      ⟨some 25, .bin .eql (.t 23) (.t 24), none, true⟩,
      ⟨some 26, .move (.t 25), none, true⟩,
      ⟨some 27, .move (.v 8), some (26, true), false⟩,
      ⟨some 28, .move (.v 10), some (26, true), false⟩,
      ⟨some 29, .bin .eql (.t 27) (.t 28), some (26, true), true⟩,
      ⟨some 30, .pick (.t 26) (.t 29) (.c (.bool false)), none, true⟩,
      ⟨some 31, .move (.t 30), none, true⟩,
      ⟨some 32, .loadN 23 (.v 3), some (31, true), false⟩,
      ⟨some 33, .loadN 3 (.v 4), some (31, true), false⟩,
      ⟨some 34, .call 15 [.t 32, .t 33], some (31, true), false⟩,
      ⟨some 35, .loadN 23 (.v 3), some (31, true), false⟩,
      ⟨some 36, .loadN 3 (.v 4), some (31, true), false⟩,
      ⟨some 37, .call 16 [.t 35, .t 36], some (31, true), true⟩,
      ⟨some 38, .bin .eql (.t 34) (.t 37), some (31, true), true⟩,
      ⟨some 39, .pick (.t 31) (.t 38) (.c (.bool false)), none, true⟩,
      ⟨some 40, .move (.t 39), none, true⟩,
      ⟨some 41, .addOff (.v 3) 0, some (40, true), false⟩,
      ⟨some 42, .addOff (.t 41) 0, some (40, true), false⟩,
      ⟨some 43, .load1 (.t 42), some (40, true), false⟩,
      ⟨some 44, .move (.v 2), some (40, true), false⟩,
      ⟨some 45, .call 17 [.t 43, .t 44], some (40, true), false⟩,
      ⟨some 46, .addOff (.v 3) 0, some (40, true), false⟩,
      ⟨some 47, .addOff (.t 46) 0, some (40, true), false⟩,
      ⟨some 48, .load1 (.t 47), some (40, true), false⟩,
      ⟨some 49, .move (.v 2), some (40, true), false⟩,
      ⟨some 50, .call 18 [.t 48, .t 49], some (40, true), true⟩,
      ⟨some 51, .bin .eql (.t 45) (.t 50), some (40, true), true⟩,
      ⟨some 52, .pick (.t 40) (.t 51) (.c (.bool false)), none, true⟩,
      ⟨some 53, .move (.t 52), none, true⟩,
      ⟨some 54, .call 11 [], some (53, true), true⟩,
      ⟨some 55, .pick (.t 53) (.t 54) (.c (.bool false)), none, true⟩,
      ⟨some 6, .assign (.t 55), none, true⟩])
     (.ret))))
def g5 : AFn := { np := 3, keep := [0, 1, 2, 3, 4, 6, 7, 8, 9, 10], res := [.tmp 6], fresh := true, body := c5 }
/-- cotterel/cotterellaw32.ExecLoads -/
def c6 : ACode :=
 .seq (.region [] [
   ⟨some 6, .assign (.c (.bool false)), none, true⟩])
  (.seq (.region [] [
    ⟨some 11, .move (.v 0), none, true⟩,
    ⟨some 12, .call 19 [.t 11], none, true⟩,
    ⟨some 7, .assign (.t 12), none, true⟩])
   (.seq (.seq (.region [] [
      ⟨some 13, .move (.v 0), none, true⟩,
      ⟨some 14, .call 20 [.t 13], none, true⟩,
      ⟨some 15, .bin .neq (.t 14) (.c (.int .i64 5)), none, true⟩,
      ⟨some 16, .move (.t 15), none, true⟩,
      ⟨some 17, .move (.v 7), some (16, false), true⟩,
      ⟨some 18, .bin .lss (.t 17) (.c (.int .i64 1)), some (16, false), true⟩,
      ⟨some 19, .pick (.t 16) (.c (.bool true)) (.t 18), none, true⟩,
      ⟨some 20, .move (.t 19), none, true⟩,
      ⟨some 21, .move (.v 7), some (20, false), true⟩,
      ⟨some 22, .bin .gtr (.t 21) (.c (.int .i64 4)), some (20, false), true⟩,
      ⟨some 23, .pick (.t 20) (.c (.bool true)) (.t 22), none, true⟩])
     (.cond (.v 23)
      (.seq (.region [] [
        ⟨some 24, .call 11 [], none, true⟩,
        ⟨some 6, .assign (.t 24), none, true⟩])
       (.ret))
      (.skip)))
    (.seq (.region [] [
      ⟨some 25, .move (.v 7), none, true⟩,
      ⟨some 26, .conv .u64 (.t 25), none, true⟩,
      ⟨some 27, .bin .mul (.c (.int .u64 8)) (.t 26), none, true⟩,
      ⟨some 28, .bin .shl (.c (.int .u32 1)) (.t 27), none, true⟩,
      ⟨some 29, .bin .sub (.t 28) (.c (.int .u32 1)), none, true⟩,
      ⟨some 8, .assign (.t 29), none, true⟩])
     (.seq (.seq (.region [] [
        ⟨some 30, .move (.v 0), none, true⟩,
        ⟨some 31, .move (.v 1), none, true⟩,
        ⟨some 32, .call 17 [.t 30, .t 31], none, true⟩,
        ⟨some 33, .move (.v 0), none, true⟩,
        ⟨some 34, .move (.v 1), none, true⟩,
        ⟨some 35, .move (.v 8), none, true⟩,
        ⟨some 36, .bin .and (.t 34) (.t 35), none, true⟩,
        ⟨some 37, .move (.v 2), none, true⟩,
        ⟨some 38, .move (.v 8), none, true⟩,
        ⟨some 39, .bin .andNot (.t 37) (.t 38), none, true⟩,
        ⟨some 40, .bin .or (.t 36) (.t 39), none, true⟩,
        ⟨some 41, .call 17 [.t 33, .t 40], none, true⟩,
        ⟨some 42, .bin .neq (.t 32) (.t 41), none, true⟩,
        ⟨some 43, .move (.t 42), none, true⟩,
        ⟨some 44, .move (.v 7), some (43, true), true⟩,
        ⟨some 45, .bin .lss (.t 44) (.c (.int .i64 4)), some (43, true), true⟩,
        ⟨some 46, .pick (.t 43) (.t 45) (.c (.bool false)), none, true⟩,
        ⟨some 47, .move (.t 46), none, true⟩,
        ⟨some 48, .move (.v 0), some (47, false), true⟩,
        ⟨some 49, .move (.v 1), some (47, false), true⟩,
        ⟨some 50, .call 17 [.t 48, .t 49], some (47, false), true⟩,
        ⟨some 51, .move (.v 8), some (47, false), true⟩,
        ⟨some 52, .bin .and (.t 50) (.t 51), some (47, false), true⟩,
        ⟨some 53, .move (.v 1), some (47, false), true⟩,
        ⟨some 54, .move (.v 8), some (47, false), true⟩,
        ⟨some 55, .bin .and (.t 53) (.t 54), some (47, false), true⟩,
        ⟨some 56, .bin .neq (.t 52) (.t 55), some (47, false), true⟩,
        ⟨some 57, .pick (.t 47) (.c (.bool true)) (.t 56), none, true⟩])
       (.cond (.v 57)
        (.seq (.region [] [
          ⟨some 6, .assign (.c (.bool false)), none, true⟩])
         (.ret))
        (.skip)))
      (.seq (.region [] [
        ⟨some 58, .move (.v 0), none, true⟩,
        ⟨some 59, .move (.v 1), none, true⟩,
        ⟨some 60, .call 17 [.t 58, .t 59], none, true⟩,
        ⟨some 61, .move (.v 8), none, true⟩,
        ⟨some 62, .bin .andNot (.t 60) (.t 61), none, true⟩,
        ⟨some 9, .assign (.t 62), none, true⟩])
       (.seq (.region [] [
         ⟨some 63, .move (.v 0), none, true⟩,
         ⟨some 64, .bin .eql (.t 63) (.c (.int .i64 34)), none, true⟩,
         ⟨some 65, .move (.t 64), none, true⟩,
         ⟨some 66, .move (.v 0), some (65, false), true⟩,
         ⟨some 67, .bin .eql (.t 66) (.c (.int .i64 36)), some (65, false), true⟩,
         ⟨some 68, .pick (.t 65) (.c (.bool true)) (.t 67), none, true⟩,
         ⟨some 10, .assign (.t 68), none, true⟩])
        (.seq (.seq (.region [] [
           ⟨some 69, .move (.v 7), none, true⟩,
           ⟨some 70, .bin .lss (.t 69) (.c (.int .i64 4)), none, true⟩,
           ⟨some 71, .move (.t 70), none, true⟩,
           ⟨some 72, .move (.v 9), some (71, true), true⟩,
           ⟨some 73, .bin .neq (.t 72) (.c (.int .u32 0)), some (71, true), true⟩,
           ⟨some 74, .pick (.t 71) (.t 73) (.c (.bool false)), none, true⟩,
           ⟨some 75, .move (.t 74), none, true⟩,
           ⟨some 76, .move (.v 10), some (75, true), true⟩,
           ⟨some 77, .un .not (.t 76), some (75, true), true⟩,
           ⟨some 78, .move (.t 77), some (75, true), true⟩,
           ⟨some 79, .move (.v 9), some (78, false), true⟩,
           ⟨some 80, .move (.v 8), some (78, false), true⟩,
           ⟨some 81, .un .xor (.t 80), some (78, false), true⟩,
           ⟨some 82, .bin .neq (.t 79) (.t 81), some (78, false), true⟩,
           ⟨some 83, .pick (.t 78) (.c (.bool true)) (.t 82), some (75, true), true⟩,
           ⟨some 84, .move (.t 83), some (75, true), true⟩,
           ⟨some 85, .move (.v 1), some (84, false), true⟩,
           ⟨some 86, .move (.v 7), some (84, false), true⟩,
           ⟨some 87, .conv .u64 (.t 86), some (84, false), true⟩,
           ⟨some 88, .bin .mul (.c (.int .u64 8)) (.t 87), some (84, false), true⟩,
           ⟨some 89, .bin .sub (.t 88) (.c (.int .u64 1)), some (84, false), true⟩,
           ⟨some 90, .bin .shr (.t 85) (.t 89), some (84, false), true⟩,
           ⟨some 91, .bin .and (.t 90) (.c (.int .u32 1)), some (84, false), true⟩,
           ⟨some 92, .bin .neq (.t 91) (.c (.int .u32 1)), some (84, false), true⟩,
           ⟨some 93, .pick (.t 84) (.c (.bool true)) (.t 92), some (75, true), true⟩,
           ⟨some 94, .pick (.t 75) (.t 93) (.c (.bool false)), none, true⟩])
          (.cond (.v 94)
           (.seq (.region [] [
             ⟨some 6, .assign (.c (.bool false)), none, true⟩])
            (.ret))
           (.skip)))
         (.seq (.region [] [
           ⟨some 95, .call 11 [], none, true⟩,
           ⟨some 6, .assign (.t 95), none, true⟩])
          (.ret)))))))))
def g6 : AFn := { np := 3, keep := [0, 1, 2, 6, 7, 8, 9, 10, 23, 57, 94], res := [.tmp 6], fresh := true, body := c6 }
/-- cotterel/exec.Do -/
def c7 : ACode :=
 .seq (.region [2, 3] [
   ⟨some 2, .box (.v 0), none, true⟩,
   ⟨some 3, .box (.v 1), none, true⟩,
   ⟨some 4, .assign (.c (.int .u32 0)), none, true⟩,
   ⟨some 5, .assign (.c (.int .u32 0)), none, true⟩,
   ⟨some 6, .assign (.c (.int .i64 0)), none, true⟩,
   ⟨some 7, .assign (.c (.int .u32 0)), none, true⟩])
  (.seq (.region [] [
    ⟨some 9, .addOff (.v 2) 0, none, true⟩,
    ⟨some 10, .addOff (.t 9) 0, none, true⟩,
    ⟨some 11, .load1 (.t 10), none, true⟩,
    ⟨some 8, .assign (.t 11), none, true⟩])
   (.seq (.region [] [
     ⟨some 12, .loadN 23 (.v 2), none, true⟩,
     ⟨some 13, .call 21 [.t 12], none, true⟩,
     ⟨some 5, .assign (.t 13), none, true⟩])
    (.seq (.block 0 (.seq (.region [] [
        ⟨some 15, .addOff (.v 2) 21, none, true⟩,
        ⟨some 16, .load1 (.t 15), none, true⟩,
        ⟨some 17, .bin .neq (.t 16) (.c (.int .i64 0)), none, true⟩,
        ⟨some 14, .assign (.t 17), none, true⟩])
       (.cond (.v 14)
        (.seq (.draw [] [
          ⟨some 18, .move (.v 5), none, false⟩,
          ⟨some 19, .addOff (.v 2) 21, none, false⟩,
          ⟨some 20, .load1 (.t 19), none, false⟩,
          ⟨some 21, .addOff (.v 2) 22, none, false⟩,
          ⟨some 22, .load1 (.t 21), none, false⟩,
          ⟨some 4, .assign (.c (.int .u32 0)), none, false⟩,
          ⟨some 5, .assign (.t 18), none, false⟩,
          ⟨some 6, .assign (.t 20), none, false⟩,
          ⟨some 7, .assign (.t 22), none, true⟩])
         (.ret))
        (.seq (.region [] [
          ⟨some 24, .move (.v 8), none, true⟩,
          ⟨some 25, .call 22 [.t 24, .c (.int .i64 1), .c (.int .i64 23)], none, true⟩,
          ⟨some 23, .assign (.t 25), none, true⟩])
         (.cond (.v 23)
          (.region [] [
           ⟨some 26, .move (.v 8), none, true⟩,
           ⟨some 27, .idxA 3 1 (.v 3) (.c (.int .i64 0)), none, true⟩,
           ⟨some 28, .load1 (.t 27), none, true⟩,
           ⟨some 29, .idxA 3 1 (.v 3) (.c (.int .i64 1)), none, true⟩,
           ⟨some 30, .load1 (.t 29), none, true⟩,
           ⟨some 31, .call 23 [.t 26, .t 28, .t 30], none, true⟩,
           ⟨some 4, .assign (.t 31), none, true⟩])
          (.seq (.region [] [
            ⟨some 33, .move (.v 8), none, true⟩,
            ⟨some 34, .bin .eql (.t 33) (.c (.int .i64 24)), none, true⟩,
            ⟨some 32, .assign (.t 34), none, true⟩])
           (.cond (.v 32)
            (.region [] [
             ⟨some 35, .idxA 3 1 (.v 3) (.c (.int .i64 2)), none, true⟩,
             ⟨some 36, .load1 (.t 35), none, true⟩,
             ⟨some 37, .idxA 3 1 (.v 3) (.c (.int .i64 0)), none, true⟩,
             ⟨some 38, .load1 (.t 37), none, true⟩,
             ⟨some 39, .idxA 3 1 (.v 3) (.c (.int .i64 1)), none, true⟩,
             ⟨some 40, .load1 (.t 39), none, true⟩,
             ⟨some 41, .call 24 [.t 36, .t 38, .t 40], none, true⟩,
             ⟨some 4, .assign (.t 41), none, true⟩])
            (.seq (.region [] [
              ⟨some 43, .move (.v 8), none, true⟩,
              ⟨some 44, .call 22 [.t 43, .c (.int .i64 25), .c (.int .i64 33)], none, true⟩,
              ⟨some 42, .assign (.t 44), none, true⟩])
             (.cond (.v 42)
              (.region [] [
               ⟨some 45, .move (.v 8), none, true⟩,
               ⟨some 46, .idxA 3 1 (.v 3) (.c (.int .i64 0)), none, true⟩,
               ⟨some 47, .load1 (.t 46), none, true⟩,
               ⟨some 48, .addOff (.v 2) 0, none, true⟩,
               ⟨some 49, .addOff (.t 48) 4, none, true⟩,
               ⟨some 50, .load1 (.t 49), none, true⟩,
               ⟨some 51, .conv .u32 (.t 50), none, true⟩,
               ⟨some 52, .call 23 [.t 45, .t 47, .t 51], none, true⟩,
               ⟨some 4, .assign (.t 52), none, true⟩])
              (.seq (.region [] [
                ⟨some 54, .move (.v 8), none, true⟩,
                ⟨some 55, .call 22 [.t 54, .c (.int .i64 43), .c (.int .i64 48)], none, true⟩,
                ⟨some 53, .assign (.t 55), none, true⟩])
               (.cond (.v 53)
                (.seq (.region [] [
                  ⟨some 56, .move (.v 8), none, true⟩,
                  ⟨some 57, .idxA 3 1 (.v 3) (.c (.int .i64 0)), none, true⟩,
                  ⟨some 58, .load1 (.t 57), none, true⟩,
                  ⟨some 59, .idxA 3 1 (.v 3) (.c (.int .i64 1)), none, true⟩,
                  ⟨some 60, .load1 (.t 59), none, true⟩,
                  ⟨some 61, .call 25 [.t 56, .t 58, .t 60], none, true⟩])
                 (.cond (.v 61)
                  (.region [] [
                   ⟨some 62, .loadN 23 (.v 2), none, true⟩,
                   ⟨some 63, .call 26 [.t 62], none, true⟩,
                   ⟨some 5, .assign (.t 63), none, true⟩])
                  (.skip)))
                (.seq (.region [] [
                  ⟨some 65, .move (.v 8), none, true⟩,
                  ⟨some 66, .bin .eql (.t 65) (.c (.int .i64 49)), none, true⟩,
                  ⟨some 64, .assign (.t 66), none, true⟩])
                 (.cond (.v 64)
                  (.region [] [
                   ⟨some 67, .move (.v 5), none, true⟩,
                   ⟨some 68, .loadN 23 (.v 2), none, true⟩,
                   ⟨some 69, .call 26 [.t 68], none, true⟩,
                   ⟨some 4, .assign (.t 67), none, true⟩,
                   ⟨some 5, .assign (.t 69), none, true⟩])
                  (.seq (.region [] [
                    ⟨some 71, .move (.v 8), none, true⟩,
                    ⟨some 72, .bin .eql (.t 71) (.c (.int .i64 50)), none, true⟩,
                    ⟨some 70, .assign (.t 72), none, true⟩])
                   (.cond (.v 70)
                    (.draw [] [
                     ⟨some 73, .move (.v 5), none, false⟩,
                     ⟨some 74, .idxA 3 1 (.v 3) (.c (.int .i64 0)), none, false⟩,
                     ⟨some 75, .load1 (.t 74), none, false⟩,
                     ⟨some 76, .addOff (.v 2) 0, none, false⟩,
                     ⟨some 77, .addOff (.t 76) 4, none, false⟩,
                     ⟨some 78, .load1 (.t 77), none, false⟩,
                     ⟨some 79, .conv .u32 (.t 78), none, false⟩,
                     ⟨some 80, .bin .add (.t 75) (.t 79), none, false⟩,
                     ⟨some 81, .bin .andNot (.t 80) (.c (.int .u32 3)), none, false⟩,
                     ⟨some 4, .assign (.t 73), none, false⟩,
                     ⟨some 5, .assign (.t 81), none, true⟩])
                    (.skip))))))))))))))))
     (.seq (.region [] [
       ⟨some 82, .move (.v 4), none, true⟩,
       ⟨some 83, .move (.v 5), none, true⟩,
       ⟨some 4, .assign (.t 82), none, true⟩,
       ⟨some 5, .assign (.t 83), none, true⟩,
       ⟨some 6, .assign (.c (.int .i64 0)), none, true⟩,
       ⟨some 7, .assign (.c (.int .u32 0)), none, true⟩])
      (.ret)))))
def g7 : AFn := { np := 2, keep := [0, 1, 2, 3, 4, 5, 6, 7, 8, 14, 23, 32, 42, 53, 61, 64, 70], res := [.tmp 4, .tmp 5, .tmp 6, .tmp 7], fresh := true, body := c7 }
/-- cotterel/cotterelref32.Do -/
def c8 : ACode :=
 .seq (.region [2, 3] [
   ⟨some 2, .box (.v 0), none, true⟩,
   ⟨some 3, .box (.v 1), none, true⟩,
   ⟨some 4, .assign (.c (.int .u32 0)), none, true⟩,
   ⟨some 5, .assign (.c (.int .u32 0)), none, true⟩,
   ⟨some 6, .assign (.c (.int .i64 0)), none, true⟩,
   ⟨some 7, .assign (.c (.int .u32 0)), none, true⟩])
  (.seq (.draw [9] [
    ⟨some 12, .addOff (.v 2) 5, none, false⟩,
    ⟨some 13, .addOff (.t 12) 0, none, false⟩,
    ⟨some 14, .load1 (.t 13), none, false⟩,
    ⟨some 15, .addOff (.v 2) 0, none, false⟩,
    ⟨some 16, .loadN 5 (.t 15), none, false⟩,
    ⟨some 9, .alloc [.int .i64 0, .int .i64 0, .int .i64 0, .int .i64 0, .int .i64 0], none, false⟩,
    ⟨some 8, .assign (.t 14), none, false⟩,
    ⟨none, .store 5 (.v 9) (.t 16), none, true⟩])
   (.seq (.seq (.region [] [
      ⟨some 17, .addOff (.v 2) 21, none, true⟩,
      ⟨some 18, .load1 (.t 17), none, true⟩,
      ⟨some 19, .bin .neq (.t 18) (.c (.int .i64 0)), none, true⟩])
     (.cond (.v 19)
      (.seq (.draw [] [
        ⟨some 20, .move (.v 8), none, false⟩,
        ⟨some 21, .bin .add (.t 20) (.c (.int .u32 4)), none, false⟩,
        ⟨some 22, .addOff (.v 2) 21, none, false⟩,
        ⟨some 23, .load1 (.t 22), none, false⟩,
        ⟨some 24, .addOff (.v 2) 22, none, false⟩,
        ⟨some 25, .load1 (.t 24), none, false⟩,
        ⟨some 4, .assign (.c (.int .u32 0)), none, false⟩,
        ⟨some 5, .assign (.t 21), none, false⟩,
        ⟨some 6, .assign (.t 23), none, false⟩,
        ⟨some 7, .assign (.t 25), none, true⟩])
       (.ret))
      (.skip)))
    (.seq (.region [] [
      ⟨some 26, .move (.v 8), none, true⟩,
      ⟨some 27, .addOff (.v 9) 4, none, true⟩,
      ⟨some 28, .load1 (.t 27), none, true⟩,
      ⟨some 29, .bin .mul (.c (.int .i64 4)) (.t 28), none, true⟩,
      ⟨some 30, .conv .u32 (.t 29), none, true⟩,
      ⟨some 31, .bin .add (.t 26) (.t 30), none, true⟩,
      ⟨some 10, .assign (.t 31), none, true⟩])
     (.seq (.block 0 (.seq (.region [] [
         ⟨some 33, .addOff (.v 9) 0, none, true⟩,
         ⟨some 34, .load1 (.t 33), none, true⟩,
         ⟨some 35, .bin .geq (.t 34) (.c (.int .i64 1)), none, true⟩,
         ⟨some 36, .move (.t 35), none, true⟩,
         ⟨some 37, .addOff (.v 9) 0, some (36, true), true⟩,
         ⟨some 38, .load1 (.t 37), some (36, true), true⟩,
         ⟨some 39, .bin .leq (.t 38) (.c (.int .i64 33)), some (36, true), true⟩,
         ⟨some 40, .pick (.t 36) (.t 39) (.c (.bool false)), none, true⟩,
         ⟨some 32, .assign (.t 40), none, true⟩])
        (.cond (.v 32)
         (.seq (.region [] [
           ⟨some 41, .loadN 5 (.v 9), none, true⟩,
           ⟨some 42, .loadN 3 (.v 3), none, true⟩,
           ⟨some 43, .call 27 [.t 41, .t 42], none, true⟩,
           ⟨some 44, .move (.v 8), none, true⟩,
           ⟨some 45, .bin .add (.t 44) (.c (.int .u32 4)), none, true⟩,
           ⟨some 4, .assign (.t 43), none, true⟩,
           ⟨some 5, .assign (.t 45), none, true⟩,
           ⟨some 6, .assign (.c (.int .i64 0)), none, true⟩,
           ⟨some 7, .assign (.c (.int .u32 0)), none, true⟩])
          (.ret))
         (.seq (.region [] [
           ⟨some 47, .addOff (.v 9) 0, none, true⟩,
           ⟨some 48, .load1 (.t 47), none, true⟩,
           ⟨some 49, .bin .geq (.t 48) (.c (.int .i64 43)), none, true⟩,
           ⟨some 50, .move (.t 49), none, true⟩,
           ⟨some 51, .addOff (.v 9) 0, some (50, true), true⟩,
           ⟨some 52, .load1 (.t 51), some (50, true), true⟩,
           ⟨some 53, .bin .leq (.t 52) (.c (.int .i64 48)), some (50, true), true⟩,
           ⟨some 54, .pick (.t 50) (.t 53) (.c (.bool false)), none, true⟩,
           ⟨some 55, .move (.t 54), none, true⟩,
           ⟨some 56, .addOff (.v 9) 0, some (55, true), true⟩,
           ⟨some 57, .load1 (.t 56), some (55, true), true⟩,
           ⟨some 58, .idxA 3 1 (.v 3) (.c (.int .i64 0)), some (55, true), true⟩,
           ⟨some 59, .load1 (.t 58), some (55, true), true⟩,
           ⟨some 60, .idxA 3 1 (.v 3) (.c (.int .i64 1)), some (55, true), true⟩,
           ⟨some 61, .load1 (.t 60), some (55, true), true⟩,
           ⟨some 62, .call 28 [.t 57, .t 59, .t 61], some (55, true), true⟩,
           ⟨some 63, .pick (.t 55) (.t 62) (.c (.bool false)), none, true⟩,
           ⟨some 46, .assign (.t 63), none, true⟩])
          (.cond (.v 46)
           (.seq (.region [] [
             ⟨some 64, .move (.v 10), none, true⟩,
             ⟨some 4, .assign (.c (.int .u32 0)), none, true⟩,
             ⟨some 5, .assign (.t 64), none, true⟩,
             ⟨some 6, .assign (.c (.int .i64 0)), none, true⟩,
             ⟨some 7, .assign (.c (.int .u32 0)), none, true⟩])
            (.ret))
           (.seq (.region [] [
             ⟨some 66, .addOff (.v 9) 0, none, true⟩,
             ⟨some 67, .load1 (.t 66), none, true⟩,
             ⟨some 68, .bin .eql (.t 67) (.c (.int .i64 49)), none, true⟩,
             ⟨some 65, .assign (.t 68), none, true⟩])
            (.cond (.v 65)
             (.seq (.region [] [
               ⟨some 69, .move (.v 8), none, true⟩,
               ⟨some 70, .bin .add (.t 69) (.c (.int .u32 4)), none, true⟩,
               ⟨some 71, .move (.v 10), none, true⟩,
               ⟨some 4, .assign (.t 70), none, true⟩,
               ⟨some 5, .assign (.t 71), none, true⟩,
               ⟨some 6, .assign (.c (.int .i64 0)), none, true⟩,
               ⟨some 7, .assign (.c (.int .u32 0)), none, true⟩])
              (.ret))
             (.seq (.region [] [
               ⟨some 73, .addOff (.v 9) 0, none, true⟩,
               ⟨some 74, .load1 (.t 73), none, true⟩,
               ⟨some 75, .bin .eql (.t 74) (.c (.int .i64 50)), none, true⟩,
               ⟨some 72, .assign (.t 75), none, true⟩])
              (.cond (.v 72)
               (.seq (.region [] [
                 ⟨some 76, .idxA 3 1 (.v 3) (.c (.int .i64 0)), none, true⟩,
                 ⟨some 77, .load1 (.t 76), none, true⟩,
                 ⟨some 78, .addOff (.v 9) 4, none, true⟩,
                 ⟨some 79, .load1 (.t 78), none, true⟩,
                 ⟨some 80, .conv .u32 (.t 79), none, true⟩,
                 ⟨some 81, .bin .add (.t 77) (.t 80), none, true⟩,
                 ⟨some 11, .assign (.t 81), none, true⟩])
                (.seq (.region [] [
                  ⟨some 82, .move (.v 8), none, true⟩,
                  ⟨some 83, .bin .add (.t 82) (.c (.int .u32 4)), none, true⟩,
                  ⟨some 84, .move (.v 11), none, true⟩,
                  ⟨some 85, .move (.v 11), none, true⟩,
                  ⟨some 86, .bin .rem (.t 85) (.c (.int .u32 4)), none, true⟩,
                  ⟨some 87, .bin .sub (.t 84) (.t 86), none, true⟩,
                  ⟨some 4, .assign (.t 83), none, true⟩,
                  ⟨some 5, .assign (.t 87), none, true⟩,
                  ⟨some 6, .assign (.c (.int .i64 0)), none, true⟩,
                  ⟨some 7, .assign (.c (.int .u32 0)), none, true⟩])
                 (.ret)))
               (.skip))))))))))
      (.seq (.region [] [
        ⟨some 88, .move (.v 8), none, true⟩,
        ⟨some 89, .bin .add (.t 88) (.c (.int .u32 4)), none, true⟩,
        ⟨some 4, .assign (.c (.int .u32 0)), none, true⟩,
        ⟨some 5, .assign (.t 89), none, true⟩,
        ⟨some 6, .assign (.c (.int .i64 0)), none, true⟩,
        ⟨some 7, .assign (.c (.int .u32 0)), none, true⟩])
       (.ret))))))
def g8 : AFn := { np := 2, keep := [0, 1, 2, 3, 4, 5, 6, 7, 8, 9, 10, 11, 19, 32, 46, 65, 72], res := [.tmp 4, .tmp 5, .tmp 6, .tmp 7], fresh := true, body := c8 }
/-- cotterel/exec.Wrong -/
def c9 : ACode :=
 .seq (.region [2] [
   ⟨some 2, .box (.v 0), none, true⟩,
   ⟨some 4, .assign (.c (.bool false)), none, true⟩])
  (.seq (.seq (.region [] [
     ⟨some 5, .addOff (.v 2) 5, none, true⟩,
     ⟨some 6, .addOff (.t 5) 4, none, true⟩,
     ⟨some 7, .addOff (.t 6) 0, none, true⟩,
     ⟨some 8, .load1 (.t 7), none, true⟩])
    (.cond (.v 8)
     (.seq (.region [] [
       ⟨some 9, .move (.v 1), none, true⟩,
       ⟨some 10, .addOff (.v 2) 5, none, true⟩,
       ⟨some 11, .addOff (.t 10) 4, none, true⟩,
       ⟨some 12, .addOff (.t 11) 1, none, true⟩,
       ⟨some 13, .load1 (.t 12), none, true⟩,
       ⟨some 14, .bin .neq (.t 9) (.t 13), none, true⟩,
       ⟨some 4, .assign (.t 14), none, true⟩])
      (.ret))
     (.skip)))
   (.seq (.region [] [
     ⟨some 15, .move (.v 1), none, true⟩,
     ⟨some 16, .loadN 23 (.v 2), none, true⟩,
     ⟨some 17, .call 21 [.t 16], none, true⟩,
     ⟨some 18, .bin .neq (.t 15) (.t 17), none, true⟩,
     ⟨some 4, .assign (.t 18), none, true⟩])
    (.ret)))
def g9 : AFn := { np := 2, keep := [0, 1, 2, 4, 8], res := [.tmp 4], fresh := true, body := c9 }
/-- cotterel/cotterelref32.Wrong -/
def c10 : ACode :=
 .seq (.region [2] [
   ⟨some 2, .box (.v 0), none, true⟩,
   ⟨some 4, .assign (.c (.bool false)), none, true⟩])
  (.seq (.seq (.region [] [
     ⟨some 5, .addOff (.v 2) 5, none, true⟩,
     ⟨some 6, .addOff (.t 5) 4, none, true⟩,
     ⟨some 7, .addOff (.t 6) 0, none, true⟩,
     ⟨some 8, .load1 (.t 7), none, true⟩])
    (.cond (.v 8)
     (.seq (.region [] [
       ⟨some 9, .move (.v 1), none, true⟩,
       ⟨some 10, .addOff (.v 2) 5, none, true⟩,
       ⟨some 11, .addOff (.t 10) 4, none, true⟩,
       ⟨some 12, .addOff (.t 11) 1, none, true⟩,
       ⟨some 13, .load1 (.t 12), none, true⟩,
       ⟨some 14, .bin .neq (.t 9) (.t 13), none, true⟩,
       ⟨some 4, .assign (.t 14), none, true⟩])
      (.ret))
     (.skip)))
   (.seq (.region [] [
     ⟨some 15, .move (.v 1), none, true⟩,
     ⟨some 16, .addOff (.v 2) 5, none, true⟩,
     ⟨some 17, .addOff (.t 16) 0, none, true⟩,
     ⟨some 18, .load1 (.t 17), none, true⟩,
     ⟨some 19, .bin .add (.t 18) (.c (.int .u32 4)), none, true⟩,
     ⟨some 20, .bin .neq (.t 15) (.t 19), none, true⟩,
     ⟨some 4, .assign (.t 20), none, true⟩])
    (.ret)))
def g10 : AFn := { np := 2, keep := [0, 1, 2, 4, 8], res := [.tmp 4], fresh := true, body := c10 }
/-- cotterel/cotterellaw32.awake -/
def c11 : ACode :=
 .seq (.region [] [
   ⟨some 0, .assign (.c (.bool false)), none, true⟩])
  (.seq (.region [1] [
    ⟨some 6, .build [.int .i64 0, .int .i64 0, .int .i64 0, .int .i64 0, .int .i64 0] [(0, 1, .c (.int .i64 25)), (4, 1, .c (.int .i64 (-1)))], none, true⟩,
    ⟨some 7, .build [.int .u32 0, .int .u32 0, .int .i64 0, .int .u32 0, .bool false, .int .u32 0, .int .u32 0, .int .i64 0, .int .u32 0] [(0, 1, .c (.int .u32 8))], none, true⟩,
    ⟨some 8, .build [.int .i64 0, .int .i64 0, .int .i64 0, .int .i64 0, .int .i64 0, .int .u32 0, .int .u32 0, .int .i64 0, .int .u32 0, .bool false, .int .u32 0, .int .u32 0, .int .i64 0, .int .u32 0, .int .i64 0, .int .i64 0, .bool false, .int .i64 0, .int .i64 0, .int .i64 0, .int .i64 0, .int .i64 0, .int .u32 0] [(0, 5, .t 6), (5, 9, .t 7)], none, true⟩,
    ⟨some 1, .alloc [.int .i64 0, .int .i64 0, .int .i64 0, .int .i64 0, .int .i64 0, .int .u32 0, .int .u32 0, .int .i64 0, .int .u32 0, .bool false, .int .u32 0, .int .u32 0, .int .i64 0, .int .u32 0, .int .i64 0, .int .i64 0, .bool false, .int .i64 0, .int .i64 0, .int .i64 0, .int .i64 0, .int .i64 0, .int .u32 0], none, true⟩,
    ⟨none, .store 23 (.v 1) (.t 8), none, true⟩])
   (.seq (.region [] [
     ⟨some 10, .loadN 23 (.v 1), none, true⟩,
     ⟨some 11, .build [.int .u32 0, .int .u32 0, .int .u32 0] [(0, 1, .c (.int .u32 5))], none, true⟩,
     ⟨some 12, .call 7 [.t 10, .t 11], none, true⟩,
     ⟨some 9, .move (.t 12), none, true⟩,
     ⟨some 13, .extract (.t 9) 0, none, true⟩,
     ⟨some 14, .extract (.t 9) 1, none, true⟩,
     ⟨some 15, .extract (.t 9) 2, none, true⟩,
     ⟨some 16, .extract (.t 9) 3, none, true⟩,
     ⟨some 2, .assign (.t 13), none, true⟩,
     ⟨some 3, .assign (.t 14), none, true⟩,
     ⟨some 4, .assign (.t 15), none, true⟩,
     ⟨some 5, .assign (.t 16), none, true⟩])
    (.seq (.region [] [
      ⟨some 17, .move (.v 2), none, true⟩,
      ⟨some 18, .bin .eql (.t 17) (.c (.int .u32 4)), none, true⟩,
      ⟨some 19, .move (.t 18), none, true⟩,
      ⟨some 20, .move (.v 3), some (19, true), true⟩,
      ⟨some 21, .bin .eql (.t 20) (.c (.int .u32 12)), some (19, true), true⟩,
      ⟨some 22, .pick (.t 19) (.t 21) (.c (.bool false)), none, true⟩,
      ⟨some 23, .move (.t 22), none, true⟩,
      ⟨some 24, .move (.v 4), some (23, true), true⟩,
      ⟨some 25, .bin .eql (.t 24) (.c (.int .i64 0)), some (23, true), true⟩,
      ⟨some 26, .pick (.t 23) (.t 25) (.c (.bool false)), none, true⟩,
      ⟨some 27, .move (.t 26), none, true⟩,
      ⟨some 28, .call 17 [.c (.int .i64 34), .c (.int .u32 128)], some (27, true), true⟩,
      ⟨some 29, .bin .eql (.t 28) (.c (.int .u32 4294967168)), some (27, true), true⟩,
      ⟨some 30, .pick (.t 27) (.t 29) (.c (.bool false)), none, true⟩,
      ⟨some 31, .move (.t 30), none, true⟩,
      ⟨some 32, .loadN 23 (.v 1), some (31, true), true⟩,
      ⟨some 33, .call 9 [.t 32, .c (.int .u32 16)], some (31, true), true⟩,
      ⟨some 34, .pick (.t 31) (.t 33) (.c (.bool false)), none, true⟩,
      ⟨some 35, .move (.t 34), none, true⟩,
      ⟨some 36, .loadN 23 (.v 1), some (35, true), true⟩,
      ⟨some 37, .call 9 [.t 36, .c (.int .u32 12)], some (35, true), true⟩,
      ⟨some 38, .un .not (.t 37), some (35, true), true⟩,
      ⟨some 39, .pick (.t 35) (.t 38) (.c (.bool false)), none, true⟩,
      ⟨some 0, .assign (.t 39), none, true⟩])
     (.ret))))
def g11 : AFn := { np := 0, keep := [0, 1, 2, 3, 4], res := [.tmp 0], fresh := true, body := c11 }
/-- cotterel/pred.Next -/
def c12 : ACode :=
 .seq (.region [1] [
   ⟨some 1, .box (.v 0), none, true⟩,
   ⟨some 2, .assign (.c (.int .u32 0)), none, true⟩])
  (.seq (.seq (.region [] [
     ⟨some 3, .addOff (.v 1) 4, none, true⟩,
     ⟨some 4, .addOff (.t 3) 0, none, true⟩,
     ⟨some 5, .load1 (.t 4), none, true⟩])
    (.cond (.v 5)
     (.seq (.region [] [
       ⟨some 6, .addOff (.v 1) 4, none, true⟩,
       ⟨some 7, .addOff (.t 6) 1, none, true⟩,
       ⟨some 8, .load1 (.t 7), none, true⟩,
       ⟨some 2, .assign (.t 8), none, true⟩])
      (.ret))
     (.skip)))
   (.seq (.region [] [
     ⟨some 9, .addOff (.v 1) 0, none, true⟩,
     ⟨some 10, .load1 (.t 9), none, true⟩,
     ⟨some 11, .bin .add (.t 10) (.c (.int .u32 4)), none, true⟩,
     ⟨some 2, .assign (.t 11), none, true⟩])
    (.ret)))
def g12 : AFn := { np := 1, keep := [0, 1, 2, 5], res := [.tmp 2], fresh := true, body := c12 }
/-- cotterel/exec.Addr -/
def c13 : ACode :=
 .seq (.region [2, 3] [
   ⟨some 2, .box (.v 0), none, true⟩,
   ⟨some 3, .box (.v 1), none, true⟩,
   ⟨some 4, .assign (.c (.int .u32 0)), none, true⟩,
   ⟨some 5, .assign (.c (.int .i64 0)), none, true⟩])
  (.seq (.region [] [
    ⟨some 7, .addOff (.v 2) 0, none, true⟩,
    ⟨some 8, .addOff (.t 7) 0, none, true⟩,
    ⟨some 9, .load1 (.t 8), none, true⟩,
    ⟨some 6, .assign (.t 9), none, true⟩])
   (.seq (.block 0 (.seq (.region [] [
       ⟨some 11, .move (.v 6), none, true⟩,
       ⟨some 12, .call 22 [.t 11, .c (.int .i64 34), .c (.int .i64 38)], none, true⟩,
       ⟨some 13, .move (.t 12), none, true⟩,
       ⟨some 14, .move (.v 6), some (13, false), true⟩,
       ⟨some 15, .call 22 [.t 14, .c (.int .i64 40), .c (.int .i64 42)], some (13, false), true⟩,
       ⟨some 16, .pick (.t 13) (.c (.bool true)) (.t 15), none, true⟩,
       ⟨some 10, .assign (.t 16), none, true⟩])
      (.cond (.v 10)
       (.seq (.draw [] [
         ⟨some 17, .idxA 3 1 (.v 3) (.c (.int .i64 0)), none, false⟩,
         ⟨some 18, .load1 (.t 17), none, false⟩,
         ⟨some 19, .addOff (.v 2) 0, none, false⟩,
         ⟨some 20, .addOff (.t 19) 4, none, false⟩,
         ⟨some 21, .load1 (.t 20), none, false⟩,
         ⟨some 22, .conv .u32 (.t 21), none, false⟩,
         ⟨some 23, .bin .add (.t 18) (.t 22), none, false⟩,
         ⟨some 24, .move (.v 6), none, false⟩,
         ⟨some 25, .call 19 [.t 24], none, false⟩,
         ⟨some 4, .assign (.t 23), none, true⟩,
         ⟨some 5, .assign (.t 25), none, true⟩])
        (.ret))
       (.seq (.region [] [
         ⟨some 27, .move (.v 6), none, true⟩,
         ⟨some 28, .bin .eql (.t 27) (.c (.int .i64 39)), none, true⟩,
         ⟨some 29, .move (.t 28), none, true⟩,
         ⟨some 30, .move (.v 6), some (29, false), true⟩,
         ⟨some 31, .call 22 [.t 30, .c (.int .i64 51), .c (.int .i64 53)], some (29, false), true⟩,
         ⟨some 32, .pick (.t 29) (.c (.bool true)) (.t 31), none, true⟩,
         ⟨some 26, .assign (.t 32), none, true⟩])
        (.cond (.v 26)
         (.seq (.draw [] [
           ⟨some 33, .idxA 3 1 (.v 3) (.c (.int .i64 0)), none, false⟩,
           ⟨some 34, .load1 (.t 33), none, false⟩,
           ⟨some 35, .move (.v 6), none, false⟩,
           ⟨some 36, .call 19 [.t 35], none, false⟩,
           ⟨some 4, .assign (.t 34), none, true⟩,
           ⟨some 5, .assign (.t 36), none, true⟩])
          (.ret))
         (.skip))))))
    (.seq (.region [] [
      ⟨some 4, .assign (.c (.int .u32 0)), none, true⟩,
      ⟨some 5, .assign (.c (.int .i64 0)), none, true⟩])
     (.ret))))
def g13 : AFn := { np := 2, keep := [0, 1, 2, 3, 4, 5, 6, 10, 26], res := [.tmp 4, .tmp 5], fresh := true, body := c13 }
/-- cotterel/cotterelref32.Addr -/
def c14 : ACode :=
 .seq (.region [2, 3] [
   ⟨some 2, .box (.v 0), none, true⟩,
   ⟨some 3, .box (.v 1), none, true⟩,
   ⟨some 4, .assign (.c (.int .u32 0)), none, true⟩,
   ⟨some 5, .assign (.c (.int .i64 0)), none, true⟩])
  (.seq (.region [] [
    ⟨some 7, .addOff (.v 2) 0, none, true⟩,
    ⟨some 8, .addOff (.t 7) 0, none, true⟩,
    ⟨some 9, .load1 (.t 8), none, true⟩,
    ⟨some 6, .assign (.t 9), none, true⟩])
   (.seq (.seq (.region [] [
      ⟨some 10, .move (.v 6), none, true⟩,
      ⟨some 11, .bin .geq (.t 10) (.c (.int .i64 34)), none, true⟩,
      ⟨some 12, .move (.t 11), none, true⟩,
      ⟨some 13, .move (.v 6), some (12, true), true⟩,
      ⟨some 14, .bin .leq (.t 13) (.c (.int .i64 38)), some (12, true), true⟩,
      ⟨some 15, .pick (.t 12) (.t 14) (.c (.bool false)), none, true⟩,
      ⟨some 16, .move (.t 15), none, true⟩,
      ⟨some 17, .move (.v 6), some (16, false), true⟩,
      ⟨some 18, .bin .geq (.t 17) (.c (.int .i64 40)), some (16, false), true⟩,
      ⟨some 19, .move (.t 18), some (16, false), true⟩,
      ⟨some 20, .move (.v 6), some (19, true), true⟩,
      ⟨some 21, .bin .leq (.t 20) (.c (.int .i64 42)), some (19, true), true⟩,
      ⟨some 22, .pick (.t 19) (.t 21) (.c (.bool false)), some (16, false), true⟩,
      ⟨some 23, .pick (.t 16) (.c (.bool true)) (.t 22), none, true⟩])
     (.cond (.v 23)
      (.seq (.draw [] [
        ⟨some 24, .idxA 3 1 (.v 3) (.c (.int .i64 0)), none, false⟩,
        ⟨some 25, .load1 (.t 24), none, false⟩,
        ⟨some 26, .addOff (.v 2) 0, none, false⟩,
        ⟨some 27, .addOff (.t 26) 4, none, false⟩,
        ⟨some 28, .load1 (.t 27), none, false⟩,
        ⟨some 29, .conv .u32 (.t 28), none, false⟩,
        ⟨some 30, .bin .add (.t 25) (.t 29), none, false⟩,
        ⟨some 31, .move (.v 6), none, false⟩,
        ⟨some 32, .call 29 [.t 31], none, false⟩,
        ⟨some 4, .assign (.t 30), none, true⟩,
        ⟨some 5, .assign (.t 32), none, true⟩])
       (.ret))
      (.skip)))
    (.seq (.seq (.region [] [
       ⟨some 33, .move (.v 6), none, true⟩,
       ⟨some 34, .bin .eql (.t 33) (.c (.int .i64 39)), none, true⟩,
       ⟨some 35, .move (.t 34), none, true⟩,
       ⟨some 36, .move (.v 6), some (35, false), true⟩,
       ⟨some 37, .bin .geq (.t 36) (.c (.int .i64 51)), some (35, false), true⟩,
       ⟨some 38, .move (.t 37), some (35, false), true⟩,
       ⟨some 39, .move (.v 6), some (38, true), true⟩,
       ⟨some 40, .bin .leq (.t 39) (.c (.int .i64 53)), some (38, true), true⟩,
       ⟨some 41, .pick (.t 38) (.t 40) (.c (.bool false)), some (35, false), true⟩,
       ⟨some 42, .pick (.t 35) (.c (.bool true)) (.t 41), none, true⟩])
      (.cond (.v 42)
       (.seq (.draw [] [
         ⟨some 43, .idxA 3 1 (.v 3) (.c (.int .i64 0)), none, false⟩,
         ⟨some 44, .load1 (.t 43), none, false⟩,
         ⟨some 45, .move (.v 6), none, false⟩,
         ⟨some 46, .call 29 [.t 45], none, false⟩,
         ⟨some 4, .assign (.t 44), none, true⟩,
         ⟨some 5, .assign (.t 46), none, true⟩])
        (.ret))
       (.skip)))
     (.seq (.region [] [
       ⟨some 4, .assign (.c (.int .u32 0)), none, true⟩,
       ⟨some 5, .assign (.c (.int .i64 0)), none, true⟩])
      (.ret)))))
def g14 : AFn := { np := 2, keep := [0, 1, 2, 3, 4, 5, 6, 23, 42], res := [.tmp 4, .tmp 5], fresh := true, body := c14 }
/-- cotterel/exec.Data -/
def c15 : ACode :=
 .seq (.region [2, 3] [
   ⟨some 2, .box (.v 0), none, true⟩,
   ⟨some 3, .box (.v 1), none, true⟩,
   ⟨some 4, .assign (.c (.int .u32 0)), none, true⟩])
  (.seq (.seq (.region [] [
     ⟨some 5, .addOff (.v 2) 0, none, true⟩,
     ⟨some 6, .addOff (.t 5) 0, none, true⟩,
     ⟨some 7, .load1 (.t 6), none, true⟩,
     ⟨some 8, .call 22 [.t 7, .c (.int .i64 40), .c (.int .i64 42)], none, true⟩,
     ⟨some 9, .un .not (.t 8), none, true⟩])
    (.cond (.v 9)
     (.seq (.region [] [
       ⟨some 4, .assign (.c (.int .u32 0)), none, true⟩])
      (.ret))
     (.skip)))
   (.seq (.draw [] [
     ⟨some 10, .idxA 3 1 (.v 3) (.c (.int .i64 1)), none, false⟩,
     ⟨some 11, .load1 (.t 10), none, false⟩,
     ⟨some 12, .addOff (.v 2) 0, none, false⟩,
     ⟨some 13, .addOff (.t 12) 0, none, false⟩,
     ⟨some 14, .load1 (.t 13), none, false⟩,
     ⟨some 15, .call 19 [.t 14], none, false⟩,
     ⟨some 16, .bin .mul (.c (.int .i64 8)) (.t 15), none, false⟩,
     ⟨some 17, .call 30 [.t 11, .t 16], none, true⟩,
     ⟨some 4, .assign (.t 17), none, true⟩])
    (.ret)))
def g15 : AFn := { np := 2, keep := [0, 1, 2, 3, 4, 9], res := [.tmp 4], fresh := true, body := c15 }
/-- cotterel/cotterelref32.Data -/
def c16 : ACode :=
 .seq (.region [2, 3] [
   ⟨some 2, .box (.v 0), none, true⟩,
   ⟨some 3, .box (.v 1), none, true⟩,
   ⟨some 4, .assign (.c (.int .u32 0)), none, true⟩])
  (.seq (.region [] [
    ⟨some 6, .addOff (.v 2) 0, none, true⟩,
    ⟨some 7, .addOff (.t 6) 0, none, true⟩,
    ⟨some 8, .load1 (.t 7), none, true⟩,
    ⟨some 5, .assign (.t 8), none, true⟩])
   (.seq (.seq (.region [] [
      ⟨some 9, .move (.v 5), none, true⟩,
      ⟨some 10, .bin .lss (.t 9) (.c (.int .i64 40)), none, true⟩,
      ⟨some 11, .move (.t 10), none, true⟩,
      ⟨some 12, .move (.v 5), some (11, false), true⟩,
      ⟨some 13, .bin .gtr (.t 12) (.c (.int .i64 42)), some (11, false), true⟩,
      ⟨some 14, .pick (.t 11) (.c (.bool true)) (.t 13), none, true⟩])
     (.cond (.v 14)
      (.seq (.region [] [
        ⟨some 4, .assign (.c (.int .u32 0)), none, true⟩])
       (.ret))
      (.skip)))
    (.seq (.draw [] [
      ⟨some 15, .idxA 3 1 (.v 3) (.c (.int .i64 1)), none, false⟩,
      ⟨some 16, .load1 (.t 15), none, false⟩,
      ⟨some 17, .move (.v 5), none, false⟩,
      ⟨some 18, .call 29 [.t 17], none, false⟩,
      ⟨some 19, .bin .mul (.c (.int .i64 8)) (.t 18), none, false⟩,
      ⟨some 20, .call 31 [.t 16, .t 19], none, true⟩,
      ⟨some 4, .assign (.t 20), none, true⟩])
     (.ret))))
def g16 : AFn := { np := 2, keep := [0, 1, 2, 3, 4, 5, 14], res := [.tmp 4], fresh := true, body := c16 }
/-- cotterel/exec.Ext -/
def c17 : ACode :=
 .seq (.region [] [
   ⟨some 4, .assign (.c (.int .u32 0)), none, true⟩])
  (.seq (.seq (.region [] [
     ⟨some 5, .move (.v 0), none, true⟩])
    (.block 0 (.seq (.region [] [
       ⟨some 7, .bin .eql (.v 5) (.c (.int .i64 34)), none, true⟩,
       ⟨some 6, .assign (.t 7), none, true⟩])
      (.cond (.v 6)
       (.seq (.region [] [
         ⟨some 8, .move (.v 1), none, true⟩,
         ⟨some 9, .call 32 [.t 8, .c (.int .i64 8)], none, true⟩,
         ⟨some 4, .assign (.t 9), none, true⟩])
        (.ret))
       (.seq (.region [] [
         ⟨some 11, .bin .eql (.v 5) (.c (.int .i64 36)), none, true⟩,
         ⟨some 10, .assign (.t 11), none, true⟩])
        (.cond (.v 10)
         (.seq (.region [] [
           ⟨some 12, .move (.v 1), none, true⟩,
           ⟨some 13, .call 32 [.t 12, .c (.int .i64 16)], none, true⟩,
           ⟨some 4, .assign (.t 13), none, true⟩])
          (.ret))
         (.seq (.region [] [
           ⟨some 15, .bin .eql (.v 5) (.c (.int .i64 35)), none, true⟩,
           ⟨some 14, .assign (.t 15), none, true⟩])
          (.cond (.v 14)
           (.seq (.region [] [
             ⟨some 16, .move (.v 1), none, true⟩,
             ⟨some 17, .call 30 [.t 16, .c (.int .i64 8)], none, true⟩,
             ⟨some 4, .assign (.t 17), none, true⟩])
            (.ret))
           (.seq (.region [] [
             ⟨some 19, .bin .eql (.v 5) (.c (.int .i64 37)), none, true⟩,
             ⟨some 18, .assign (.t 19), none, true⟩])
            (.cond (.v 18)
             (.seq (.region [] [
               ⟨some 20, .move (.v 1), none, true⟩,
               ⟨some 21, .call 30 [.t 20, .c (.int .i64 16)], none, true⟩,
               ⟨some 4, .assign (.t 21), none, true⟩])
              (.ret))
             (.skip)))))))))))
   (.seq (.region [] [
     ⟨some 22, .move (.v 1), none, true⟩,
     ⟨some 4, .assign (.t 22), none, true⟩])
    (.ret)))
def g17 : AFn := { np := 2, keep := [0, 1, 4, 5, 6, 10, 14, 18], res := [.tmp 4], fresh := true, body := c17 }
/-- cotterel/cotterelref32.Ext -/
def c18 : ACode :=
 .seq (.region [] [
   ⟨some 4, .assign (.c (.int .u32 0)), none, true⟩])
  (.seq (.seq (.region [] [
     ⟨some 5, .move (.v 0), none, true⟩])
    (.block 0 (.seq (.region [] [
       ⟨some 7, .bin .eql (.v 5) (.c (.int .i64 34)), none, true⟩,
       ⟨some 6, .assign (.t 7), none, true⟩])
      (.cond (.v 6)
       (.seq (.region [] [
         ⟨some 8, .move (.v 1), none, true⟩,
         ⟨some 9, .call 33 [.t 8, .c (.int .i64 8)], none, true⟩,
         ⟨some 4, .assign (.t 9), none, true⟩])
        (.ret))
       (.seq (.region [] [
         ⟨some 11, .bin .eql (.v 5) (.c (.int .i64 35)), none, true⟩,
         ⟨some 10, .assign (.t 11), none, true⟩])
        (.cond (.v 10)
         (.seq (.region [] [
           ⟨some 12, .move (.v 1), none, true⟩,
           ⟨some 13, .call 31 [.t 12, .c (.int .i64 8)], none, true⟩,
           ⟨some 4, .assign (.t 13), none, true⟩])
          (.ret))
         (.seq (.region [] [
           ⟨some 15, .bin .eql (.v 5) (.c (.int .i64 36)), none, true⟩,
           ⟨some 14, .assign (.t 15), none, true⟩])
          (.cond (.v 14)
           (.seq (.region [] [
             ⟨some 16, .move (.v 1), none, true⟩,
             ⟨some 17, .call 33 [.t 16, .c (.int .i64 16)], none, true⟩,
             ⟨some 4, .assign (.t 17), none, true⟩])
            (.ret))
           (.seq (.region [] [
             ⟨some 19, .bin .eql (.v 5) (.c (.int .i64 37)), none, true⟩,
             ⟨some 18, .assign (.t 19), none, true⟩])
            (.cond (.v 18)
             (.seq (.region [] [
               ⟨some 20, .move (.v 1), none, true⟩,
               ⟨some 21, .call 31 [.t 20, .c (.int .i64 16)], none, true⟩,
               ⟨some 4, .assign (.t 21), none, true⟩])
              (.ret))
             (.skip)))))))))))
   (.seq (.region [] [
     ⟨some 22, .move (.v 1), none, true⟩,
     ⟨some 4, .assign (.t 22), none, true⟩])
    (.ret)))
def g18 : AFn := { np := 2, keep := [0, 1, 4, 5, 6, 10, 14, 18], res := [.tmp 4], fresh := true, body := c18 }
/-- cotterel/crack.Size -/
def c19 : ACode :=
 .seq (.region [] [
   ⟨some 2, .assign (.c (.int .i64 0)), none, true⟩])
  (.seq (.seq (.region [] [
     ⟨some 3, .move (.v 0), none, true⟩])
    (.block 0 (.seq (.seq (.region [] [
        ⟨some 5, .bin .eql (.v 3) (.c (.int .i64 34)), none, true⟩,
        ⟨some 4, .assign (.t 5), none, true⟩])
       (.cond (.v 4)
        (.skip)
        (.seq (.region [] [
          ⟨some 6, .bin .eql (.v 3) (.c (.int .i64 35)), none, true⟩,
          ⟨some 4, .assign (.t 6), none, true⟩])
         (.cond (.v 4)
          (.skip)
          (.region [] [
           ⟨some 7, .bin .eql (.v 3) (.c (.int .i64 40)), none, true⟩,
           ⟨some 4, .assign (.t 7), none, true⟩])))))
      (.cond (.v 4)
       (.seq (.region [] [
         ⟨some 2, .assign (.c (.int .i64 1)), none, true⟩])
        (.ret))
       (.seq (.seq (.region [] [
          ⟨some 9, .bin .eql (.v 3) (.c (.int .i64 36)), none, true⟩,
          ⟨some 8, .assign (.t 9), none, true⟩])
         (.cond (.v 8)
          (.skip)
          (.seq (.region [] [
            ⟨some 10, .bin .eql (.v 3) (.c (.int .i64 37)), none, true⟩,
            ⟨some 8, .assign (.t 10), none, true⟩])
           (.cond (.v 8)
            (.skip)
            (.region [] [
             ⟨some 11, .bin .eql (.v 3) (.c (.int .i64 41)), none, true⟩,
             ⟨some 8, .assign (.t 11), none, true⟩])))))
        (.cond (.v 8)
         (.seq (.region [] [
           ⟨some 2, .assign (.c (.int .i64 2)), none, true⟩])
          (.ret))
         (.seq (.seq (.region [] [
            ⟨some 13, .bin .eql (.v 3) (.c (.int .i64 38)), none, true⟩,
            ⟨some 12, .assign (.t 13), none, true⟩])
           (.cond (.v 12)
            (.skip)
            (.seq (.region [] [
              ⟨some 14, .bin .eql (.v 3) (.c (.int .i64 39)), none, true⟩,
              ⟨some 12, .assign (.t 14), none, true⟩])
             (.cond (.v 12)
              (.skip)
              (.seq (.region [] [
                ⟨some 15, .bin .eql (.v 3) (.c (.int .i64 42)), none, true⟩,
                ⟨some 12, .assign (.t 15), none, true⟩])
               (.cond (.v 12)
                (.skip)
                (.seq (.region [] [
                  ⟨some 16, .bin .eql (.v 3) (.c (.int .i64 51)), none, true⟩,
                  ⟨some 12, .assign (.t 16), none, true⟩])
                 (.cond (.v 12)
                  (.skip)
                  (.seq (.region [] [
                    ⟨some 17, .bin .eql (.v 3) (.c (.int .i64 52)), none, true⟩,
                    ⟨some 12, .assign (.t 17), none, true⟩])
                   (.cond (.v 12)
                    (.skip)
                    (.region [] [
                     ⟨some 18, .bin .eql (.v 3) (.c (.int .i64 53)), none, true⟩,
                     ⟨some 12, .assign (.t 18), none, true⟩])))))))))))
          (.cond (.v 12)
           (.seq (.region [] [
             ⟨some 2, .assign (.c (.int .i64 4)), none, true⟩])
            (.ret))
           (.skip)))))))))
   (.seq (.region [] [
     ⟨some 2, .assign (.c (.int .i64 0)), none, true⟩])
    (.ret)))
def g19 : AFn := { np := 1, keep := [0, 2, 3, 4, 8, 12], res := [.tmp 2], fresh := true, body := c19 }
/-- cotterel/crack.Unit -/
def c20 : ACode :=
 .seq (.region [] [
   ⟨some 2, .assign (.c (.int .i64 0)), none, true⟩])
  (.seq (.block 0 (.seq (.region [] [
      ⟨some 4, .move (.v 0), none, true⟩,
      ⟨some 5, .bin .lss (.t 4) (.c (.int .i64 1)), none, true⟩,
      ⟨some 6, .move (.t 5), none, true⟩,
      ⟨some 7, .move (.v 0), some (6, false), true⟩,
      ⟨some 8, .bin .gtr (.t 7) (.c (.int .i64 63)), some (6, false), true⟩,
      ⟨some 9, .pick (.t 6) (.c (.bool true)) (.t 8), none, true⟩,
      ⟨some 3, .assign (.t 9), none, true⟩])
     (.cond (.v 3)
      (.seq (.region [] [
        ⟨some 2, .assign (.c (.int .i64 0)), none, true⟩])
       (.ret))
      (.seq (.region [] [
        ⟨some 11, .move (.v 0), none, true⟩,
        ⟨some 12, .bin .geq (.t 11) (.c (.int .i64 11)), none, true⟩,
        ⟨some 13, .move (.t 12), none, true⟩,
        ⟨some 14, .move (.v 0), some (13, true), true⟩,
        ⟨some 15, .bin .leq (.t 14) (.c (.int .i64 13)), some (13, true), true⟩,
        ⟨some 16, .pick (.t 13) (.t 15) (.c (.bool false)), none, true⟩,
        ⟨some 10, .assign (.t 16), none, true⟩])
       (.cond (.v 10)
        (.seq (.region [] [
          ⟨some 2, .assign (.c (.int .i64 2)), none, true⟩])
         (.ret))
        (.seq (.region [] [
          ⟨some 18, .move (.v 0), none, true⟩,
          ⟨some 19, .bin .geq (.t 18) (.c (.int .i64 14)), none, true⟩,
          ⟨some 20, .move (.t 19), none, true⟩,
          ⟨some 21, .move (.v 0), some (20, true), true⟩,
          ⟨some 22, .bin .leq (.t 21) (.c (.int .i64 17)), some (20, true), true⟩,
          ⟨some 23, .pick (.t 20) (.t 22) (.c (.bool false)), none, true⟩,
          ⟨some 17, .assign (.t 23), none, true⟩])
         (.cond (.v 17)
          (.seq (.region [] [
            ⟨some 2, .assign (.c (.int .i64 3)), none, true⟩])
           (.ret))
          (.seq (.region [] [
            ⟨some 25, .move (.v 0), none, true⟩,
            ⟨some 26, .bin .geq (.t 25) (.c (.int .i64 34)), none, true⟩,
            ⟨some 27, .move (.t 26), none, true⟩,
            ⟨some 28, .move (.v 0), some (27, true), true⟩,
            ⟨some 29, .bin .leq (.t 28) (.c (.int .i64 39)), some (27, true), true⟩,
            ⟨some 30, .pick (.t 27) (.t 29) (.c (.bool false)), none, true⟩,
            ⟨some 24, .assign (.t 30), none, true⟩])
           (.cond (.v 24)
            (.seq (.region [] [
              ⟨some 2, .assign (.c (.int .i64 5)), none, true⟩])
             (.ret))
            (.seq (.region [] [
              ⟨some 32, .move (.v 0), none, true⟩,
              ⟨some 33, .bin .geq (.t 32) (.c (.int .i64 40)), none, true⟩,
              ⟨some 34, .move (.t 33), none, true⟩,
              ⟨some 35, .move (.v 0), some (34, true), true⟩,
              ⟨some 36, .bin .leq (.t 35) (.c (.int .i64 42)), some (34, true), true⟩,
              ⟨some 37, .pick (.t 34) (.t 36) (.c (.bool false)), none, true⟩,
              ⟨some 31, .assign (.t 37), none, true⟩])
             (.cond (.v 31)
              (.seq (.region [] [
                ⟨some 2, .assign (.c (.int .i64 6)), none, true⟩])
               (.ret))
              (.seq (.region [] [
                ⟨some 39, .move (.v 0), none, true⟩,
                ⟨some 40, .bin .geq (.t 39) (.c (.int .i64 43)), none, true⟩,
                ⟨some 41, .move (.t 40), none, true⟩,
                ⟨some 42, .move (.v 0), some (41, true), true⟩,
                ⟨some 43, .bin .leq (.t 42) (.c (.int .i64 50)), some (41, true), true⟩,
                ⟨some 44, .pick (.t 41) (.t 43) (.c (.bool false)), none, true⟩,
                ⟨some 38, .assign (.t 44), none, true⟩])
               (.cond (.v 38)
                (.seq (.region [] [
                  ⟨some 2, .assign (.c (.int .i64 4)), none, true⟩])
                 (.ret))
                (.seq (.region [] [
                  ⟨some 46, .move (.v 0), none, true⟩,
                  ⟨some 47, .call 34 [.t 46], none, true⟩,
                  ⟨some 45, .assign (.t 47), none, true⟩])
                 (.cond (.v 45)
                  (.seq (.region [] [
                    ⟨some 2, .assign (.c (.int .i64 7)), none, true⟩])
                   (.ret))
                  (.skip))))))))))))))))
   (.seq (.region [] [
     ⟨some 2, .assign (.c (.int .i64 1)), none, true⟩])
    (.ret)))
def g20 : AFn := { np := 1, keep := [0, 2, 3, 10, 17, 24, 31, 38, 45], res := [.tmp 2], fresh := true, body := c20 }
/-- cotterel/exec.behind -/
def c21 : ACode :=
 .seq (.region [1] [
   ⟨some 1, .box (.v 0), none, true⟩,
   ⟨some 2, .assign (.c (.int .u32 0)), none, true⟩])
  (.seq (.region [] [
    ⟨some 3, .addOff (.v 1) 5, none, true⟩,
    ⟨some 4, .addOff (.t 3) 0, none, true⟩,
    ⟨some 5, .load1 (.t 4), none, true⟩,
    ⟨some 6, .bin .add (.t 5) (.c (.int .u32 4)), none, true⟩,
    ⟨some 2, .assign (.t 6), none, true⟩])
   (.ret))
def g21 : AFn := { np := 1, keep := [0, 1, 2], res := [.tmp 2], fresh := true, body := c21 }
/-- cotterel/exec.between -/
def c22 : ACode :=
 .seq (.region [] [
   ⟨some 6, .assign (.c (.bool false)), none, true⟩])
  (.seq (.region [] [
    ⟨some 7, .move (.v 0), none, true⟩,
    ⟨some 8, .move (.v 1), none, true⟩,
    ⟨some 9, .bin .geq (.t 7) (.t 8), none, true⟩,
    ⟨some 10, .move (.t 9), none, true⟩,
    ⟨some 11, .move (.v 0), some (10, true), true⟩,
    ⟨some 12, .move (.v 2), some (10, true), true⟩,
    ⟨some 13, .bin .leq (.t 11) (.t 12), some (10, true), true⟩,
    ⟨some 14, .pick (.t 10) (.t 13) (.c (.bool false)), none, true⟩,
    ⟨some 6, .assign (.t 14), none, true⟩])
   (.ret))
def g22 : AFn := { np := 3, keep := [0, 1, 2, 6], res := [.tmp 6], fresh := true, body := c22 }
/-- cotterel/exec.two -/
def c23 : ACode :=
 .seq (.region [] [
   ⟨some 6, .assign (.c (.int .u32 0)), none, true⟩])
  (.seq (.seq (.region [] [
     ⟨some 14, .move (.v 0), none, true⟩,
     ⟨some 15, .move (.v 1), none, true⟩,
     ⟨some 16, .move (.v 2), none, true⟩,
     ⟨some 17, .call 35 [.t 14, .t 15, .t 16], none, true⟩,
     ⟨some 13, .move (.t 17), none, true⟩,
     ⟨some 18, .extract (.t 13) 0, none, true⟩,
     ⟨some 19, .extract (.t 13) 1, none, true⟩,
     ⟨some 7, .assign (.t 18), none, true⟩,
     ⟨some 8, .assign (.t 19), none, true⟩])
    (.seq (.region [] [
      ⟨some 20, .move (.v 8), none, true⟩])
     (.cond (.v 20)
      (.seq (.region [] [
        ⟨some 21, .move (.v 7), none, true⟩,
        ⟨some 6, .assign (.t 21), none, true⟩])
       (.ret))
      (.skip))))
   (.seq (.seq (.region [] [
      ⟨some 23, .move (.v 0), none, true⟩,
      ⟨some 24, .move (.v 1), none, true⟩,
      ⟨some 25, .move (.v 2), none, true⟩,
      ⟨some 26, .call 36 [.t 23, .t 24, .t 25], none, true⟩,
      ⟨some 22, .move (.t 26), none, true⟩,
      ⟨some 27, .extract (.t 22) 0, none, true⟩,
      ⟨some 28, .extract (.t 22) 1, none, true⟩,
      ⟨some 9, .assign (.t 27), none, true⟩,
      ⟨some 10, .assign (.t 28), none, true⟩])
     (.seq (.region [] [
       ⟨some 29, .move (.v 10), none, true⟩])
      (.cond (.v 29)
       (.seq (.region [] [
         ⟨some 30, .move (.v 9), none, true⟩,
         ⟨some 6, .assign (.t 30), none, true⟩])
        (.ret))
       (.skip))))
    (.seq (.region [] [
      ⟨some 32, .move (.v 0), none, true⟩,
      ⟨some 33, .move (.v 1), none, true⟩,
      ⟨some 34, .move (.v 2), none, true⟩,
      ⟨some 35, .call 37 [.t 32, .t 33, .t 34], none, true⟩,
      ⟨some 31, .move (.t 35), none, true⟩,
      ⟨some 36, .extract (.t 31) 0, none, true⟩,
      ⟨some 37, .extract (.t 31) 1, none, true⟩,
      ⟨some 11, .assign (.t 36), none, true⟩,
      ⟨some 12, .assign (.t 37), none, true⟩])
     (.seq (.region [] [
       ⟨some 38, .move (.v 11), none, true⟩,
       ⟨some 6, .assign (.t 38), none, true⟩])
      (.ret)))))
def g23 : AFn := { np := 3, keep := [0, 1, 2, 6, 7, 8, 9, 10, 11, 20, 29], res := [.tmp 6], fresh := true, body := c23 }
/-- cotterel/alu.Cmov -/
def c24 : ACode :=
 .seq (.region [] [
   ⟨some 6, .assign (.c (.int .u32 0)), none, true⟩])
  (.seq (.seq (.region [] [
     ⟨some 7, .move (.v 2), none, true⟩,
     ⟨some 8, .bin .neq (.t 7) (.c (.int .u32 0)), none, true⟩])
    (.cond (.v 8)
     (.seq (.region [] [
       ⟨some 9, .move (.v 1), none, true⟩,
       ⟨some 6, .assign (.t 9), none, true⟩])
      (.ret))
     (.skip)))
   (.seq (.region [] [
     ⟨some 10, .move (.v 0), none, true⟩,
     ⟨some 6, .assign (.t 10), none, true⟩])
    (.ret)))
def g24 : AFn := { np := 3, keep := [0, 1, 2, 6, 8], res := [.tmp 6], fresh := true, body := c24 }
/-- cotterel/alu.Taken -/
def c25 : ACode :=
 .seq (.region [] [
   ⟨some 6, .assign (.c (.bool false)), none, true⟩])
  (.seq (.seq (.region [] [
     ⟨some 7, .move (.v 0), none, true⟩])
    (.block 0 (.seq (.region [] [
       ⟨some 9, .bin .eql (.v 7) (.c (.int .i64 43)), none, true⟩,
       ⟨some 8, .assign (.t 9), none, true⟩])
      (.cond (.v 8)
       (.seq (.region [] [
         ⟨some 10, .move (.v 1), none, true⟩,
         ⟨some 11, .move (.v 2), none, true⟩,
         ⟨some 12, .bin .eql (.t 10) (.t 11), none, true⟩,
         ⟨some 6, .assign (.t 12), none, true⟩])
        (.ret))
       (.seq (.region [] [
         ⟨some 14, .bin .eql (.v 7) (.c (.int .i64 44)), none, true⟩,
         ⟨some 13, .assign (.t 14), none, true⟩])
        (.cond (.v 13)
         (.seq (.region [] [
           ⟨some 15, .move (.v 1), none, true⟩,
           ⟨some 16, .move (.v 2), none, true⟩,
           ⟨some 17, .bin .neq (.t 15) (.t 16), none, true⟩,
           ⟨some 6, .assign (.t 17), none, true⟩])
          (.ret))
         (.seq (.region [] [
           ⟨some 19, .bin .eql (.v 7) (.c (.int .i64 45)), none, true⟩,
           ⟨some 18, .assign (.t 19), none, true⟩])
          (.cond (.v 18)
           (.seq (.region [] [
             ⟨some 20, .move (.v 1), none, true⟩,
             ⟨some 21, .conv .i32 (.t 20), none, true⟩,
             ⟨some 22, .move (.v 2), none, true⟩,
             ⟨some 23, .conv .i32 (.t 22), none, true⟩,
             ⟨some 24, .bin .lss (.t 21) (.t 23), none, true⟩,
             ⟨some 6, .assign (.t 24), none, true⟩])
            (.ret))
           (.seq (.region [] [
             ⟨some 26, .bin .eql (.v 7) (.c (.int .i64 46)), none, true⟩,
             ⟨some 25, .assign (.t 26), none, true⟩])
            (.cond (.v 25)
             (.seq (.region [] [
               ⟨some 27, .move (.v 1), none, true⟩,
               ⟨some 28, .conv .i32 (.t 27), none, true⟩,
               ⟨some 29, .move (.v 2), none, true⟩,
               ⟨some 30, .conv .i32 (.t 29), none, true⟩,
               ⟨some 31, .bin .geq (.t 28) (.t 30), none, true⟩,
               ⟨some 6, .assign (.t 31), none, true⟩])
              (.ret))
             (.seq (.region [] [
               ⟨some 33, .bin .eql (.v 7) (.c (.int .i64 47)), none, true⟩,
               ⟨some 32, .assign (.t 33), none, true⟩])
              (.cond (.v 32)
               (.seq (.region [] [
                 ⟨some 34, .move (.v 1), none, true⟩,
                 ⟨some 35, .move (.v 2), none, true⟩,
                 ⟨some 36, .bin .lss (.t 34) (.t 35), none, true⟩,
                 ⟨some 6, .assign (.t 36), none, true⟩])
                (.ret))
               (.seq (.region [] [
                 ⟨some 38, .bin .eql (.v 7) (.c (.int .i64 48)), none, true⟩,
                 ⟨some 37, .assign (.t 38), none, true⟩])
                (.cond (.v 37)
                 (.seq (.region [] [
                   ⟨some 39, .move (.v 1), none, true⟩,
                   ⟨some 40, .move (.v 2), none, true⟩,
                   ⟨some 41, .bin .geq (.t 39) (.t 40), none, true⟩,
                   ⟨some 6, .assign (.t 41), none, true⟩])
                  (.ret))
                 (.skip)))))))))))))))
   (.seq (.region [] [
     ⟨some 6, .assign (.c (.bool false)), none, true⟩])
    (.ret)))
def g25 : AFn := { np := 3, keep := [0, 1, 2, 6, 7, 8, 13, 18, 25, 32, 37], res := [.tmp 6], fresh := true, body := c25 }
/-- cotterel/exec.ahead -/
def c26 : ACode :=
 .seq (.region [1] [
   ⟨some 1, .box (.v 0), none, true⟩,
   ⟨some 2, .assign (.c (.int .u32 0)), none, true⟩])
  (.seq (.region [] [
    ⟨some 3, .addOff (.v 1) 5, none, true⟩,
    ⟨some 4, .addOff (.t 3) 0, none, true⟩,
    ⟨some 5, .load1 (.t 4), none, true⟩,
    ⟨some 6, .addOff (.v 1) 0, none, true⟩,
    ⟨some 7, .addOff (.t 6) 4, none, true⟩,
    ⟨some 8, .load1 (.t 7), none, true⟩,
    ⟨some 9, .conv .u32 (.t 8), none, true⟩,
    ⟨some 10, .bin .mul (.c (.int .u32 4)) (.t 9), none, true⟩,
    ⟨some 11, .bin .add (.t 5) (.t 10), none, true⟩,
    ⟨some 2, .assign (.t 11), none, true⟩])
   (.ret))
def g26 : AFn := { np := 1, keep := [0, 1, 2], res := [.tmp 2], fresh := true, body := c26 }
/-- cotterel/cotterelref32.value -/
def c27 : ACode :=
 .seq (.region [2, 3] [
   ⟨some 2, .box (.v 0), none, true⟩,
   ⟨some 3, .box (.v 1), none, true⟩,
   ⟨some 4, .assign (.c (.int .u32 0)), none, true⟩])
  (.seq (.region [] [
    ⟨some 7, .idxA 3 1 (.v 3) (.c (.int .i64 1)), none, true⟩,
    ⟨some 8, .load1 (.t 7), none, true⟩,
    ⟨some 5, .assign (.t 8), none, true⟩])
   (.seq (.seq (.region [] [
      ⟨some 9, .addOff (.v 2) 0, none, true⟩,
      ⟨some 10, .load1 (.t 9), none, true⟩,
      ⟨some 11, .bin .geq (.t 10) (.c (.int .i64 25)), none, true⟩])
     (.cond (.v 11)
      (.region [] [
       ⟨some 12, .addOff (.v 2) 4, none, true⟩,
       ⟨some 13, .load1 (.t 12), none, true⟩,
       ⟨some 14, .conv .u32 (.t 13), none, true⟩,
       ⟨some 5, .assign (.t 14), none, true⟩])
      (.skip)))
    (.seq (.region [] [
      ⟨some 6, .assign (.c (.int .u32 0)), none, true⟩])
     (.seq (.block 0 (.seq (.region [] [
         ⟨some 25, .addOff (.v 2) 0, none, true⟩,
         ⟨some 26, .load1 (.t 25), none, true⟩,
         ⟨some 27, .bin .geq (.t 26) (.c (.int .i64 11)), none, true⟩,
         ⟨some 28, .move (.t 27), none, true⟩,
         ⟨some 29, .addOff (.v 2) 0, some (28, true), true⟩,
         ⟨some 30, .load1 (.t 29), some (28, true), true⟩,
         ⟨some 31, .bin .leq (.t 30) (.c (.int .i64 13)), some (28, true), true⟩,
         ⟨some 32, .pick (.t 28) (.t 31) (.c (.bool false)), none, true⟩,
         ⟨some 24, .assign (.t 32), none, true⟩])
        (.cond (.v 24)
         (.region [] [
          ⟨some 34, .addOff (.v 2) 0, none, true⟩,
          ⟨some 35, .load1 (.t 34), none, true⟩,
          ⟨some 36, .idxA 3 1 (.v 3) (.c (.int .i64 0)), none, true⟩,
          ⟨some 37, .load1 (.t 36), none, true⟩,
          ⟨some 38, .move (.v 5), none, true⟩,
          ⟨some 39, .call 38 [.t 35, .t 37, .t 38], none, true⟩,
          ⟨some 33, .move (.t 39), none, true⟩,
          ⟨some 40, .extract (.t 33) 0, none, true⟩,
          ⟨some 41, .extract (.t 33) 1, none, true⟩,
          ⟨some 6, .assign (.t 40), none, true⟩])
         (.seq (.region [] [
           ⟨some 43, .addOff (.v 2) 0, none, true⟩,
           ⟨some 44, .load1 (.t 43), none, true⟩,
           ⟨some 45, .bin .geq (.t 44) (.c (.int .i64 14)), none, true⟩,
           ⟨some 46, .move (.t 45), none, true⟩,
           ⟨some 47, .addOff (.v 2) 0, some (46, true), true⟩,
           ⟨some 48, .load1 (.t 47), some (46, true), true⟩,
           ⟨some 49, .bin .leq (.t 48) (.c (.int .i64 17)), some (46, true), true⟩,
           ⟨some 50, .pick (.t 46) (.t 49) (.c (.bool false)), none, true⟩,
           ⟨some 42, .assign (.t 50), none, true⟩])
          (.cond (.v 42)
           (.region [] [
            ⟨some 52, .addOff (.v 2) 0, none, true⟩,
            ⟨some 53, .load1 (.t 52), none, true⟩,
            ⟨some 54, .idxA 3 1 (.v 3) (.c (.int .i64 0)), none, true⟩,
            ⟨some 55, .load1 (.t 54), none, true⟩,
            ⟨some 56, .move (.v 5), none, true⟩,
            ⟨some 57, .call 39 [.t 53, .t 55, .t 56], none, true⟩,
            ⟨some 51, .move (.t 57), none, true⟩,
            ⟨some 58, .extract (.t 51) 0, none, true⟩,
            ⟨some 59, .extract (.t 51) 1, none, true⟩,
            ⟨some 6, .assign (.t 58), none, true⟩])
           (.seq (.region [] [
             ⟨some 61, .addOff (.v 2) 0, none, true⟩,
             ⟨some 62, .load1 (.t 61), none, true⟩,
             ⟨some 63, .bin .eql (.t 62) (.c (.int .i64 24)), none, true⟩,
             ⟨some 60, .assign (.t 63), none, true⟩])
            (.cond (.v 60)
             (.region [] [
              ⟨some 64, .idxA 3 1 (.v 3) (.c (.int .i64 2)), none, true⟩,
              ⟨some 65, .load1 (.t 64), none, true⟩,
              ⟨some 66, .idxA 3 1 (.v 3) (.c (.int .i64 0)), none, true⟩,
              ⟨some 67, .load1 (.t 66), none, true⟩,
              ⟨some 68, .move (.v 5), none, true⟩,
              ⟨some 69, .call 40 [.t 65, .t 67, .t 68], none, true⟩,
              ⟨some 6, .assign (.t 69), none, true⟩])
             (.region [] [
              ⟨some 16, .addOff (.v 2) 0, none, true⟩,
              ⟨some 17, .load1 (.t 16), none, true⟩,
              ⟨some 18, .idxA 3 1 (.v 3) (.c (.int .i64 0)), none, true⟩,
              ⟨some 19, .load1 (.t 18), none, true⟩,
              ⟨some 20, .move (.v 5), none, true⟩,
              ⟨some 21, .call 41 [.t 17, .t 19, .t 20], none, true⟩,
              ⟨some 15, .move (.t 21), none, true⟩,
              ⟨some 22, .extract (.t 15) 0, none, true⟩,
              ⟨some 23, .extract (.t 15) 1, none, true⟩,
              ⟨some 6, .assign (.t 22), none, true⟩]))))))))
      (.seq (.region [] [
        ⟨some 70, .move (.v 6), none, true⟩,
        ⟨some 4, .assign (.t 70), none, true⟩])
       (.ret))))))
def g27 : AFn := { np := 2, keep := [0, 1, 2, 3, 4, 5, 6, 11, 24, 42, 60], res := [.tmp 4], fresh := true, body := c27 }
/-- cotterel/cotterelref03.Taken -/
def c28 : ACode :=
 .seq (.region [] [
   ⟨some 6, .assign (.c (.bool false)), none, true⟩])
  (.seq (.seq (.region [] [
     ⟨some 7, .move (.v 0), none, true⟩])
    (.block 0 (.seq (.region [] [
       ⟨some 9, .bin .eql (.v 7) (.c (.int .i64 43)), none, true⟩,
       ⟨some 8, .assign (.t 9), none, true⟩])
      (.cond (.v 8)
       (.seq (.region [] [
         ⟨some 10, .move (.v 1), none, true⟩,
         ⟨some 11, .move (.v 2), none, true⟩,
         ⟨some 12, .bin .eql (.t 10) (.t 11), none, true⟩,
         ⟨some 6, .assign (.t 12), none, true⟩])
        (.ret))
       (.seq (.region [] [
         ⟨some 14, .bin .eql (.v 7) (.c (.int .i64 44)), none, true⟩,
         ⟨some 13, .assign (.t 14), none, true⟩])
        (.cond (.v 13)
         (.seq (.region [] [
           ⟨some 15, .move (.v 1), none, true⟩,
           ⟨some 16, .move (.v 2), none, true⟩,
           ⟨some 17, .bin .neq (.t 15) (.t 16), none, true⟩,
           ⟨some 6, .assign (.t 17), none, true⟩])
          (.ret))
         (.seq (.region [] [
           ⟨some 19, .bin .eql (.v 7) (.c (.int .i64 45)), none, true⟩,
           ⟨some 18, .assign (.t 19), none, true⟩])
          (.cond (.v 18)
           (.seq (.region [] [
             ⟨some 20, .move (.v 1), none, true⟩,
             ⟨some 21, .call 42 [.t 20], none, true⟩,
             ⟨some 22, .move (.v 2), none, true⟩,
             ⟨some 23, .call 42 [.t 22], none, true⟩,
             ⟨some 24, .bin .lss (.t 21) (.t 23), none, true⟩,
             ⟨some 6, .assign (.t 24), none, true⟩])
            (.ret))
           (.seq (.region [] [
             ⟨some 26, .bin .eql (.v 7) (.c (.int .i64 46)), none, true⟩,
             ⟨some 25, .assign (.t 26), none, true⟩])
            (.cond (.v 25)
             (.seq (.region [] [
               ⟨some 27, .move (.v 1), none, true⟩,
               ⟨some 28, .call 42 [.t 27], none, true⟩,
               ⟨some 29, .move (.v 2), none, true⟩,
               ⟨some 30, .call 42 [.t 29], none, true⟩,
               ⟨some 31, .bin .geq (.t 28) (.t 30), none, true⟩,
               ⟨some 6, .assign (.t 31), none, true⟩])
              (.ret))
             (.seq (.region [] [
               ⟨some 33, .bin .eql (.v 7) (.c (.int .i64 47)), none, true⟩,
               ⟨some 32, .assign (.t 33), none, true⟩])
              (.cond (.v 32)
               (.seq (.region [] [
                 ⟨some 34, .move (.v 1), none, true⟩,
                 ⟨some 35, .move (.v 2), none, true⟩,
                 ⟨some 36, .bin .lss (.t 34) (.t 35), none, true⟩,
                 ⟨some 6, .assign (.t 36), none, true⟩])
                (.ret))
               (.seq (.region [] [
                 ⟨some 38, .bin .eql (.v 7) (.c (.int .i64 48)), none, true⟩,
                 ⟨some 37, .assign (.t 38), none, true⟩])
                (.cond (.v 37)
                 (.seq (.region [] [
                   ⟨some 39, .move (.v 1), none, true⟩,
                   ⟨some 40, .move (.v 2), none, true⟩,
                   ⟨some 41, .bin .geq (.t 39) (.t 40), none, true⟩,
                   ⟨some 6, .assign (.t 41), none, true⟩])
                  (.ret))
                 (.skip)))))))))))))))
   (.seq (.region [] [
     ⟨some 6, .assign (.c (.bool false)), none, true⟩])
    (.ret)))
def g28 : AFn := { np := 3, keep := [0, 1, 2, 6, 7, 8, 13, 18, 25, 32, 37], res := [.tmp 6], fresh := true, body := c28 }
/-- cotterel/cotterelref24.Size -/
def c29 : ACode :=
 .seq (.region [] [
   ⟨some 2, .assign (.c (.int .i64 0)), none, true⟩])
  (.seq (.seq (.region [] [
     ⟨some 3, .move (.v 0), none, true⟩])
    (.block 0 (.seq (.seq (.region [] [
        ⟨some 5, .bin .eql (.v 3) (.c (.int .i64 34)), none, true⟩,
        ⟨some 4, .assign (.t 5), none, true⟩])
       (.cond (.v 4)
        (.skip)
        (.seq (.region [] [
          ⟨some 6, .bin .eql (.v 3) (.c (.int .i64 35)), none, true⟩,
          ⟨some 4, .assign (.t 6), none, true⟩])
         (.cond (.v 4)
          (.skip)
          (.region [] [
           ⟨some 7, .bin .eql (.v 3) (.c (.int .i64 40)), none, true⟩,
           ⟨some 4, .assign (.t 7), none, true⟩])))))
      (.cond (.v 4)
       (.seq (.region [] [
         ⟨some 2, .assign (.c (.int .i64 1)), none, true⟩])
        (.ret))
       (.seq (.seq (.region [] [
          ⟨some 9, .bin .eql (.v 3) (.c (.int .i64 36)), none, true⟩,
          ⟨some 8, .assign (.t 9), none, true⟩])
         (.cond (.v 8)
          (.skip)
          (.seq (.region [] [
            ⟨some 10, .bin .eql (.v 3) (.c (.int .i64 37)), none, true⟩,
            ⟨some 8, .assign (.t 10), none, true⟩])
           (.cond (.v 8)
            (.skip)
            (.region [] [
             ⟨some 11, .bin .eql (.v 3) (.c (.int .i64 41)), none, true⟩,
             ⟨some 8, .assign (.t 11), none, true⟩])))))
        (.cond (.v 8)
         (.seq (.region [] [
           ⟨some 2, .assign (.c (.int .i64 2)), none, true⟩])
          (.ret))
         (.seq (.seq (.region [] [
            ⟨some 13, .bin .eql (.v 3) (.c (.int .i64 38)), none, true⟩,
            ⟨some 12, .assign (.t 13), none, true⟩])
           (.cond (.v 12)
            (.skip)
            (.seq (.region [] [
              ⟨some 14, .bin .eql (.v 3) (.c (.int .i64 39)), none, true⟩,
              ⟨some 12, .assign (.t 14), none, true⟩])
             (.cond (.v 12)
              (.skip)
              (.seq (.region [] [
                ⟨some 15, .bin .eql (.v 3) (.c (.int .i64 42)), none, true⟩,
                ⟨some 12, .assign (.t 15), none, true⟩])
               (.cond (.v 12)
                (.skip)
                (.seq (.region [] [
                  ⟨some 16, .bin .eql (.v 3) (.c (.int .i64 51)), none, true⟩,
                  ⟨some 12, .assign (.t 16), none, true⟩])
                 (.cond (.v 12)
                  (.skip)
                  (.seq (.region [] [
                    ⟨some 17, .bin .eql (.v 3) (.c (.int .i64 52)), none, true⟩,
                    ⟨some 12, .assign (.t 17), none, true⟩])
                   (.cond (.v 12)
                    (.skip)
                    (.region [] [
                     ⟨some 18, .bin .eql (.v 3) (.c (.int .i64 53)), none, true⟩,
                     ⟨some 12, .assign (.t 18), none, true⟩])))))))))))
          (.cond (.v 12)
           (.seq (.region [] [
             ⟨some 2, .assign (.c (.int .i64 4)), none, true⟩])
            (.ret))
           (.skip)))))))))
   (.seq (.region [] [
     ⟨some 2, .assign (.c (.int .i64 0)), none, true⟩])
    (.ret)))
def g29 : AFn := { np := 1, keep := [0, 2, 3, 4, 8, 12], res := [.tmp 2], fresh := true, body := c29 }
/-- cotterel/bits.Zext -/
def c30 : ACode :=
 .seq (.region [] [
   ⟨some 4, .assign (.c (.int .u32 0)), none, true⟩])
  (.seq (.region [] [
    ⟨some 5, .move (.v 0), none, true⟩,
    ⟨some 6, .move (.v 1), none, true⟩,
    ⟨some 7, .call 44 [.t 6, .c (.int .i64 0), .c (.int .i64 32)], none, true⟩,
    ⟨some 8, .call 43 [.t 7], none, true⟩,
    ⟨some 9, .bin .and (.t 5) (.t 8), none, true⟩,
    ⟨some 4, .assign (.t 9), none, true⟩])
   (.ret))
def g30 : AFn := { np := 2, keep := [0, 1, 4], res := [.tmp 4], fresh := true, body := c30 }
/-- cotterel/cotterelref01.Zext -/
def c31 : ACode :=
 .seq (.region [] [
   ⟨some 4, .assign (.c (.int .u32 0)), none, true⟩])
  (.seq (.region [] [
    ⟨some 7, .move (.v 1), none, true⟩,
    ⟨some 8, .call 45 [.t 7, .c (.int .i64 0), .c (.int .i64 32)], none, true⟩,
    ⟨some 1, .assign (.t 8), none, true⟩])
   (.seq (.region [] [
     ⟨some 5, .assign (.c (.int .u32 0)), none, true⟩])
    (.seq (.seq (.region [] [
       ⟨some 6, .assign (.c (.int .i64 0)), none, true⟩])
      (.block 0 (.loop (.seq (.seq (.region [] [
           ⟨some 9, .move (.v 6), none, true⟩,
           ⟨some 10, .move (.v 1), none, true⟩,
           ⟨some 11, .bin .lss (.t 9) (.t 10), none, true⟩])
          (.cond (.v 11)
           (.skip)
           (.exit 0)))
         (.seq (.block 1 (.region [] [
            ⟨some 14, .move (.v 5), none, true⟩,
            ⟨some 15, .move (.v 0), none, true⟩,
            ⟨some 16, .move (.v 6), none, true⟩,
            ⟨some 17, .call 46 [.t 15, .t 16], none, true⟩,
            ⟨some 18, .move (.v 6), none, true⟩,
            ⟨some 19, .call 47 [.t 18], none, true⟩,
            ⟨some 20, .bin .mul (.t 17) (.t 19), none, true⟩,
            ⟨some 21, .bin .add (.t 14) (.t 20), none, true⟩,
            ⟨some 5, .assign (.t 21), none, true⟩]))
          (.region [] [
           ⟨some 12, .move (.v 6), none, true⟩,
           ⟨some 13, .bin .add (.t 12) (.c (.int .i64 1)), none, true⟩,
           ⟨some 6, .assign (.t 13), none, true⟩]))))))
     (.seq (.region [] [
       ⟨some 22, .move (.v 5), none, true⟩,
       ⟨some 4, .assign (.t 22), none, true⟩])
      (.ret)))))
def g31 : AFn := { np := 2, keep := [0, 1, 4, 5, 6, 11], res := [.tmp 4], fresh := true, body := c31 }
/-- cotterel/bits.Sext -/
def c32 : ACode :=
 .seq (.region [] [
   ⟨some 4, .assign (.c (.int .u32 0)), none, true⟩])
  (.seq (.region [] [
    ⟨some 6, .move (.v 1), none, true⟩,
    ⟨some 7, .call 44 [.t 6, .c (.int .i64 0), .c (.int .i64 32)], none, true⟩,
    ⟨some 8, .bin .sub (.c (.int .i64 32)) (.t 7), none, true⟩,
    ⟨some 5, .assign (.t 8), none, true⟩])
   (.seq (.region [] [
     ⟨some 9, .move (.v 0), none, true⟩,
     ⟨some 10, .move (.v 5), none, true⟩,
     ⟨some 11, .bin .shl (.t 9) (.t 10), none, true⟩,
     ⟨some 12, .conv .i32 (.t 11), none, true⟩,
     ⟨some 13, .move (.v 5), none, true⟩,
     ⟨some 14, .bin .shr (.t 12) (.t 13), none, true⟩,
     ⟨some 15, .conv .u32 (.t 14), none, true⟩,
     ⟨some 4, .assign (.t 15), none, true⟩])
    (.ret)))
def g32 : AFn := { np := 2, keep := [0, 1, 4, 5], res := [.tmp 4], fresh := true, body := c32 }
/-- cotterel/cotterelref01.Sext -/
def c33 : ACode :=
 .seq (.region [] [
   ⟨some 4, .assign (.c (.int .u32 0)), none, true⟩])
  (.seq (.region [] [
    ⟨some 7, .move (.v 1), none, true⟩,
    ⟨some 8, .call 45 [.t 7, .c (.int .i64 0), .c (.int .i64 32)], none, true⟩,
    ⟨some 1, .assign (.t 8), none, true⟩])
   (.seq (.region [] [
     ⟨some 9, .move (.v 0), none, true⟩,
     ⟨some 10, .move (.v 1), none, true⟩,
     ⟨some 11, .call 31 [.t 9, .t 10], none, true⟩,
     ⟨some 5, .assign (.t 11), none, true⟩])
    (.seq (.seq (.region [] [
       ⟨some 12, .move (.v 1), none, true⟩,
       ⟨some 13, .bin .eql (.t 12) (.c (.int .i64 0)), none, true⟩,
       ⟨some 14, .move (.t 13), none, true⟩,
       ⟨some 15, .move (.v 0), some (14, false), true⟩,
       ⟨some 16, .move (.v 1), some (14, false), true⟩,
       ⟨some 17, .bin .sub (.t 16) (.c (.int .i64 1)), some (14, false), true⟩,
       ⟨some 18, .call 46 [.t 15, .t 17], some (14, false), true⟩,
       ⟨some 19, .bin .eql (.t 18) (.c (.int .u32 0)), some (14, false), true⟩,
       ⟨some 20, .pick (.t 14) (.c (.bool true)) (.t 19), none, true⟩])
      (.cond (.v 20)
       (.seq (.region [] [
         ⟨some 21, .move (.v 5), none, true⟩,
         ⟨some 4, .assign (.t 21), none, true⟩])
        (.ret))
       (.skip)))
     (.seq (.seq (.region [] [
        ⟨some 22, .move (.v 1), none, true⟩,
        ⟨some 6, .assign (.t 22), none, true⟩])
       (.block 0 (.loop (.seq (.seq (.region [] [
            ⟨some 23, .move (.v 6), none, true⟩,
            ⟨some 24, .bin .lss (.t 23) (.c (.int .i64 32)), none, true⟩])
           (.cond (.v 24)
            (.skip)
            (.exit 0)))
          (.seq (.block 1 (.region [] [
             ⟨some 27, .move (.v 5), none, true⟩,
             ⟨some 28, .move (.v 6), none, true⟩,
             ⟨some 29, .call 47 [.t 28], none, true⟩,
             ⟨some 30, .bin .add (.t 27) (.t 29), none, true⟩,
             ⟨some 5, .assign (.t 30), none, true⟩]))
           (.region [] [
            ⟨some 25, .move (.v 6), none, true⟩,
            ⟨some 26, .bin .add (.t 25) (.c (.int .i64 1)), none, true⟩,
            ⟨some 6, .assign (.t 26), none, true⟩]))))))
      (.seq (.region [] [
        ⟨some 31, .move (.v 5), none, true⟩,
        ⟨some 4, .assign (.t 31), none, true⟩])
       (.ret))))))
def g33 : AFn := { np := 2, keep := [0, 1, 4, 5, 6, 20, 24], res := [.tmp 4], fresh := true, body := c33 }
/-- cotterel/crack.Serial -/
def c34 : ACode :=
 .seq (.region [] [
   ⟨some 2, .assign (.c (.bool false)), none, true⟩])
  (.seq (.region [] [
    ⟨some 3, .move (.v 0), none, true⟩,
    ⟨some 4, .bin .geq (.t 3) (.c (.int .i64 51)), none, true⟩,
    ⟨some 5, .move (.t 4), none, true⟩,
    ⟨some 6, .move (.v 0), some (5, true), true⟩,
    ⟨some 7, .bin .leq (.t 6) (.c (.int .i64 62)), some (5, true), true⟩,
    ⟨some 8, .pick (.t 5) (.t 7) (.c (.bool false)), none, true⟩,
    ⟨some 2, .assign (.t 8), none, true⟩])
   (.ret))
def g34 : AFn := { np := 1, keep := [0, 2], res := [.tmp 2], fresh := true, body := c34 }
/-- cotterel/mul.Do -/
def c35 : ACode :=
 .seq (.region [] [
   ⟨some 6, .assign (.c (.int .u32 0)), none, true⟩,
   ⟨some 7, .assign (.c (.bool false)), none, true⟩])
  (.seq (.region [] [
    ⟨some 11, .move (.v 1), none, true⟩,
    ⟨some 12, .move (.v 2), none, true⟩,
    ⟨some 13, .call 49 [.t 11, .t 12], none, true⟩,
    ⟨some 14, .call 48 [.t 13], none, true⟩,
    ⟨some 10, .move (.t 14), none, true⟩,
    ⟨some 15, .extract (.t 10) 0, none, true⟩,
    ⟨some 16, .extract (.t 10) 1, none, true⟩,
    ⟨some 8, .assign (.t 15), none, true⟩,
    ⟨some 9, .assign (.t 16), none, true⟩])
   (.seq (.seq (.region [] [
      ⟨some 17, .move (.v 0), none, true⟩])
     (.block 0 (.seq (.region [] [
        ⟨some 19, .bin .eql (.v 17) (.c (.int .i64 11)), none, true⟩,
        ⟨some 18, .assign (.t 19), none, true⟩])
       (.cond (.v 18)
        (.seq (.region [] [
          ⟨some 20, .move (.v 9), none, true⟩,
          ⟨some 6, .assign (.t 20), none, true⟩,
          ⟨some 7, .assign (.c (.bool true)), none, true⟩])
         (.ret))
        (.seq (.region [] [
          ⟨some 22, .bin .eql (.v 17) (.c (.int .i64 13)), none, true⟩,
          ⟨some 21, .assign (.t 22), none, true⟩])
         (.cond (.v 21)
          (.seq (.region [] [
            ⟨some 23, .move (.v 8), none, true⟩,
            ⟨some 6, .assign (.t 23), none, true⟩,
            ⟨some 7, .assign (.c (.bool true)), none, true⟩])
           (.ret))
          (.seq (.region [] [
            ⟨some 25, .bin .eql (.v 17) (.c (.int .i64 12)), none, true⟩,
            ⟨some 24, .assign (.t 25), none, true⟩])
           (.cond (.v 24)
            (.seq (.region [] [
              ⟨some 26, .move (.v 8), none, true⟩,
              ⟨some 27, .move (.v 1), none, true⟩,
              ⟨some 28, .move (.v 2), none, true⟩,
              ⟨some 29, .call 50 [.t 27, .t 28], none, true⟩,
              ⟨some 30, .bin .sub (.t 26) (.t 29), none, true⟩,
              ⟨some 31, .move (.v 2), none, true⟩,
              ⟨some 32, .move (.v 1), none, true⟩,
              ⟨some 33, .call 50 [.t 31, .t 32], none, true⟩,
              ⟨some 34, .bin .sub (.t 30) (.t 33), none, true⟩,
              ⟨some 6, .assign (.t 34), none, true⟩,
              ⟨some 7, .assign (.c (.bool true)), none, true⟩])
             (.ret))
            (.skip)))))))))
    (.seq (.region [] [
      ⟨some 6, .assign (.c (.int .u32 0)), none, true⟩,
      ⟨some 7, .assign (.c (.bool false)), none, true⟩])
     (.ret))))
def g35 : AFn := { np := 3, keep := [0, 1, 2, 6, 7, 8, 9, 17, 18, 21, 24], res := [.tmp 6, .tmp 7], fresh := true, body := c35 }
/-- cotterel/div.Do -/
def c36 : ACode :=
 .seq (.region [] [
   ⟨some 6, .assign (.c (.int .u32 0)), none, true⟩,
   ⟨some 7, .assign (.c (.bool false)), none, true⟩])
  (.seq (.seq (.region [] [
     ⟨some 14, .move (.v 0), none, true⟩])
    (.block 0 (.seq (.region [] [
       ⟨some 16, .bin .eql (.v 14) (.c (.int .i64 15)), none, true⟩,
       ⟨some 15, .assign (.t 16), none, true⟩])
      (.cond (.v 15)
       (.seq (.region [] [
         ⟨some 18, .move (.v 1), none, true⟩,
         ⟨some 19, .move (.v 2), none, true⟩,
         ⟨some 20, .call 52 [.t 18, .t 19], none, true⟩,
         ⟨some 21, .call 51 [.t 20], none, true⟩,
         ⟨some 17, .move (.t 21), none, true⟩,
         ⟨some 22, .extract (.t 17) 0, none, true⟩,
         ⟨some 23, .extract (.t 17) 1, none, true⟩,
         ⟨some 8, .assign (.t 22), none, true⟩,
         ⟨some 9, .assign (.t 23), none, true⟩])
        (.seq (.region [] [
          ⟨some 24, .move (.v 8), none, true⟩,
          ⟨some 6, .assign (.t 24), none, true⟩,
          ⟨some 7, .assign (.c (.bool true)), none, true⟩])
         (.ret)))
       (.seq (.region [] [
         ⟨some 26, .bin .eql (.v 14) (.c (.int .i64 17)), none, true⟩,
         ⟨some 25, .assign (.t 26), none, true⟩])
        (.cond (.v 25)
         (.seq (.region [] [
           ⟨some 28, .move (.v 1), none, true⟩,
           ⟨some 29, .move (.v 2), none, true⟩,
           ⟨some 30, .call 52 [.t 28, .t 29], none, true⟩,
           ⟨some 31, .call 51 [.t 30], none, true⟩,
           ⟨some 27, .move (.t 31), none, true⟩,
           ⟨some 32, .extract (.t 27) 0, none, true⟩,
           ⟨some 33, .extract (.t 27) 1, none, true⟩,
           ⟨some 10, .assign (.t 32), none, true⟩,
           ⟨some 11, .assign (.t 33), none, true⟩])
          (.seq (.region [] [
            ⟨some 34, .move (.v 11), none, true⟩,
            ⟨some 6, .assign (.t 34), none, true⟩,
            ⟨some 7, .assign (.c (.bool true)), none, true⟩])
           (.ret)))
         (.seq (.seq (.region [] [
            ⟨some 36, .bin .eql (.v 14) (.c (.int .i64 14)), none, true⟩,
            ⟨some 35, .assign (.t 36), none, true⟩])
           (.cond (.v 35)
            (.skip)
            (.region [] [
             ⟨some 37, .bin .eql (.v 14) (.c (.int .i64 16)), none, true⟩,
             ⟨some 35, .assign (.t 37), none, true⟩])))
          (.cond (.v 35)
           (.skip)
           (.seq (.region [] [
             ⟨some 6, .assign (.c (.int .u32 0)), none, true⟩,
             ⟨some 7, .assign (.c (.bool false)), none, true⟩])
            (.ret))))))))))
   (.seq (.region [] [
     ⟨some 39, .move (.v 1), none, true⟩,
     ⟨some 40, .call 53 [.t 39], none, true⟩,
     ⟨some 41, .move (.v 2), none, true⟩,
     ⟨some 42, .call 53 [.t 41], none, true⟩,
     ⟨some 43, .call 52 [.t 40, .t 42], none, true⟩,
     ⟨some 44, .call 51 [.t 43], none, true⟩,
     ⟨some 38, .move (.t 44), none, true⟩,
     ⟨some 45, .extract (.t 38) 0, none, true⟩,
     ⟨some 46, .extract (.t 38) 1, none, true⟩,
     ⟨some 12, .assign (.t 45), none, true⟩,
     ⟨some 13, .assign (.t 46), none, true⟩])
    (.seq (.seq (.region [] [
       ⟨some 47, .move (.v 2), none, true⟩,
       ⟨some 48, .bin .eql (.t 47) (.c (.int .u32 0)), none, true⟩])
      (.cond (.v 48)
       (.seq (.region [] [
         ⟨some 12, .assign (.c (.int .u32 0)), none, true⟩])
        (.seq (.region [] [
          ⟨some 49, .move (.v 12), none, true⟩,
          ⟨some 50, .bin .sub (.t 49) (.c (.int .u32 1)), none, true⟩,
          ⟨some 12, .assign (.t 50), none, true⟩])
         (.region [] [
          ⟨some 51, .move (.v 1), none, true⟩,
          ⟨some 13, .assign (.t 51), none, true⟩])))
       (.seq (.seq (.region [] [
          ⟨some 52, .move (.v 1), none, true⟩,
          ⟨some 53, .conv .i32 (.t 52), none, true⟩,
          ⟨some 54, .bin .lss (.t 53) (.c (.int .i32 0)), none, true⟩,
          ⟨some 55, .move (.v 2), none, true⟩,
          ⟨some 56, .conv .i32 (.t 55), none, true⟩,
          ⟨some 57, .bin .lss (.t 56) (.c (.int .i32 0)), none, true⟩,
          ⟨some 58, .eqB true (.t 54) (.t 57), none, true⟩])
         (.cond (.v 58)
          (.region [] [
           ⟨some 59, .move (.v 12), none, true⟩,
           ⟨some 60, .un .neg (.t 59), none, true⟩,
           ⟨some 12, .assign (.t 60), none, true⟩])
          (.skip)))
        (.seq (.region [] [
          ⟨some 61, .move (.v 1), none, true⟩,
          ⟨some 62, .conv .i32 (.t 61), none, true⟩,
          ⟨some 63, .bin .lss (.t 62) (.c (.int .i32 0)), none, true⟩])
         (.cond (.v 63)
          (.region [] [
           ⟨some 64, .move (.v 13), none, true⟩,
           ⟨some 65, .un .neg (.t 64), none, true⟩,
           ⟨some 13, .assign (.t 65), none, true⟩])
          (.skip))))))
     (.seq (.seq (.region [] [
        ⟨some 66, .move (.v 0), none, true⟩,
        ⟨some 67, .bin .eql (.t 66) (.c (.int .i64 14)), none, true⟩])
       (.cond (.v 67)
        (.seq (.region [] [
          ⟨some 68, .move (.v 12), none, true⟩,
          ⟨some 6, .assign (.t 68), none, true⟩,
          ⟨some 7, .assign (.c (.bool true)), none, true⟩])
         (.ret))
        (.skip)))
      (.seq (.region [] [
        ⟨some 69, .move (.v 13), none, true⟩,
        ⟨some 6, .assign (.t 69), none, true⟩,
        ⟨some 7, .assign (.c (.bool true)), none, true⟩])
       (.ret))))))
def g36 : AFn := { np := 3, keep := [0, 1, 2, 6, 7, 8, 11, 12, 13, 14, 15, 25, 35, 48, 58, 63, 67], res := [.tmp 6, .tmp 7], fresh := true, body := c36 }
/-- cotterel/alu.Do -/
def c37 : ACode :=
 .seq (.region [] [
   ⟨some 6, .assign (.c (.int .u32 0)), none, true⟩,
   ⟨some 7, .assign (.c (.bool false)), none, true⟩])
  (.seq (.seq (.region [] [
     ⟨some 8, .move (.v 0), none, true⟩])
    (.block 0 (.seq (.seq (.region [] [
        ⟨some 10, .bin .eql (.v 8) (.c (.int .i64 1)), none, true⟩,
        ⟨some 9, .assign (.t 10), none, true⟩])
       (.cond (.v 9)
        (.skip)
        (.region [] [
         ⟨some 11, .bin .eql (.v 8) (.c (.int .i64 25)), none, true⟩,
         ⟨some 9, .assign (.t 11), none, true⟩])))
      (.cond (.v 9)
       (.seq (.region [] [
         ⟨some 12, .move (.v 1), none, true⟩,
         ⟨some 13, .move (.v 2), none, true⟩,
         ⟨some 14, .bin .add (.t 12) (.t 13), none, true⟩,
         ⟨some 6, .assign (.t 14), none, true⟩,
         ⟨some 7, .assign (.c (.bool true)), none, true⟩])
        (.ret))
       (.seq (.region [] [
         ⟨some 16, .bin .eql (.v 8) (.c (.int .i64 2)), none, true⟩,
         ⟨some 15, .assign (.t 16), none, true⟩])
        (.cond (.v 15)
         (.seq (.region [] [
           ⟨some 17, .move (.v 1), none, true⟩,
           ⟨some 18, .move (.v 2), none, true⟩,
           ⟨some 19, .bin .sub (.t 17) (.t 18), none, true⟩,
           ⟨some 6, .assign (.t 19), none, true⟩,
           ⟨some 7, .assign (.c (.bool true)), none, true⟩])
          (.ret))
         (.seq (.seq (.region [] [
            ⟨some 21, .bin .eql (.v 8) (.c (.int .i64 9)), none, true⟩,
            ⟨some 20, .assign (.t 21), none, true⟩])
           (.cond (.v 20)
            (.skip)
            (.region [] [
             ⟨some 22, .bin .eql (.v 8) (.c (.int .i64 29)), none, true⟩,
             ⟨some 20, .assign (.t 22), none, true⟩])))
          (.cond (.v 20)
           (.seq (.region [] [
             ⟨some 23, .move (.v 1), none, true⟩,
             ⟨some 24, .conv .i32 (.t 23), none, true⟩,
             ⟨some 25, .move (.v 2), none, true⟩,
             ⟨some 26, .conv .i32 (.t 25), none, true⟩,
             ⟨some 27, .bin .lss (.t 24) (.t 26), none, true⟩,
             ⟨some 28, .call 54 [.t 27], none, true⟩,
             ⟨some 6, .assign (.t 28), none, true⟩,
             ⟨some 7, .assign (.c (.bool true)), none, true⟩])
            (.ret))
           (.seq (.region [] [
             ⟨some 30, .bin .eql (.v 8) (.c (.int .i64 10)), none, true⟩,
             ⟨some 29, .assign (.t 30), none, true⟩])
            (.cond (.v 29)
             (.seq (.region [] [
               ⟨some 31, .move (.v 1), none, true⟩,
               ⟨some 32, .move (.v 2), none, true⟩,
               ⟨some 33, .bin .lss (.t 31) (.t 32), none, true⟩,
               ⟨some 34, .call 54 [.t 33], none, true⟩,
               ⟨some 6, .assign (.t 34), none, true⟩,
               ⟨some 7, .assign (.c (.bool true)), none, true⟩])
              (.ret))
             (.seq (.region [] [
               ⟨some 36, .bin .eql (.v 8) (.c (.int .i64 18)), none, true⟩,
               ⟨some 35, .assign (.t 36), none, true⟩])
              (.cond (.v 35)
               (.seq (.region [] [
                 ⟨some 37, .move (.v 1), none, true⟩,
                 ⟨some 38, .conv .i32 (.t 37), none, true⟩,
                 ⟨some 39, .move (.v 2), none, true⟩,
                 ⟨some 40, .conv .i32 (.t 39), none, true⟩,
                 ⟨some 41, .mm false [.t 38, .t 40], none, true⟩,
                 ⟨some 42, .conv .u32 (.t 41), none, true⟩,
                 ⟨some 6, .assign (.t 42), none, true⟩,
                 ⟨some 7, .assign (.c (.bool true)), none, true⟩])
                (.ret))
               (.seq (.region [] [
                 ⟨some 44, .bin .eql (.v 8) (.c (.int .i64 19)), none, true⟩,
                 ⟨some 43, .assign (.t 44), none, true⟩])
                (.cond (.v 43)
                 (.seq (.region [] [
                   ⟨some 45, .move (.v 1), none, true⟩,
                   ⟨some 46, .conv .i32 (.t 45), none, true⟩,
                   ⟨some 47, .move (.v 2), none, true⟩,
                   ⟨some 48, .conv .i32 (.t 47), none, true⟩,
                   ⟨some 49, .mm true [.t 46, .t 48], none, true⟩,
                   ⟨some 50, .conv .u32 (.t 49), none, true⟩,
                   ⟨some 6, .assign (.t 50), none, true⟩,
                   ⟨some 7, .assign (.c (.bool true)), none, true⟩])
                  (.ret))
                 (.seq (.region [] [
                   ⟨some 52, .bin .eql (.v 8) (.c (.int .i64 33)), none, true⟩,
                   ⟨some 51, .assign (.t 52), none, true⟩])
                  (.cond (.v 51)
                   (.seq (.region [] [
                     ⟨some 53, .move (.v 2), none, true⟩,
                     ⟨some 54, .bin .shl (.t 53) (.c (.int .u64 14)), none, true⟩,
                     ⟨some 6, .assign (.t 54), none, true⟩,
                     ⟨some 7, .assign (.c (.bool true)), none, true⟩])
                    (.ret))
                   (.seq (.seq (.region [] [
                      ⟨some 56, .bin .eql (.v 8) (.c (.int .i64 21)), none, true⟩,
                      ⟨some 55, .assign (.t 56), none, true⟩])
                     (.cond (.v 55)
                      (.skip)
                      (.seq (.region [] [
                        ⟨some 57, .bin .eql (.v 8) (.c (.int .i64 22)), none, true⟩,
                        ⟨some 55, .assign (.t 57), none, true⟩])
                       (.cond (.v 55)
                        (.skip)
                        (.region [] [
                         ⟨some 58, .bin .eql (.v 8) (.c (.int .i64 23)), none, true⟩,
                         ⟨some 55, .assign (.t 58), none, true⟩])))))
                    (.cond (.v 55)
                     (.seq (.region [] [
                       ⟨some 59, .move (.v 0), none, true⟩,
                       ⟨some 60, .move (.v 1), none, true⟩,
                       ⟨some 61, .call 55 [.t 59, .t 60], none, true⟩,
                       ⟨some 62, .extract (.t 61) 0, none, true⟩,
                       ⟨some 63, .extract (.t 61) 1, none, true⟩,
                       ⟨some 6, .assign (.t 62), none, true⟩,
                       ⟨some 7, .assign (.t 63), none, true⟩])
                      (.ret))
                     (.skip)))))))))))))))))))
   (.seq (.region [] [
     ⟨some 64, .move (.v 0), none, true⟩,
     ⟨some 65, .move (.v 1), none, true⟩,
     ⟨some 66, .move (.v 2), none, true⟩,
     ⟨some 67, .call 56 [.t 64, .t 65, .t 66], none, true⟩,
     ⟨some 68, .extract (.t 67) 0, none, true⟩,
     ⟨some 69, .extract (.t 67) 1, none, true⟩,
     ⟨some 6, .assign (.t 68), none, true⟩,
     ⟨some 7, .assign (.t 69), none, true⟩])
    (.ret)))
def g37 : AFn := { np := 3, keep := [0, 1, 2, 6, 7, 8, 9, 15, 20, 29, 35, 43, 51, 55], res := [.tmp 6, .tmp 7], fresh := true, body := c37 }
/-- cotterel/cotterelref04.Do -/
def c38 : ACode :=
 .seq (.region [] [
   ⟨some 6, .assign (.c (.int .u32 0)), none, true⟩,
   ⟨some 7, .assign (.c (.bool false)), none, true⟩])
  (.seq (.seq (.region [] [
     ⟨some 8, .move (.v 0), none, true⟩,
     ⟨some 9, .bin .eql (.t 8) (.c (.int .i64 11)), none, true⟩])
    (.cond (.v 9)
     (.seq (.region [] [
       ⟨some 10, .move (.v 1), none, true⟩,
       ⟨some 11, .conv .u64 (.t 10), none, true⟩,
       ⟨some 12, .move (.v 2), none, true⟩,
       ⟨some 13, .conv .u64 (.t 12), none, true⟩,
       ⟨some 14, .bin .mul (.t 11) (.t 13), none, true⟩,
       ⟨some 15, .bin .rem (.t 14) (.c (.int .u64 4294967296)), none, true⟩,
       ⟨some 16, .conv .u32 (.t 15), none, true⟩,
       ⟨some 6, .assign (.t 16), none, true⟩,
       ⟨some 7, .assign (.c (.bool true)), none, true⟩])
      (.ret))
     (.skip)))
   (.seq (.seq (.region [] [
      ⟨some 17, .move (.v 0), none, true⟩,
      ⟨some 18, .bin .eql (.t 17) (.c (.int .i64 13)), none, true⟩])
     (.cond (.v 18)
      (.seq (.region [] [
        ⟨some 19, .move (.v 1), none, true⟩,
        ⟨some 20, .conv .u64 (.t 19), none, true⟩,
        ⟨some 21, .move (.v 2), none, true⟩,
        ⟨some 22, .conv .u64 (.t 21), none, true⟩,
        ⟨some 23, .bin .mul (.t 20) (.t 22), none, true⟩,
        ⟨some 24, .bin .quo (.t 23) (.c (.int .u64 4294967296)), none, true⟩,
        ⟨some 25, .conv .u32 (.t 24), none, true⟩,
        ⟨some 6, .assign (.t 25), none, true⟩,
        ⟨some 7, .assign (.c (.bool true)), none, true⟩])
       (.ret))
      (.skip)))
    (.seq (.seq (.region [] [
       ⟨some 26, .move (.v 0), none, true⟩,
       ⟨some 27, .bin .eql (.t 26) (.c (.int .i64 12)), none, true⟩])
      (.cond (.v 27)
       (.seq (.region [] [
         ⟨some 28, .move (.v 1), none, true⟩,
         ⟨some 29, .call 57 [.t 28], none, true⟩,
         ⟨some 30, .move (.v 2), none, true⟩,
         ⟨some 31, .call 57 [.t 30], none, true⟩,
         ⟨some 32, .bin .mul (.t 29) (.t 31), none, true⟩,
         ⟨some 33, .conv .u64 (.t 32), none, true⟩,
         ⟨some 34, .bin .quo (.t 33) (.c (.int .u64 4294967296)), none, true⟩,
         ⟨some 35, .conv .u32 (.t 34), none, true⟩,
         ⟨some 6, .assign (.t 35), none, true⟩,
         ⟨some 7, .assign (.c (.bool true)), none, true⟩])
        (.ret))
       (.skip)))
     (.seq (.region [] [
       ⟨some 6, .assign (.c (.int .u32 0)), none, true⟩,
       ⟨some 7, .assign (.c (.bool false)), none, true⟩])
      (.ret)))))
def g38 : AFn := { np := 3, keep := [0, 1, 2, 6, 7, 9, 18, 27], res := [.tmp 6, .tmp 7], fresh := true, body := c38 }
/-- cotterel/cotterelref05.Do -/
def c39 : ACode :=
 .seq (.region [] [
   ⟨some 6, .assign (.c (.int .u32 0)), none, true⟩,
   ⟨some 7, .assign (.c (.bool false)), none, true⟩])
  (.seq (.region [] [
    ⟨some 10, .move (.v 1), none, true⟩,
    ⟨some 11, .conv .i32 (.t 10), none, true⟩,
    ⟨some 12, .conv .i64 (.t 11), none, true⟩,
    ⟨some 13, .move (.v 2), none, true⟩,
    ⟨some 14, .conv .i32 (.t 13), none, true⟩,
    ⟨some 15, .conv .i64 (.t 14), none, true⟩,
    ⟨some 8, .assign (.t 12), none, true⟩,
    ⟨some 9, .assign (.t 15), none, true⟩])
   (.seq (.seq (.region [] [
      ⟨some 16, .move (.v 0), none, true⟩])
     (.block 0 (.seq (.seq (.region [] [
         ⟨some 18, .bin .eql (.v 16) (.c (.int .i64 15)), none, true⟩,
         ⟨some 17, .assign (.t 18), none, true⟩])
        (.cond (.v 17)
         (.skip)
         (.region [] [
          ⟨some 19, .bin .eql (.v 16) (.c (.int .i64 17)), none, true⟩,
          ⟨some 17, .assign (.t 19), none, true⟩])))
       (.cond (.v 17)
        (.seq (.seq (.region [] [
           ⟨some 20, .move (.v 2), none, true⟩,
           ⟨some 21, .bin .eql (.t 20) (.c (.int .u32 0)), none, true⟩,
           ⟨some 22, .move (.t 21), none, true⟩,
           ⟨some 23, .move (.v 0), some (22, true), true⟩,
           ⟨some 24, .bin .eql (.t 23) (.c (.int .i64 15)), some (22, true), true⟩,
           ⟨some 25, .pick (.t 22) (.t 24) (.c (.bool false)), none, true⟩])
          (.cond (.v 25)
           (.seq (.region [] [
             ⟨some 6, .assign (.c (.int .u32 4294967295)), none, true⟩,
             ⟨some 7, .assign (.c (.bool true)), none, true⟩])
            (.ret))
           (.skip)))
         (.seq (.seq (.region [] [
            ⟨some 26, .move (.v 2), none, true⟩,
            ⟨some 27, .bin .eql (.t 26) (.c (.int .u32 0)), none, true⟩])
           (.cond (.v 27)
            (.seq (.region [] [
              ⟨some 28, .move (.v 1), none, true⟩,
              ⟨some 6, .assign (.t 28), none, true⟩,
              ⟨some 7, .assign (.c (.bool true)), none, true⟩])
             (.ret))
            (.skip)))
          (.seq (.seq (.region [] [
             ⟨some 29, .move (.v 0), none, true⟩,
             ⟨some 30, .bin .eql (.t 29) (.c (.int .i64 15)), none, true⟩])
            (.cond (.v 30)
             (.seq (.region [] [
               ⟨some 31, .move (.v 1), none, true⟩,
               ⟨some 32, .move (.v 2), none, true⟩,
               ⟨some 33, .bin .quo (.t 31) (.t 32), none, true⟩,
               ⟨some 6, .assign (.t 33), none, true⟩,
               ⟨some 7, .assign (.c (.bool true)), none, true⟩])
              (.ret))
             (.skip)))
           (.seq (.region [] [
             ⟨some 34, .move (.v 1), none, true⟩,
             ⟨some 35, .move (.v 2), none, true⟩,
             ⟨some 36, .bin .rem (.t 34) (.t 35), none, true⟩,
             ⟨some 6, .assign (.t 36), none, true⟩,
             ⟨some 7, .assign (.c (.bool true)), none, true⟩])
            (.ret)))))
        (.seq (.region [] [
          ⟨some 38, .bin .eql (.v 16) (.c (.int .i64 14)), none, true⟩,
          ⟨some 37, .assign (.t 38), none, true⟩])
         (.cond (.v 37)
          (.seq (.seq (.region [] [
             ⟨some 39, .move (.v 9), none, true⟩,
             ⟨some 40, .bin .eql (.t 39) (.c (.int .i64 0)), none, true⟩])
            (.cond (.v 40)
             (.seq (.region [] [
               ⟨some 6, .assign (.c (.int .u32 4294967295)), none, true⟩,
               ⟨some 7, .assign (.c (.bool true)), none, true⟩])
              (.ret))
             (.skip)))
           (.seq (.region [] [
             ⟨some 41, .move (.v 8), none, true⟩,
             ⟨some 42, .move (.v 9), none, true⟩,
             ⟨some 43, .bin .quo (.t 41) (.t 42), none, true⟩,
             ⟨some 44, .conv .u32 (.t 43), none, true⟩,
             ⟨some 6, .assign (.t 44), none, true⟩,
             ⟨some 7, .assign (.c (.bool true)), none, true⟩])
            (.ret)))
          (.seq (.region [] [
            ⟨some 46, .bin .eql (.v 16) (.c (.int .i64 16)), none, true⟩,
            ⟨some 45, .assign (.t 46), none, true⟩])
           (.cond (.v 45)
            (.seq (.seq (.region [] [
               ⟨some 47, .move (.v 9), none, true⟩,
               ⟨some 48, .bin .eql (.t 47) (.c (.int .i64 0)), none, true⟩])
              (.cond (.v 48)
               (.seq (.region [] [
                 ⟨some 49, .move (.v 1), none, true⟩,
                 ⟨some 6, .assign (.t 49), none, true⟩,
                 ⟨some 7, .assign (.c (.bool true)), none, true⟩])
                (.ret))
               (.skip)))
             (.seq (.region [] [
               ⟨some 50, .move (.v 8), none, true⟩,
               ⟨some 51, .move (.v 9), none, true⟩,
               ⟨some 52, .bin .rem (.t 50) (.t 51), none, true⟩,
               ⟨some 53, .conv .u32 (.t 52), none, true⟩,
               ⟨some 6, .assign (.t 53), none, true⟩,
               ⟨some 7, .assign (.c (.bool true)), none, true⟩])
              (.ret)))
            (.skip)))))))))
    (.seq (.region [] [
      ⟨some 6, .assign (.c (.int .u32 0)), none, true⟩,
      ⟨some 7, .assign (.c (.bool false)), none, true⟩])
     (.ret))))
def g39 : AFn := { np := 3, keep := [0, 1, 2, 6, 7, 8, 9, 16, 17, 25, 27, 30, 37, 40, 45, 48], res := [.tmp 6, .tmp 7], fresh := true, body := c39 }
/-- cotterel/cotterelref03.Cmov -/
def c40 : ACode :=
 .seq (.region [] [
   ⟨some 6, .assign (.c (.int .u32 0)), none, true⟩])
  (.seq (.seq (.region [] [
     ⟨some 7, .move (.v 2), none, true⟩,
     ⟨some 8, .bin .neq (.t 7) (.c (.int .u32 0)), none, true⟩])
    (.cond (.v 8)
     (.seq (.region [] [
       ⟨some 9, .move (.v 1), none, true⟩,
       ⟨some 6, .assign (.t 9), none, true⟩])
      (.ret))
     (.skip)))
   (.seq (.region [] [
     ⟨some 10, .move (.v 0), none, true⟩,
     ⟨some 6, .assign (.t 10), none, true⟩])
    (.ret)))
def g40 : AFn := { np := 3, keep := [0, 1, 2, 6, 8], res := [.tmp 6], fresh := true, body := c40 }
/-- cotterel/cotterelref03.Do -/
def c41 : ACode :=
 .seq (.region [] [
   ⟨some 6, .assign (.c (.int .u32 0)), none, true⟩,
   ⟨some 7, .assign (.c (.bool false)), none, true⟩])
  (.seq (.region [] [
    ⟨some 9, .move (.v 2), none, true⟩,
    ⟨some 10, .bin .rem (.t 9) (.c (.int .u32 32)), none, true⟩,
    ⟨some 11, .conv .i64 (.t 10), none, true⟩,
    ⟨some 8, .assign (.t 11), none, true⟩])
   (.seq (.seq (.region [] [
      ⟨some 12, .move (.v 0), none, true⟩])
     (.block 0 (.seq (.seq (.region [] [
         ⟨some 14, .bin .eql (.v 12) (.c (.int .i64 1)), none, true⟩,
         ⟨some 13, .assign (.t 14), none, true⟩])
        (.cond (.v 13)
         (.skip)
         (.region [] [
          ⟨some 15, .bin .eql (.v 12) (.c (.int .i64 25)), none, true⟩,
          ⟨some 13, .assign (.t 15), none, true⟩])))
       (.cond (.v 13)
        (.seq (.region [] [
          ⟨some 16, .move (.v 1), none, true⟩,
          ⟨some 17, .move (.v 2), none, true⟩,
          ⟨some 18, .bin .add (.t 16) (.t 17), none, true⟩,
          ⟨some 6, .assign (.t 18), none, true⟩,
          ⟨some 7, .assign (.c (.bool true)), none, true⟩])
         (.ret))
        (.seq (.region [] [
          ⟨some 20, .bin .eql (.v 12) (.c (.int .i64 2)), none, true⟩,
          ⟨some 19, .assign (.t 20), none, true⟩])
         (.cond (.v 19)
          (.seq (.region [] [
            ⟨some 21, .move (.v 1), none, true⟩,
            ⟨some 22, .move (.v 2), none, true⟩,
            ⟨some 23, .bin .sub (.t 21) (.t 22), none, true⟩,
            ⟨some 6, .assign (.t 23), none, true⟩,
            ⟨some 7, .assign (.c (.bool true)), none, true⟩])
           (.ret))
          (.seq (.seq (.region [] [
             ⟨some 25, .bin .eql (.v 12) (.c (.int .i64 3)), none, true⟩,
             ⟨some 24, .assign (.t 25), none, true⟩])
            (.cond (.v 24)
             (.skip)
             (.region [] [
              ⟨some 26, .bin .eql (.v 12) (.c (.int .i64 26)), none, true⟩,
              ⟨some 24, .assign (.t 26), none, true⟩])))
           (.cond (.v 24)
            (.seq (.region [] [
              ⟨some 27, .move (.v 1), none, true⟩,
              ⟨some 28, .move (.v 2), none, true⟩,
              ⟨some 29, .call 58 [.t 27, .t 28, .c (.int .u32 2), .c (.int .u32 2)], none, true⟩,
              ⟨some 6, .assign (.t 29), none, true⟩,
              ⟨some 7, .assign (.c (.bool true)), none, true⟩])
             (.ret))
            (.seq (.seq (.region [] [
               ⟨some 31, .bin .eql (.v 12) (.c (.int .i64 4)), none, true⟩,
               ⟨some 30, .assign (.t 31), none, true⟩])
              (.cond (.v 30)
               (.skip)
               (.region [] [
                ⟨some 32, .bin .eql (.v 12) (.c (.int .i64 27)), none, true⟩,
                ⟨some 30, .assign (.t 32), none, true⟩])))
             (.cond (.v 30)
              (.seq (.region [] [
                ⟨some 33, .move (.v 1), none, true⟩,
                ⟨some 34, .move (.v 2), none, true⟩,
                ⟨some 35, .call 58 [.t 33, .t 34, .c (.int .u32 1), .c (.int .u32 2)], none, true⟩,
                ⟨some 6, .assign (.t 35), none, true⟩,
                ⟨some 7, .assign (.c (.bool true)), none, true⟩])
               (.ret))
              (.seq (.seq (.region [] [
                 ⟨some 37, .bin .eql (.v 12) (.c (.int .i64 5)), none, true⟩,
                 ⟨some 36, .assign (.t 37), none, true⟩])
                (.cond (.v 36)
                 (.skip)
                 (.region [] [
                  ⟨some 38, .bin .eql (.v 12) (.c (.int .i64 28)), none, true⟩,
                  ⟨some 36, .assign (.t 38), none, true⟩])))
               (.cond (.v 36)
                (.seq (.region [] [
                  ⟨some 39, .move (.v 1), none, true⟩,
                  ⟨some 40, .move (.v 2), none, true⟩,
                  ⟨some 41, .call 58 [.t 39, .t 40, .c (.int .u32 1), .c (.int .u32 1)], none, true⟩,
                  ⟨some 6, .assign (.t 41), none, true⟩,
                  ⟨some 7, .assign (.c (.bool true)), none, true⟩])
                 (.ret))
                (.seq (.seq (.region [] [
                   ⟨some 43, .bin .eql (.v 12) (.c (.int .i64 6)), none, true⟩,
                   ⟨some 42, .assign (.t 43), none, true⟩])
                  (.cond (.v 42)
                   (.skip)
                   (.region [] [
                    ⟨some 44, .bin .eql (.v 12) (.c (.int .i64 30)), none, true⟩,
                    ⟨some 42, .assign (.t 44), none, true⟩])))
                 (.cond (.v 42)
                  (.seq (.region [] [
                    ⟨some 45, .move (.v 1), none, true⟩,
                    ⟨some 46, .move (.v 8), none, true⟩,
                    ⟨some 47, .un .neg (.t 46), none, true⟩,
                    ⟨some 48, .call 59 [.t 45, .t 47, .c (.int .u32 0)], none, true⟩,
                    ⟨some 6, .assign (.t 48), none, true⟩,
                    ⟨some 7, .assign (.c (.bool true)), none, true⟩])
                   (.ret))
                  (.seq (.seq (.region [] [
                     ⟨some 50, .bin .eql (.v 12) (.c (.int .i64 7)), none, true⟩,
                     ⟨some 49, .assign (.t 50), none, true⟩])
                    (.cond (.v 49)
                     (.skip)
                     (.region [] [
                      ⟨some 51, .bin .eql (.v 12) (.c (.int .i64 31)), none, true⟩,
                      ⟨some 49, .assign (.t 51), none, true⟩])))
                   (.cond (.v 49)
                    (.seq (.region [] [
                      ⟨some 52, .move (.v 1), none, true⟩,
                      ⟨some 53, .move (.v 8), none, true⟩,
                      ⟨some 54, .call 59 [.t 52, .t 53, .c (.int .u32 0)], none, true⟩,
                      ⟨some 6, .assign (.t 54), none, true⟩,
                      ⟨some 7, .assign (.c (.bool true)), none, true⟩])
                     (.ret))
                    (.seq (.seq (.region [] [
                       ⟨some 56, .bin .eql (.v 12) (.c (.int .i64 8)), none, true⟩,
                       ⟨some 55, .assign (.t 56), none, true⟩])
                      (.cond (.v 55)
                       (.skip)
                       (.region [] [
                        ⟨some 57, .bin .eql (.v 12) (.c (.int .i64 32)), none, true⟩,
                        ⟨some 55, .assign (.t 57), none, true⟩])))
                     (.cond (.v 55)
                      (.seq (.region [] [
                        ⟨some 58, .move (.v 1), none, true⟩,
                        ⟨some 59, .move (.v 8), none, true⟩,
                        ⟨some 60, .move (.v 1), none, true⟩,
                        ⟨some 61, .call 60 [.t 60, .c (.int .i64 31)], none, true⟩,
                        ⟨some 62, .call 59 [.t 58, .t 59, .t 61], none, true⟩,
                        ⟨some 6, .assign (.t 62), none, true⟩,
                        ⟨some 7, .assign (.c (.bool true)), none, true⟩])
                       (.ret))
                      (.seq (.seq (.region [] [
                         ⟨some 64, .bin .eql (.v 12) (.c (.int .i64 9)), none, true⟩,
                         ⟨some 63, .assign (.t 64), none, true⟩])
                        (.cond (.v 63)
                         (.skip)
                         (.region [] [
                          ⟨some 65, .bin .eql (.v 12) (.c (.int .i64 29)), none, true⟩,
                          ⟨some 63, .assign (.t 65), none, true⟩])))
                       (.cond (.v 63)
                        (.seq (.region [] [
                          ⟨some 66, .move (.v 1), none, true⟩,
                          ⟨some 67, .call 42 [.t 66], none, true⟩,
                          ⟨some 68, .move (.v 2), none, true⟩,
                          ⟨some 69, .call 42 [.t 68], none, true⟩,
                          ⟨some 70, .bin .lss (.t 67) (.t 69), none, true⟩,
                          ⟨some 71, .call 61 [.t 70], none, true⟩,
                          ⟨some 6, .assign (.t 71), none, true⟩,
                          ⟨some 7, .assign (.c (.bool true)), none, true⟩])
                         (.ret))
                        (.seq (.region [] [
                          ⟨some 73, .bin .eql (.v 12) (.c (.int .i64 10)), none, true⟩,
                          ⟨some 72, .assign (.t 73), none, true⟩])
                         (.cond (.v 72)
                          (.seq (.region [] [
                            ⟨some 74, .move (.v 1), none, true⟩,
                            ⟨some 75, .move (.v 2), none, true⟩,
                            ⟨some 76, .bin .lss (.t 74) (.t 75), none, true⟩,
                            ⟨some 77, .call 61 [.t 76], none, true⟩,
                            ⟨some 6, .assign (.t 77), none, true⟩,
                            ⟨some 7, .assign (.c (.bool true)), none, true⟩])
                           (.ret))
                          (.seq (.region [] [
                            ⟨some 79, .bin .eql (.v 12) (.c (.int .i64 18)), none, true⟩,
                            ⟨some 78, .assign (.t 79), none, true⟩])
                           (.cond (.v 78)
                            (.seq (.seq (.region [] [
                               ⟨some 80, .move (.v 2), none, true⟩,
                               ⟨some 81, .call 42 [.t 80], none, true⟩,
                               ⟨some 82, .move (.v 1), none, true⟩,
                               ⟨some 83, .call 42 [.t 82], none, true⟩,
                               ⟨some 84, .bin .lss (.t 81) (.t 83), none, true⟩])
                              (.cond (.v 84)
                               (.seq (.region [] [
                                 ⟨some 85, .move (.v 2), none, true⟩,
                                 ⟨some 6, .assign (.t 85), none, true⟩,
                                 ⟨some 7, .assign (.c (.bool true)), none, true⟩])
                                (.ret))
                               (.skip)))
                             (.seq (.region [] [
                               ⟨some 86, .move (.v 1), none, true⟩,
                               ⟨some 6, .assign (.t 86), none, true⟩,
                               ⟨some 7, .assign (.c (.bool true)), none, true⟩])
                              (.ret)))
                            (.seq (.region [] [
                              ⟨some 88, .bin .eql (.v 12) (.c (.int .i64 19)), none, true⟩,
                              ⟨some 87, .assign (.t 88), none, true⟩])
                             (.cond (.v 87)
                              (.seq (.seq (.region [] [
                                 ⟨some 89, .move (.v 2), none, true⟩,
                                 ⟨some 90, .call 42 [.t 89], none, true⟩,
                                 ⟨some 91, .move (.v 1), none, true⟩,
                                 ⟨some 92, .call 42 [.t 91], none, true⟩,
                                 ⟨some 93, .bin .gtr (.t 90) (.t 92), none, true⟩])
                                (.cond (.v 93)
                                 (.seq (.region [] [
                                   ⟨some 94, .move (.v 2), none, true⟩,
                                   ⟨some 6, .assign (.t 94), none, true⟩,
                                   ⟨some 7, .assign (.c (.bool true)), none, true⟩])
                                  (.ret))
                                 (.skip)))
                               (.seq (.region [] [
                                 ⟨some 95, .move (.v 1), none, true⟩,
                                 ⟨some 6, .assign (.t 95), none, true⟩,
                                 ⟨some 7, .assign (.c (.bool true)), none, true⟩])
                                (.ret)))
                              (.seq (.region [] [
                                ⟨some 97, .bin .eql (.v 12) (.c (.int .i64 20)), none, true⟩,
                                ⟨some 96, .assign (.t 97), none, true⟩])
                               (.cond (.v 96)
                                (.seq (.region [] [
                                  ⟨some 98, .move (.v 1), none, true⟩,
                                  ⟨some 99, .move (.v 8), none, true⟩,
                                  ⟨some 100, .call 62 [.t 98, .t 99], none, true⟩,
                                  ⟨some 6, .assign (.t 100), none, true⟩,
                                  ⟨some 7, .assign (.c (.bool true)), none, true⟩])
                                 (.ret))
                                (.seq (.region [] [
                                  ⟨some 102, .bin .eql (.v 12) (.c (.int .i64 21)), none, true⟩,
                                  ⟨some 101, .assign (.t 102), none, true⟩])
                                 (.cond (.v 101)
                                  (.seq (.region [] [
                                    ⟨some 103, .move (.v 1), none, true⟩,
                                    ⟨some 104, .call 63 [.t 103], none, true⟩,
                                    ⟨some 105, .conv .u32 (.t 104), none, true⟩,
                                    ⟨some 6, .assign (.t 105), none, true⟩,
                                    ⟨some 7, .assign (.c (.bool true)), none, true⟩])
                                   (.ret))
                                  (.seq (.region [] [
                                    ⟨some 107, .bin .eql (.v 12) (.c (.int .i64 22)), none, true⟩,
                                    ⟨some 106, .assign (.t 107), none, true⟩])
                                   (.cond (.v 106)
                                    (.seq (.region [] [
                                      ⟨some 108, .move (.v 1), none, true⟩,
                                      ⟨some 109, .call 64 [.t 108], none, true⟩,
                                      ⟨some 110, .conv .u32 (.t 109), none, true⟩,
                                      ⟨some 6, .assign (.t 110), none, true⟩,
                                      ⟨some 7, .assign (.c (.bool true)), none, true⟩])
                                     (.ret))
                                    (.seq (.region [] [
                                      ⟨some 112, .bin .eql (.v 12) (.c (.int .i64 23)), none, true⟩,
                                      ⟨some 111, .assign (.t 112), none, true⟩])
                                     (.cond (.v 111)
                                      (.seq (.region [] [
                                        ⟨some 113, .move (.v 1), none, true⟩,
                                        ⟨some 114, .call 65 [.t 113], none, true⟩,
                                        ⟨some 6, .assign (.t 114), none, true⟩,
                                        ⟨some 7, .assign (.c (.bool true)), none, true⟩])
                                       (.ret))
                                      (.seq (.region [] [
                                        ⟨some 116, .bin .eql (.v 12) (.c (.int .i64 33)), none, true⟩,
                                        ⟨some 115, .assign (.t 116), none, true⟩])
                                       (.cond (.v 115)
                                        (.seq (.region [] [
                                          ⟨some 117, .move (.v 2), none, true⟩,
                                          ⟨some 118, .bin .mul (.t 117) (.c (.int .u32 16384)), none, true⟩,
                                          ⟨some 6, .assign (.t 118), none, true⟩,
                                          ⟨some 7, .assign (.c (.bool true)), none, true⟩])
                                         (.ret))
                                        (.skip)))))))))))))))))))))))))))))))))))))
    (.seq (.region [] [
      ⟨some 6, .assign (.c (.int .u32 0)), none, true⟩,
      ⟨some 7, .assign (.c (.bool false)), none, true⟩])
     (.ret))))
def g41 : AFn := { np := 3, keep := [0, 1, 2, 6, 7, 8, 12, 13, 19, 24, 30, 36, 42, 49, 55, 63, 72, 78, 84, 87, 93, 96, 101, 106, 111, 115], res := [.tmp 6, .tmp 7], fresh := true, body := c41 }
/-- cotterel/cotterelref03.signed -/
def c42 : ACode :=
 .seq (.region [] [
   ⟨some 2, .assign (.c (.int .i64 0)), none, true⟩])
  (.seq (.seq (.region [] [
     ⟨some 3, .move (.v 0), none, true⟩,
     ⟨some 4, .bin .geq (.t 3) (.c (.int .u32 2147483648)), none, true⟩])
    (.cond (.v 4)
     (.seq (.region [] [
       ⟨some 5, .move (.v 0), none, true⟩,
       ⟨some 6, .conv .i64 (.t 5), none, true⟩,
       ⟨some 7, .bin .sub (.t 6) (.c (.int .i64 4294967296)), none, true⟩,
       ⟨some 2, .assign (.t 7), none, true⟩])
      (.ret))
     (.skip)))
   (.seq (.region [] [
     ⟨some 8, .move (.v 0), none, true⟩,
     ⟨some 9, .conv .i64 (.t 8), none, true⟩,
     ⟨some 2, .assign (.t 9), none, true⟩])
    (.ret)))
def g42 : AFn := { np := 1, keep := [0, 2, 4], res := [.tmp 2], fresh := true, body := c42 }
/-- cotterel/bits.ones -/
def c43 : ACode :=
 .seq (.region [] [
   ⟨some 2, .assign (.c (.int .u32 0)), none, true⟩])
  (.seq (.region [] [
    ⟨some 3, .move (.v 0), none, true⟩,
    ⟨some 4, .bin .shl (.c (.int .u64 1)) (.t 3), none, true⟩,
    ⟨some 5, .bin .sub (.t 4) (.c (.int .u64 1)), none, true⟩,
    ⟨some 6, .conv .u32 (.t 5), none, true⟩,
    ⟨some 2, .assign (.t 6), none, true⟩])
   (.ret))
def g43 : AFn := { np := 1, keep := [0, 2], res := [.tmp 2], fresh := true, body := c43 }
/-- cotterel/bits.clamp -/
def c44 : ACode :=
 .seq (.region [] [
   ⟨some 6, .assign (.c (.int .i64 0)), none, true⟩])
  (.seq (.region [] [
    ⟨some 7, .move (.v 0), none, true⟩,
    ⟨some 8, .move (.v 1), none, true⟩,
    ⟨some 9, .mm true [.t 7, .t 8], none, true⟩,
    ⟨some 10, .move (.v 2), none, true⟩,
    ⟨some 11, .mm false [.t 9, .t 10], none, true⟩,
    ⟨some 6, .assign (.t 11), none, true⟩])
   (.ret))
def g44 : AFn := { np := 3, keep := [0, 1, 2, 6], res := [.tmp 6], fresh := true, body := c44 }
/-- cotterel/cotterelref01.brought -/
def c45 : ACode :=
 .seq (.region [] [
   ⟨some 6, .assign (.c (.int .i64 0)), none, true⟩])
  (.seq (.seq (.region [] [
     ⟨some 7, .move (.v 0), none, true⟩,
     ⟨some 8, .move (.v 1), none, true⟩,
     ⟨some 9, .bin .lss (.t 7) (.t 8), none, true⟩])
    (.cond (.v 9)
     (.seq (.region [] [
       ⟨some 10, .move (.v 1), none, true⟩,
       ⟨some 6, .assign (.t 10), none, true⟩])
      (.ret))
     (.skip)))
   (.seq (.seq (.region [] [
      ⟨some 11, .move (.v 0), none, true⟩,
      ⟨some 12, .move (.v 2), none, true⟩,
      ⟨some 13, .bin .gtr (.t 11) (.t 12), none, true⟩])
     (.cond (.v 13)
      (.seq (.region [] [
        ⟨some 14, .move (.v 2), none, true⟩,
        ⟨some 6, .assign (.t 14), none, true⟩])
       (.ret))
      (.skip)))
    (.seq (.region [] [
      ⟨some 15, .move (.v 0), none, true⟩,
      ⟨some 6, .assign (.t 15), none, true⟩])
     (.ret))))
def g45 : AFn := { np := 3, keep := [0, 1, 2, 6, 9, 13], res := [.tmp 6], fresh := true, body := c45 }
/-- cotterel/cotterelref01.bit -/
def c46 : ACode :=
 .seq (.region [] [
   ⟨some 4, .assign (.c (.int .u32 0)), none, true⟩])
  (.seq (.region [] [
    ⟨some 5, .move (.v 0), none, true⟩,
    ⟨some 6, .move (.v 1), none, true⟩,
    ⟨some 7, .call 47 [.t 6], none, true⟩,
    ⟨some 8, .bin .quo (.t 5) (.t 7), none, true⟩,
    ⟨some 9, .bin .rem (.t 8) (.c (.int .u32 2)), none, true⟩,
    ⟨some 4, .assign (.t 9), none, true⟩])
   (.ret))
def g46 : AFn := { np := 2, keep := [0, 1, 4], res := [.tmp 4], fresh := true, body := c46 }
/-- cotterel/cotterelref01.power -/
def c47 : ACode :=
 .seq (.region [] [
   ⟨some 2, .assign (.c (.int .u32 0)), none, true⟩])
  (.seq (.region [] [
    ⟨some 3, .assign (.c (.int .u32 1)), none, true⟩])
   (.seq (.seq (.region [] [
      ⟨some 4, .assign (.c (.int .i64 0)), none, true⟩])
     (.block 0 (.loop (.seq (.seq (.region [] [
          ⟨some 5, .move (.v 4), none, true⟩,
          ⟨some 6, .move (.v 0), none, true⟩,
          ⟨some 7, .bin .lss (.t 5) (.t 6), none, true⟩])
         (.cond (.v 7)
          (.skip)
          (.exit 0)))
        (.seq (.block 1 (.region [] [
           ⟨some 10, .move (.v 3), none, true⟩,
           ⟨some 11, .bin .mul (.t 10) (.c (.int .u32 2)), none, true⟩,
           ⟨some 3, .assign (.t 11), none, true⟩]))
         (.region [] [
          ⟨some 8, .move (.v 4), none, true⟩,
          ⟨some 9, .bin .add (.t 8) (.c (.int .i64 1)), none, true⟩,
          ⟨some 4, .assign (.t 9), none, true⟩]))))))
    (.seq (.region [] [
      ⟨some 12, .move (.v 3), none, true⟩,
      ⟨some 2, .assign (.t 12), none, true⟩])
     (.ret))))
def g47 : AFn := { np := 1, keep := [0, 2, 3, 4, 7], res := [.tmp 2], fresh := true, body := c47 }
/-- cotterel/mul.Run -/
def c48 : ACode :=
 .seq (.region [1] [
   ⟨some 1, .box (.v 0), none, true⟩,
   ⟨some 2, .assign (.c (.int .u32 0)), none, true⟩,
   ⟨some 3, .assign (.c (.int .u32 0)), none, true⟩])
  (.seq (.region [] [
    ⟨some 4, .addOff (.v 1) 4, none, true⟩,
    ⟨some 5, .load1 (.t 4), none, true⟩,
    ⟨some 6, .mm true [.t 5, .c (.int .i64 0)], none, true⟩,
    ⟨some 7, .mm false [.t 6, .c (.int .i64 32)], none, true⟩,
    ⟨some 8, .addOff (.v 1) 4, none, true⟩,
    ⟨none, .store 1 (.t 8) (.t 7), none, true⟩])
   (.seq (.seq (.region [] [
      ⟨some 9, .addOff (.v 1) 4, none, true⟩,
      ⟨some 10, .load1 (.t 9), none, true⟩,
      ⟨some 11, .move (.c (.int .i64 0)), none, true⟩])
     (.block 0 (.loop (.seq (.region [] [
         ⟨some 12, .bin .lss (.v 11) (.v 10), none, true⟩])
        (.seq (.cond (.v 12)
          (.skip)
          (.exit 0))
         (.seq (.block 1 (.region [] [
            ⟨some 13, .loadN 5 (.v 1), none, true⟩,
            ⟨some 14, .call 66 [.t 13], none, true⟩,
            ⟨none, .store 5 (.v 1) (.t 14), none, true⟩]))
          (.region [] [
           ⟨some 15, .bin .add (.v 11) (.c (.int .i64 1)), none, true⟩,
           ⟨some 11, .move (.t 15), none, true⟩])))))))
    (.seq (.draw [] [
      ⟨some 16, .addOff (.v 1) 2, none, false⟩,
      ⟨some 17, .load1 (.t 16), none, false⟩,
      ⟨some 18, .addOff (.v 1) 3, none, false⟩,
      ⟨some 19, .load1 (.t 18), none, false⟩,
      ⟨some 2, .assign (.t 17), none, false⟩,
      ⟨some 3, .assign (.t 19), none, true⟩])
     (.ret))))
def g48 : AFn := { np := 1, keep := [0, 1, 2, 3, 10, 11, 12], res := [.tmp 2, .tmp 3], fresh := true, body := c48 }
/-- cotterel/mul.New -/
def c49 : ACode :=
 .seq (.region [4] [
   ⟨some 4, .alloc [.int .u32 0, .int .u32 0, .int .u32 0, .int .u32 0, .int .i64 0], none, true⟩])
  (.seq (.region [] [
    ⟨some 5, .move (.v 0), none, true⟩,
    ⟨some 6, .move (.v 1), none, true⟩,
    ⟨some 7, .build [.int .u32 0, .int .u32 0, .int .u32 0, .int .u32 0, .int .i64 0] [(0, 1, .t 5), (1, 1, .t 6), (4, 1, .c (.int .i64 32))], none, true⟩,
    ⟨none, .store 5 (.v 4) (.t 7), none, true⟩])
   (.ret))
def g49 : AFn := { np := 2, keep := [0, 1, 4], res := [.cells 4 5], fresh := true, body := c49 }
/-- cotterel/mul.less -/
def c50 : ACode :=
 .seq (.region [] [
   ⟨some 4, .assign (.c (.int .u32 0)), none, true⟩])
  (.seq (.seq (.region [] [
     ⟨some 5, .move (.v 0), none, true⟩,
     ⟨some 6, .bin .shr (.t 5) (.c (.int .u64 31)), none, true⟩,
     ⟨some 7, .bin .eql (.t 6) (.c (.int .u32 1)), none, true⟩])
    (.cond (.v 7)
     (.seq (.region [] [
       ⟨some 8, .move (.v 1), none, true⟩,
       ⟨some 4, .assign (.t 8), none, true⟩])
      (.ret))
     (.skip)))
   (.seq (.region [] [
     ⟨some 4, .assign (.c (.int .u32 0)), none, true⟩])
    (.ret)))
def g50 : AFn := { np := 2, keep := [0, 1, 4, 7], res := [.tmp 4], fresh := true, body := c50 }
/-- cotterel/div.Run -/
def c51 : ACode :=
 .seq (.region [1] [
   ⟨some 1, .box (.v 0), none, true⟩,
   ⟨some 2, .assign (.c (.int .u32 0)), none, true⟩,
   ⟨some 3, .assign (.c (.int .u32 0)), none, true⟩])
  (.seq (.seq (.region [] [
     ⟨some 4, .addOff (.v 1) 4, none, true⟩,
     ⟨some 5, .load1 (.t 4), none, true⟩,
     ⟨some 6, .call 67 [.t 5], none, true⟩,
     ⟨some 7, .move (.c (.int .i64 0)), none, true⟩])
    (.block 0 (.loop (.seq (.region [] [
        ⟨some 8, .bin .lss (.v 7) (.v 6), none, true⟩])
       (.seq (.cond (.v 8)
         (.skip)
         (.exit 0))
        (.seq (.block 1 (.region [] [
           ⟨some 9, .loadN 5 (.v 1), none, true⟩,
           ⟨some 10, .call 68 [.t 9], none, true⟩,
           ⟨none, .store 5 (.v 1) (.t 10), none, true⟩]))
         (.region [] [
          ⟨some 11, .bin .add (.v 7) (.c (.int .i64 1)), none, true⟩,
          ⟨some 7, .move (.t 11), none, true⟩])))))))
   (.seq (.draw [] [
     ⟨some 12, .addOff (.v 1) 2, none, false⟩,
     ⟨some 13, .load1 (.t 12), none, false⟩,
     ⟨some 14, .addOff (.v 1) 3, none, false⟩,
     ⟨some 15, .load1 (.t 14), none, false⟩,
     ⟨some 2, .assign (.t 13), none, false⟩,
     ⟨some 3, .assign (.t 15), none, true⟩])
    (.ret)))
def g51 : AFn := { np := 1, keep := [0, 1, 2, 3, 6, 7, 8], res := [.tmp 2, .tmp 3], fresh := true, body := c51 }
/-- cotterel/div.New -/
def c52 : ACode :=
 .seq (.region [4] [
   ⟨some 4, .alloc [.int .u32 0, .int .u32 0, .int .u32 0, .int .u32 0, .int .i64 0], none, true⟩])
  (.seq (.region [] [
    ⟨some 5, .move (.v 0), none, true⟩,
    ⟨some 6, .move (.v 1), none, true⟩,
    ⟨some 7, .build [.int .u32 0, .int .u32 0, .int .u32 0, .int .u32 0, .int .i64 0] [(0, 1, .t 5), (1, 1, .t 6), (4, 1, .c (.int .i64 32))], none, true⟩,
    ⟨none, .store 5 (.v 4) (.t 7), none, true⟩])
   (.ret))
def g52 : AFn := { np := 2, keep := [0, 1, 4], res := [.cells 4 5], fresh := true, body := c52 }
/-- cotterel/div.away -/
def c53 : ACode :=
 .seq (.region [] [
   ⟨some 2, .assign (.c (.int .u32 0)), none, true⟩])
  (.seq (.seq (.region [] [
     ⟨some 3, .move (.v 0), none, true⟩,
     ⟨some 4, .conv .i32 (.t 3), none, true⟩,
     ⟨some 5, .bin .lss (.t 4) (.c (.int .i32 0)), none, true⟩])
    (.cond (.v 5)
     (.seq (.region [] [
       ⟨some 6, .move (.v 0), none, true⟩,
       ⟨some 7, .un .neg (.t 6), none, true⟩,
       ⟨some 2, .assign (.t 7), none, true⟩])
      (.ret))
     (.skip)))
   (.seq (.region [] [
     ⟨some 8, .move (.v 0), none, true⟩,
     ⟨some 2, .assign (.t 8), none, true⟩])
    (.ret)))
def g53 : AFn := { np := 1, keep := [0, 2, 5], res := [.tmp 2], fresh := true, body := c53 }
/-- cotterel/alu.one -/
def c54 : ACode :=
 .seq (.region [] [
   ⟨some 2, .assign (.c (.int .u32 0)), none, true⟩])
  (.seq (.seq (.region [] [
     ⟨some 3, .move (.v 0), none, true⟩])
    (.cond (.v 3)
     (.seq (.region [] [
       ⟨some 2, .assign (.c (.int .u32 1)), none, true⟩])
      (.ret))
     (.skip)))
   (.seq (.region [] [
     ⟨some 2, .assign (.c (.int .u32 0)), none, true⟩])
    (.ret)))
def g54 : AFn := { np := 1, keep := [0, 2, 3], res := [.tmp 2], fresh := true, body := c54 }
/-- cotterel/alu.single -/
def c55 : ACode :=
 .seq (.region [] [
   ⟨some 4, .assign (.c (.int .u32 0)), none, true⟩,
   ⟨some 5, .assign (.c (.bool false)), none, true⟩])
  (.seq (.seq (.region [] [
     ⟨some 6, .move (.v 0), none, true⟩])
    (.block 0 (.seq (.region [] [
       ⟨some 8, .bin .eql (.v 6) (.c (.int .i64 21)), none, true⟩,
       ⟨some 7, .assign (.t 8), none, true⟩])
      (.cond (.v 7)
       (.seq (.region [] [
         ⟨some 9, .move (.v 1), none, true⟩,
         ⟨some 10, .call 69 [.t 9], none, true⟩,
         ⟨some 11, .conv .u32 (.t 10), none, true⟩,
         ⟨some 4, .assign (.t 11), none, true⟩,
         ⟨some 5, .assign (.c (.bool true)), none, true⟩])
        (.ret))
       (.seq (.region [] [
         ⟨some 13, .bin .eql (.v 6) (.c (.int .i64 22)), none, true⟩,
         ⟨some 12, .assign (.t 13), none, true⟩])
        (.cond (.v 12)
         (.seq (.region [] [
           ⟨some 14, .move (.v 1), none, true⟩,
           ⟨some 15, .call 70 [.t 14], none, true⟩,
           ⟨some 16, .conv .u32 (.t 15), none, true⟩,
           ⟨some 4, .assign (.t 16), none, true⟩,
           ⟨some 5, .assign (.c (.bool true)), none, true⟩])
          (.ret))
         (.seq (.region [] [
           ⟨some 18, .bin .eql (.v 6) (.c (.int .i64 23)), none, true⟩,
           ⟨some 17, .assign (.t 18), none, true⟩])
          (.cond (.v 17)
           (.seq (.region [] [
             ⟨some 19, .move (.v 1), none, true⟩,
             ⟨some 20, .call 71 [.t 19], none, true⟩,
             ⟨some 4, .assign (.t 20), none, true⟩,
             ⟨some 5, .assign (.c (.bool true)), none, true⟩])
            (.ret))
           (.skip)))))))))
   (.seq (.region [] [
     ⟨some 4, .assign (.c (.int .u32 0)), none, true⟩,
     ⟨some 5, .assign (.c (.bool false)), none, true⟩])
    (.ret)))
def g55 : AFn := { np := 2, keep := [0, 1, 4, 5, 6, 7, 12, 17], res := [.tmp 4, .tmp 5], fresh := true, body := c55 }
/-- cotterel/alu.logic -/
def c56 : ACode :=
 .seq (.region [] [
   ⟨some 6, .assign (.c (.int .u32 0)), none, true⟩,
   ⟨some 7, .assign (.c (.bool false)), none, true⟩])
  (.seq (.seq (.region [] [
     ⟨some 8, .move (.v 0), none, true⟩])
    (.block 0 (.seq (.seq (.region [] [
        ⟨some 10, .bin .eql (.v 8) (.c (.int .i64 3)), none, true⟩,
        ⟨some 9, .assign (.t 10), none, true⟩])
       (.cond (.v 9)
        (.skip)
        (.region [] [
         ⟨some 11, .bin .eql (.v 8) (.c (.int .i64 26)), none, true⟩,
         ⟨some 9, .assign (.t 11), none, true⟩])))
      (.cond (.v 9)
       (.seq (.region [] [
         ⟨some 12, .move (.v 1), none, true⟩,
         ⟨some 13, .move (.v 2), none, true⟩,
         ⟨some 14, .bin .and (.t 12) (.t 13), none, true⟩,
         ⟨some 6, .assign (.t 14), none, true⟩,
         ⟨some 7, .assign (.c (.bool true)), none, true⟩])
        (.ret))
       (.seq (.seq (.region [] [
          ⟨some 16, .bin .eql (.v 8) (.c (.int .i64 4)), none, true⟩,
          ⟨some 15, .assign (.t 16), none, true⟩])
         (.cond (.v 15)
          (.skip)
          (.region [] [
           ⟨some 17, .bin .eql (.v 8) (.c (.int .i64 27)), none, true⟩,
           ⟨some 15, .assign (.t 17), none, true⟩])))
        (.cond (.v 15)
         (.seq (.region [] [
           ⟨some 18, .move (.v 1), none, true⟩,
           ⟨some 19, .move (.v 2), none, true⟩,
           ⟨some 20, .bin .or (.t 18) (.t 19), none, true⟩,
           ⟨some 6, .assign (.t 20), none, true⟩,
           ⟨some 7, .assign (.c (.bool true)), none, true⟩])
          (.ret))
         (.seq (.seq (.region [] [
            ⟨some 22, .bin .eql (.v 8) (.c (.int .i64 5)), none, true⟩,
            ⟨some 21, .assign (.t 22), none, true⟩])
           (.cond (.v 21)
            (.skip)
            (.region [] [
             ⟨some 23, .bin .eql (.v 8) (.c (.int .i64 28)), none, true⟩,
             ⟨some 21, .assign (.t 23), none, true⟩])))
          (.cond (.v 21)
           (.seq (.region [] [
             ⟨some 24, .move (.v 1), none, true⟩,
             ⟨some 25, .move (.v 2), none, true⟩,
             ⟨some 26, .bin .xor (.t 24) (.t 25), none, true⟩,
             ⟨some 6, .assign (.t 26), none, true⟩,
             ⟨some 7, .assign (.c (.bool true)), none, true⟩])
            (.ret))
           (.seq (.seq (.region [] [
              ⟨some 28, .bin .eql (.v 8) (.c (.int .i64 6)), none, true⟩,
              ⟨some 27, .assign (.t 28), none, true⟩])
             (.cond (.v 27)
              (.skip)
              (.region [] [
               ⟨some 29, .bin .eql (.v 8) (.c (.int .i64 30)), none, true⟩,
               ⟨some 27, .assign (.t 29), none, true⟩])))
            (.cond (.v 27)
             (.seq (.region [] [
               ⟨some 30, .move (.v 1), none, true⟩,
               ⟨some 31, .move (.v 2), none, true⟩,
               ⟨some 32, .call 72 [.t 31], none, true⟩,
               ⟨some 33, .bin .shl (.t 30) (.t 32), none, true⟩,
               ⟨some 6, .assign (.t 33), none, true⟩,
               ⟨some 7, .assign (.c (.bool true)), none, true⟩])
              (.ret))
             (.seq (.seq (.region [] [
                ⟨some 35, .bin .eql (.v 8) (.c (.int .i64 7)), none, true⟩,
                ⟨some 34, .assign (.t 35), none, true⟩])
               (.cond (.v 34)
                (.skip)
                (.region [] [
                 ⟨some 36, .bin .eql (.v 8) (.c (.int .i64 31)), none, true⟩,
                 ⟨some 34, .assign (.t 36), none, true⟩])))
              (.cond (.v 34)
               (.seq (.region [] [
                 ⟨some 37, .move (.v 1), none, true⟩,
                 ⟨some 38, .move (.v 2), none, true⟩,
                 ⟨some 39, .call 72 [.t 38], none, true⟩,
                 ⟨some 40, .bin .shr (.t 37) (.t 39), none, true⟩,
                 ⟨some 6, .assign (.t 40), none, true⟩,
                 ⟨some 7, .assign (.c (.bool true)), none, true⟩])
                (.ret))
               (.seq (.seq (.region [] [
                  ⟨some 42, .bin .eql (.v 8) (.c (.int .i64 8)), none, true⟩,
                  ⟨some 41, .assign (.t 42), none, true⟩])
                 (.cond (.v 41)
                  (.skip)
                  (.region [] [
                   ⟨some 43, .bin .eql (.v 8) (.c (.int .i64 32)), none, true⟩,
                   ⟨some 41, .assign (.t 43), none, true⟩])))
                (.cond (.v 41)
                 (.seq (.region [] [
                   ⟨some 44, .move (.v 1), none, true⟩,
                   ⟨some 45, .conv .i32 (.t 44), none, true⟩,
                   ⟨some 46, .move (.v 2), none, true⟩,
                   ⟨some 47, .call 72 [.t 46], none, true⟩,
                   ⟨some 48, .bin .shr (.t 45) (.t 47), none, true⟩,
                   ⟨some 49, .conv .u32 (.t 48), none, true⟩,
                   ⟨some 6, .assign (.t 49), none, true⟩,
                   ⟨some 7, .assign (.c (.bool true)), none, true⟩])
                  (.ret))
                 (.seq (.region [] [
                   ⟨some 51, .bin .eql (.v 8) (.c (.int .i64 20)), none, true⟩,
                   ⟨some 50, .assign (.t 51), none, true⟩])
                  (.cond (.v 50)
                   (.seq (.region [] [
                     ⟨some 52, .move (.v 1), none, true⟩,
                     ⟨some 53, .move (.v 2), none, true⟩,
                     ⟨some 54, .call 72 [.t 53], none, true⟩,
                     ⟨some 55, .conv .i64 (.t 54), none, true⟩,
                     ⟨some 56, .call 73 [.t 52, .t 55], none, true⟩,
                     ⟨some 6, .assign (.t 56), none, true⟩,
                     ⟨some 7, .assign (.c (.bool true)), none, true⟩])
                    (.ret))
                   (.skip)))))))))))))))))
   (.seq (.region [] [
     ⟨some 6, .assign (.c (.int .u32 0)), none, true⟩,
     ⟨some 7, .assign (.c (.bool false)), none, true⟩])
    (.ret)))
def g56 : AFn := { np := 3, keep := [0, 1, 2, 6, 7, 8, 9, 15, 21, 27, 34, 41, 50], res := [.tmp 6, .tmp 7], fresh := true, body := c56 }
/-- cotterel/cotterelref04.signed -/
def c57 : ACode :=
 .seq (.region [] [
   ⟨some 2, .assign (.c (.int .i64 0)), none, true⟩])
  (.seq (.seq (.region [] [
     ⟨some 3, .move (.v 0), none, true⟩,
     ⟨some 4, .bin .geq (.t 3) (.c (.int .u32 2147483648)), none, true⟩])
    (.cond (.v 4)
     (.seq (.region [] [
       ⟨some 5, .move (.v 0), none, true⟩,
       ⟨some 6, .conv .i64 (.t 5), none, true⟩,
       ⟨some 7, .bin .sub (.t 6) (.c (.int .i64 4294967296)), none, true⟩,
       ⟨some 2, .assign (.t 7), none, true⟩])
      (.ret))
     (.skip)))
   (.seq (.region [] [
     ⟨some 8, .move (.v 0), none, true⟩,
     ⟨some 9, .conv .i64 (.t 8), none, true⟩,
     ⟨some 2, .assign (.t 9), none, true⟩])
    (.ret)))
def g57 : AFn := { np := 1, keep := [0, 2, 4], res := [.tmp 2], fresh := true, body := c57 }
/-- cotterel/cotterelref03.logic -/
def c58 : ACode :=
 .seq (.region [] [
   ⟨some 8, .assign (.c (.int .u32 0)), none, true⟩])
  (.seq (.region [9] [
    ⟨some 9, .alloc [.int .u32 0, .int .u32 0, .int .u32 0, .int .u32 0, .int .u32 0, .int .u32 0, .int .u32 0, .int .u32 0, .int .u32 0, .int .u32 0, .int .u32 0, .int .u32 0, .int .u32 0, .int .u32 0, .int .u32 0, .int .u32 0, .int .u32 0, .int .u32 0, .int .u32 0, .int .u32 0, .int .u32 0, .int .u32 0, .int .u32 0, .int .u32 0, .int .u32 0, .int .u32 0, .int .u32 0, .int .u32 0, .int .u32 0, .int .u32 0, .int .u32 0, .int .u32 0], none, true⟩])
   (.seq (.seq (.region [] [
      ⟨some 10, .assign (.c (.int .i64 0)), none, true⟩])
     (.block 0 (.loop (.seq (.seq (.region [] [
          ⟨some 12, .move (.v 10), none, true⟩,
          ⟨some 13, .bin .lss (.t 12) (.c (.int .i64 32)), none, true⟩])
         (.cond (.v 13)
          (.skip)
          (.exit 0)))
        (.seq (.block 1 (.seq (.region [] [
            ⟨some 16, .move (.v 0), none, true⟩,
            ⟨some 17, .move (.v 10), none, true⟩,
            ⟨some 18, .call 60 [.t 16, .t 17], none, true⟩,
            ⟨some 19, .move (.v 1), none, true⟩,
            ⟨some 20, .move (.v 10), none, true⟩,
            ⟨some 21, .call 60 [.t 19, .t 20], none, true⟩,
            ⟨some 22, .bin .add (.t 18) (.t 21), none, true⟩,
            ⟨some 11, .assign (.t 22), none, true⟩])
           (.seq (.region [] [
             ⟨some 23, .move (.v 11), none, true⟩,
             ⟨some 24, .move (.v 2), none, true⟩,
             ⟨some 25, .bin .geq (.t 23) (.t 24), none, true⟩,
             ⟨some 26, .move (.t 25), none, true⟩,
             ⟨some 27, .move (.v 11), some (26, true), true⟩,
             ⟨some 28, .move (.v 3), some (26, true), true⟩,
             ⟨some 29, .bin .leq (.t 27) (.t 28), some (26, true), true⟩,
             ⟨some 30, .pick (.t 26) (.t 29) (.c (.bool false)), none, true⟩])
            (.cond (.v 30)
             (.region [] [
              ⟨some 31, .move (.v 10), none, true⟩,
              ⟨some 32, .idxA 32 1 (.v 9) (.t 31), none, true⟩,
              ⟨none, .store 1 (.t 32) (.c (.int .u32 1)), none, true⟩])
             (.skip)))))
         (.region [] [
          ⟨some 14, .move (.v 10), none, true⟩,
          ⟨some 15, .bin .add (.t 14) (.c (.int .i64 1)), none, true⟩,
          ⟨some 10, .assign (.t 15), none, true⟩]))))))
    (.seq (.region [] [
      ⟨some 33, .loadN 32 (.v 9), none, true⟩,
      ⟨some 34, .call 74 [.t 33], none, true⟩,
      ⟨some 8, .assign (.t 34), none, true⟩])
     (.ret))))
def g58 : AFn := { np := 4, keep := [0, 1, 2, 3, 8, 9, 10, 11, 13, 30], res := [.tmp 8], fresh := true, body := c58 }
/-- cotterel/cotterelref03.moved -/
def c59 : ACode :=
 .seq (.region [] [
   ⟨some 6, .assign (.c (.int .u32 0)), none, true⟩])
  (.seq (.region [7] [
    ⟨some 7, .alloc [.int .u32 0, .int .u32 0, .int .u32 0, .int .u32 0, .int .u32 0, .int .u32 0, .int .u32 0, .int .u32 0, .int .u32 0, .int .u32 0, .int .u32 0, .int .u32 0, .int .u32 0, .int .u32 0, .int .u32 0, .int .u32 0, .int .u32 0, .int .u32 0, .int .u32 0, .int .u32 0, .int .u32 0, .int .u32 0, .int .u32 0, .int .u32 0, .int .u32 0, .int .u32 0, .int .u32 0, .int .u32 0, .int .u32 0, .int .u32 0, .int .u32 0, .int .u32 0], none, true⟩])
   (.seq (.seq (.region [] [
      ⟨some 8, .assign (.c (.int .i64 0)), none, true⟩])
     (.block 0 (.loop (.seq (.seq (.region [] [
          ⟨some 9, .move (.v 8), none, true⟩,
          ⟨some 10, .bin .lss (.t 9) (.c (.int .i64 32)), none, true⟩])
         (.cond (.v 10)
          (.skip)
          (.exit 0)))
        (.seq (.block 1 (.seq (.region [] [
            ⟨some 13, .move (.v 8), none, true⟩,
            ⟨some 14, .move (.v 2), none, true⟩,
            ⟨some 15, .idxA 32 1 (.v 7) (.t 13), none, true⟩,
            ⟨none, .store 1 (.t 15) (.t 14), none, true⟩])
           (.seq (.region [] [
             ⟨some 16, .move (.v 8), none, true⟩,
             ⟨some 17, .move (.v 1), none, true⟩,
             ⟨some 18, .bin .add (.t 16) (.t 17), none, true⟩,
             ⟨some 19, .bin .geq (.t 18) (.c (.int .i64 0)), none, true⟩,
             ⟨some 20, .move (.t 19), none, true⟩,
             ⟨some 21, .move (.v 8), some (20, true), true⟩,
             ⟨some 22, .move (.v 1), some (20, true), true⟩,
             ⟨some 23, .bin .add (.t 21) (.t 22), some (20, true), true⟩,
             ⟨some 24, .bin .lss (.t 23) (.c (.int .i64 32)), some (20, true), true⟩,
             ⟨some 25, .pick (.t 20) (.t 24) (.c (.bool false)), none, true⟩])
            (.cond (.v 25)
             (.region [] [
              ⟨some 26, .move (.v 8), none, true⟩,
              ⟨some 27, .move (.v 0), none, true⟩,
              ⟨some 28, .move (.v 8), none, true⟩,
              ⟨some 29, .move (.v 1), none, true⟩,
              ⟨some 30, .bin .add (.t 28) (.t 29), none, true⟩,
              ⟨some 31, .call 60 [.t 27, .t 30], none, true⟩,
              ⟨some 32, .idxA 32 1 (.v 7) (.t 26), none, true⟩,
              ⟨none, .store 1 (.t 32) (.t 31), none, true⟩])
             (.skip)))))
         (.region [] [
          ⟨some 11, .move (.v 8), none, true⟩,
          ⟨some 12, .bin .add (.t 11) (.c (.int .i64 1)), none, true⟩,
          ⟨some 8, .assign (.t 12), none, true⟩]))))))
    (.seq (.region [] [
      ⟨some 33, .loadN 32 (.v 7), none, true⟩,
      ⟨some 34, .call 74 [.t 33], none, true⟩,
      ⟨some 6, .assign (.t 34), none, true⟩])
     (.ret))))
def g59 : AFn := { np := 3, keep := [0, 1, 2, 6, 7, 8, 10, 25], res := [.tmp 6], fresh := true, body := c59 }
/-- cotterel/cotterelref03.bit -/
def c60 : ACode :=
 .seq (.region [] [
   ⟨some 4, .assign (.c (.int .u32 0)), none, true⟩])
  (.seq (.seq (.region [] [
     ⟨some 5, .assign (.c (.int .i64 0)), none, true⟩])
    (.block 0 (.loop (.seq (.seq (.region [] [
         ⟨some 6, .move (.v 5), none, true⟩,
         ⟨some 7, .move (.v 1), none, true⟩,
         ⟨some 8, .bin .lss (.t 6) (.t 7), none, true⟩])
        (.cond (.v 8)
         (.skip)
         (.exit 0)))
       (.seq (.block 1 (.region [] [
          ⟨some 11, .move (.v 0), none, true⟩,
          ⟨some 12, .bin .quo (.t 11) (.c (.int .u32 2)), none, true⟩,
          ⟨some 0, .assign (.t 12), none, true⟩]))
        (.region [] [
         ⟨some 9, .move (.v 5), none, true⟩,
         ⟨some 10, .bin .add (.t 9) (.c (.int .i64 1)), none, true⟩,
         ⟨some 5, .assign (.t 10), none, true⟩]))))))
   (.seq (.region [] [
     ⟨some 13, .move (.v 0), none, true⟩,
     ⟨some 14, .bin .rem (.t 13) (.c (.int .u32 2)), none, true⟩,
     ⟨some 4, .assign (.t 14), none, true⟩])
    (.ret)))
def g60 : AFn := { np := 2, keep := [0, 1, 4, 5, 8], res := [.tmp 4], fresh := true, body := c60 }
/-- cotterel/cotterelref03.one -/
def c61 : ACode :=
 .seq (.region [] [
   ⟨some 2, .assign (.c (.int .u32 0)), none, true⟩])
  (.seq (.seq (.region [] [
     ⟨some 3, .move (.v 0), none, true⟩])
    (.cond (.v 3)
     (.seq (.region [] [
       ⟨some 2, .assign (.c (.int .u32 1)), none, true⟩])
      (.ret))
     (.skip)))
   (.seq (.region [] [
     ⟨some 2, .assign (.c (.int .u32 0)), none, true⟩])
    (.ret)))
def g61 : AFn := { np := 1, keep := [0, 2, 3], res := [.tmp 2], fresh := true, body := c61 }
/-- cotterel/cotterelref03.turned -/
def c62 : ACode :=
 .seq (.region [] [
   ⟨some 4, .assign (.c (.int .u32 0)), none, true⟩])
  (.seq (.region [5] [
    ⟨some 5, .alloc [.int .u32 0, .int .u32 0, .int .u32 0, .int .u32 0, .int .u32 0, .int .u32 0, .int .u32 0, .int .u32 0, .int .u32 0, .int .u32 0, .int .u32 0, .int .u32 0, .int .u32 0, .int .u32 0, .int .u32 0, .int .u32 0, .int .u32 0, .int .u32 0, .int .u32 0, .int .u32 0, .int .u32 0, .int .u32 0, .int .u32 0, .int .u32 0, .int .u32 0, .int .u32 0, .int .u32 0, .int .u32 0, .int .u32 0, .int .u32 0, .int .u32 0, .int .u32 0], none, true⟩])
   (.seq (.seq (.region [] [
      ⟨some 6, .assign (.c (.int .i64 0)), none, true⟩])
     (.block 0 (.loop (.seq (.seq (.region [] [
          ⟨some 7, .move (.v 6), none, true⟩,
          ⟨some 8, .bin .lss (.t 7) (.c (.int .i64 32)), none, true⟩])
         (.cond (.v 8)
          (.skip)
          (.exit 0)))
        (.seq (.block 1 (.region [] [
           ⟨some 11, .move (.v 6), none, true⟩,
           ⟨some 12, .move (.v 0), none, true⟩,
           ⟨some 13, .move (.v 6), none, true⟩,
           ⟨some 14, .move (.v 1), none, true⟩,
           ⟨some 15, .bin .add (.t 13) (.t 14), none, true⟩,
           ⟨some 16, .bin .rem (.t 15) (.c (.int .i64 32)), none, true⟩,
           ⟨some 17, .call 60 [.t 12, .t 16], none, true⟩,
           ⟨some 18, .idxA 32 1 (.v 5) (.t 11), none, true⟩,
           ⟨none, .store 1 (.t 18) (.t 17), none, true⟩]))
         (.region [] [
          ⟨some 9, .move (.v 6), none, true⟩,
          ⟨some 10, .bin .add (.t 9) (.c (.int .i64 1)), none, true⟩,
          ⟨some 6, .assign (.t 10), none, true⟩]))))))
    (.seq (.region [] [
      ⟨some 19, .loadN 32 (.v 5), none, true⟩,
      ⟨some 20, .call 74 [.t 19], none, true⟩,
      ⟨some 4, .assign (.t 20), none, true⟩])
     (.ret))))
def g62 : AFn := { np := 2, keep := [0, 1, 4, 5, 6, 8], res := [.tmp 4], fresh := true, body := c62 }
/-- cotterel/cotterelref03.Clz -/
def c63 : ACode :=
 .seq (.region [] [
   ⟨some 2, .assign (.c (.int .i64 0)), none, true⟩])
  (.seq (.region [] [
    ⟨some 3, .assign (.c (.int .i64 0)), none, true⟩])
   (.seq (.block 0 (.loop (.seq (.seq (.region [] [
         ⟨some 4, .move (.v 3), none, true⟩,
         ⟨some 5, .bin .lss (.t 4) (.c (.int .i64 32)), none, true⟩,
         ⟨some 6, .move (.t 5), none, true⟩,
         ⟨some 7, .move (.v 0), some (6, true), true⟩,
         ⟨some 8, .move (.v 3), some (6, true), true⟩,
         ⟨some 9, .bin .sub (.c (.int .i64 31)) (.t 8), some (6, true), true⟩,
         ⟨some 10, .call 60 [.t 7, .t 9], some (6, true), true⟩,
         ⟨some 11, .bin .eql (.t 10) (.c (.int .u32 0)), some (6, true), true⟩,
         ⟨some 12, .pick (.t 6) (.t 11) (.c (.bool false)), none, true⟩])
        (.cond (.v 12)
         (.skip)
         (.exit 0)))
       (.block 1 (.region [] [
         ⟨some 13, .move (.v 3), none, true⟩,
         ⟨some 14, .bin .add (.t 13) (.c (.int .i64 1)), none, true⟩,
         ⟨some 3, .assign (.t 14), none, true⟩])))))
    (.seq (.region [] [
      ⟨some 15, .move (.v 3), none, true⟩,
      ⟨some 2, .assign (.t 15), none, true⟩])
     (.ret))))
def g63 : AFn := { np := 1, keep := [0, 2, 3, 12], res := [.tmp 2], fresh := true, body := c63 }
/-- cotterel/cotterelref03.Pop -/
def c64 : ACode :=
 .seq (.region [] [
   ⟨some 2, .assign (.c (.int .i64 0)), none, true⟩])
  (.seq (.region [] [
    ⟨some 3, .assign (.c (.int .i64 0)), none, true⟩])
   (.seq (.seq (.region [] [
      ⟨some 4, .assign (.c (.int .i64 0)), none, true⟩])
     (.block 0 (.loop (.seq (.seq (.region [] [
          ⟨some 5, .move (.v 4), none, true⟩,
          ⟨some 6, .bin .lss (.t 5) (.c (.int .i64 32)), none, true⟩])
         (.cond (.v 6)
          (.skip)
          (.exit 0)))
        (.seq (.block 1 (.region [] [
           ⟨some 9, .move (.v 3), none, true⟩,
           ⟨some 10, .move (.v 0), none, true⟩,
           ⟨some 11, .move (.v 4), none, true⟩,
           ⟨some 12, .call 60 [.t 10, .t 11], none, true⟩,
           ⟨some 13, .conv .i64 (.t 12), none, true⟩,
           ⟨some 14, .bin .add (.t 9) (.t 13), none, true⟩,
           ⟨some 3, .assign (.t 14), none, true⟩]))
         (.region [] [
          ⟨some 7, .move (.v 4), none, true⟩,
          ⟨some 8, .bin .add (.t 7) (.c (.int .i64 1)), none, true⟩,
          ⟨some 4, .assign (.t 8), none, true⟩]))))))
    (.seq (.region [] [
      ⟨some 15, .move (.v 3), none, true⟩,
      ⟨some 2, .assign (.t 15), none, true⟩])
     (.ret))))
def g64 : AFn := { np := 1, keep := [0, 2, 3, 4, 6], res := [.tmp 2], fresh := true, body := c64 }
/-- cotterel/cotterelref03.Rev -/
def c65 : ACode :=
 .seq (.region [] [
   ⟨some 2, .assign (.c (.int .u32 0)), none, true⟩])
  (.seq (.region [] [
    ⟨some 3, .assign (.c (.int .u32 0)), none, true⟩])
   (.seq (.seq (.region [] [
      ⟨some 4, .assign (.c (.int .i64 0)), none, true⟩])
     (.block 0 (.loop (.seq (.seq (.region [] [
          ⟨some 5, .move (.v 4), none, true⟩,
          ⟨some 6, .bin .lss (.t 5) (.c (.int .i64 4)), none, true⟩])
         (.cond (.v 6)
          (.skip)
          (.exit 0)))
        (.seq (.block 1 (.seq (.region [] [
            ⟨some 9, .move (.v 3), none, true⟩,
            ⟨some 10, .bin .mul (.c (.int .u32 256)) (.t 9), none, true⟩,
            ⟨some 11, .move (.v 0), none, true⟩,
            ⟨some 12, .bin .rem (.t 11) (.c (.int .u32 256)), none, true⟩,
            ⟨some 13, .bin .add (.t 10) (.t 12), none, true⟩,
            ⟨some 3, .assign (.t 13), none, true⟩])
           (.region [] [
            ⟨some 14, .move (.v 0), none, true⟩,
            ⟨some 15, .bin .quo (.t 14) (.c (.int .u32 256)), none, true⟩,
            ⟨some 0, .assign (.t 15), none, true⟩])))
         (.region [] [
          ⟨some 7, .move (.v 4), none, true⟩,
          ⟨some 8, .bin .add (.t 7) (.c (.int .i64 1)), none, true⟩,
          ⟨some 4, .assign (.t 8), none, true⟩]))))))
    (.seq (.region [] [
      ⟨some 16, .move (.v 3), none, true⟩,
      ⟨some 2, .assign (.t 16), none, true⟩])
     (.ret))))
def g65 : AFn := { np := 1, keep := [0, 2, 3, 4, 6], res := [.tmp 2], fresh := true, body := c65 }
/-- cotterel/mul.Step -/
def c66 : ACode :=
 .seq (.region [1, 2] [
   ⟨some 1, .box (.v 0), none, true⟩,
   ⟨some 2, .alloc [.int .u32 0, .int .u32 0, .int .u32 0, .int .u32 0, .int .i64 0], none, true⟩])
  (.seq (.seq (.region [] [
     ⟨some 5, .addOff (.v 1) 4, none, true⟩,
     ⟨some 6, .load1 (.t 5), none, true⟩,
     ⟨some 7, .bin .lss (.t 6) (.c (.int .i64 1)), none, true⟩])
    (.cond (.v 7)
     (.seq (.region [] [
       ⟨some 8, .loadN 5 (.v 1), none, true⟩,
       ⟨none, .store 5 (.v 2) (.t 8), none, true⟩])
      (.ret))
     (.skip)))
   (.seq (.region [] [
     ⟨some 9, .addOff (.v 1) 2, none, true⟩,
     ⟨some 10, .load1 (.t 9), none, true⟩,
     ⟨some 11, .conv .u64 (.t 10), none, true⟩,
     ⟨some 3, .assign (.t 11), none, true⟩])
    (.seq (.seq (.region [] [
       ⟨some 12, .addOff (.v 1) 1, none, true⟩,
       ⟨some 13, .load1 (.t 12), none, true⟩,
       ⟨some 14, .bin .and (.t 13) (.c (.int .u32 1)), none, true⟩,
       ⟨some 15, .bin .eql (.t 14) (.c (.int .u32 1)), none, true⟩])
      (.cond (.v 15)
       (.region [] [
        ⟨some 16, .move (.v 3), none, true⟩,
        ⟨some 17, .addOff (.v 1) 0, none, true⟩,
        ⟨some 18, .load1 (.t 17), none, true⟩,
        ⟨some 19, .conv .u64 (.t 18), none, true⟩,
        ⟨some 20, .bin .add (.t 16) (.t 19), none, true⟩,
        ⟨some 3, .assign (.t 20), none, true⟩])
       (.skip)))
     (.seq (.region [] [
       ⟨some 21, .move (.v 3), none, true⟩,
       ⟨some 22, .bin .shl (.t 21) (.c (.int .u64 32)), none, true⟩,
       ⟨some 23, .addOff (.v 1) 3, none, true⟩,
       ⟨some 24, .load1 (.t 23), none, true⟩,
       ⟨some 25, .conv .u64 (.t 24), none, true⟩,
       ⟨some 26, .bin .or (.t 22) (.t 25), none, true⟩,
       ⟨some 4, .assign (.t 26), none, true⟩])
      (.seq (.region [] [
        ⟨some 27, .move (.v 3), none, true⟩,
        ⟨some 28, .bin .shr (.t 27) (.c (.int .u64 1)), none, true⟩,
        ⟨some 29, .conv .u32 (.t 28), none, true⟩,
        ⟨some 30, .move (.v 4), none, true⟩,
        ⟨some 31, .bin .shr (.t 30) (.c (.int .u64 1)), none, true⟩,
        ⟨some 32, .conv .u32 (.t 31), none, true⟩,
        ⟨some 33, .addOff (.v 1) 2, none, true⟩,
        ⟨none, .store 1 (.t 33) (.t 29), none, true⟩,
        ⟨some 34, .addOff (.v 1) 3, none, true⟩,
        ⟨none, .store 1 (.t 34) (.t 32), none, true⟩])
       (.seq (.region [] [
         ⟨some 35, .addOff (.v 1) 1, none, true⟩,
         ⟨some 36, .load1 (.t 35), none, true⟩,
         ⟨some 37, .bin .shr (.t 36) (.c (.int .u64 1)), none, true⟩,
         ⟨some 38, .addOff (.v 1) 1, none, true⟩,
         ⟨none, .store 1 (.t 38) (.t 37), none, true⟩])
        (.seq (.region [] [
          ⟨some 39, .addOff (.v 1) 4, none, true⟩,
          ⟨some 40, .load1 (.t 39), none, true⟩,
          ⟨some 41, .bin .sub (.t 40) (.c (.int .i64 1)), none, true⟩,
          ⟨some 42, .addOff (.v 1) 4, none, true⟩,
          ⟨none, .store 1 (.t 42) (.t 41), none, true⟩])
         (.seq (.region [] [
           ⟨some 43, .loadN 5 (.v 1), none, true⟩,
           ⟨none, .store 5 (.v 2) (.t 43), none, true⟩])
          (.ret)))))))))
def g66 : AFn := { np := 1, keep := [0, 1, 2, 3, 4, 7, 15], res := [.cells 2 5], fresh := true, body := c66 }
/-- cotterel/div.left -/
def c67 : ACode :=
 .seq (.region [] [
   ⟨some 2, .assign (.c (.int .i64 0)), none, true⟩])
  (.seq (.region [] [
    ⟨some 3, .move (.v 0), none, true⟩,
    ⟨some 4, .mm true [.t 3, .c (.int .i64 0)], none, true⟩,
    ⟨some 5, .mm false [.t 4, .c (.int .i64 32)], none, true⟩,
    ⟨some 2, .assign (.t 5), none, true⟩])
   (.ret))
def g67 : AFn := { np := 1, keep := [0, 2], res := [.tmp 2], fresh := true, body := c67 }
/-- cotterel/div.Step -/
def c68 : ACode :=
 .seq (.region [1, 2] [
   ⟨some 1, .box (.v 0), none, true⟩,
   ⟨some 2, .alloc [.int .u32 0, .int .u32 0, .int .u32 0, .int .u32 0, .int .i64 0], none, true⟩])
  (.seq (.region [] [
    ⟨some 4, .addOff (.v 1) 4, none, true⟩,
    ⟨some 5, .load1 (.t 4), none, true⟩,
    ⟨some 6, .call 67 [.t 5], none, true⟩,
    ⟨some 7, .addOff (.v 1) 4, none, true⟩,
    ⟨none, .store 1 (.t 7) (.t 6), none, true⟩])
   (.seq (.seq (.region [] [
      ⟨some 8, .addOff (.v 1) 4, none, true⟩,
      ⟨some 9, .load1 (.t 8), none, true⟩,
      ⟨some 10, .bin .eql (.t 9) (.c (.int .i64 0)), none, true⟩])
     (.cond (.v 10)
      (.seq (.region [] [
        ⟨some 11, .loadN 5 (.v 1), none, true⟩,
        ⟨none, .store 5 (.v 2) (.t 11), none, true⟩])
       (.ret))
      (.skip)))
    (.seq (.region [] [
      ⟨some 12, .addOff (.v 1) 4, none, true⟩,
      ⟨some 13, .load1 (.t 12), none, true⟩,
      ⟨some 14, .bin .sub (.t 13) (.c (.int .i64 1)), none, true⟩,
      ⟨some 15, .addOff (.v 1) 4, none, true⟩,
      ⟨none, .store 1 (.t 15) (.t 14), none, true⟩])
     (.seq (.region [] [
       ⟨some 16, .addOff (.v 1) 3, none, true⟩,
       ⟨some 17, .load1 (.t 16), none, true⟩,
       ⟨some 18, .conv .u64 (.t 17), none, true⟩,
       ⟨some 19, .bin .shl (.t 18) (.c (.int .u64 1)), none, true⟩,
       ⟨some 20, .addOff (.v 1) 0, none, true⟩,
       ⟨some 21, .load1 (.t 20), none, true⟩,
       ⟨some 22, .addOff (.v 1) 4, none, true⟩,
       ⟨some 23, .load1 (.t 22), none, true⟩,
       ⟨some 24, .conv .u64 (.t 23), none, true⟩,
       ⟨some 25, .bin .shr (.t 21) (.t 24), none, true⟩,
       ⟨some 26, .bin .and (.t 25) (.c (.int .u32 1)), none, true⟩,
       ⟨some 27, .conv .u64 (.t 26), none, true⟩,
       ⟨some 28, .bin .or (.t 19) (.t 27), none, true⟩,
       ⟨some 3, .assign (.t 28), none, true⟩])
      (.seq (.region [] [
        ⟨some 29, .addOff (.v 1) 2, none, true⟩,
        ⟨some 30, .load1 (.t 29), none, true⟩,
        ⟨some 31, .bin .shl (.t 30) (.c (.int .u64 1)), none, true⟩,
        ⟨some 32, .addOff (.v 1) 2, none, true⟩,
        ⟨none, .store 1 (.t 32) (.t 31), none, true⟩])
       (.seq (.seq (.region [] [
          ⟨some 33, .move (.v 3), none, true⟩,
          ⟨some 34, .addOff (.v 1) 1, none, true⟩,
          ⟨some 35, .load1 (.t 34), none, true⟩,
          ⟨some 36, .conv .u64 (.t 35), none, true⟩,
          ⟨some 37, .bin .geq (.t 33) (.t 36), none, true⟩])
         (.cond (.v 37)
          (.seq (.region [] [
            ⟨some 38, .move (.v 3), none, true⟩,
            ⟨some 39, .addOff (.v 1) 1, none, true⟩,
            ⟨some 40, .load1 (.t 39), none, true⟩,
            ⟨some 41, .conv .u64 (.t 40), none, true⟩,
            ⟨some 42, .bin .sub (.t 38) (.t 41), none, true⟩,
            ⟨some 3, .assign (.t 42), none, true⟩])
           (.region [] [
            ⟨some 43, .addOff (.v 1) 2, none, true⟩,
            ⟨some 44, .load1 (.t 43), none, true⟩,
            ⟨some 45, .bin .or (.t 44) (.c (.int .u32 1)), none, true⟩,
            ⟨some 46, .addOff (.v 1) 2, none, true⟩,
            ⟨none, .store 1 (.t 46) (.t 45), none, true⟩]))
          (.skip)))
        (.seq (.region [] [
          ⟨some 47, .move (.v 3), none, true⟩,
          ⟨some 48, .conv .u32 (.t 47), none, true⟩,
          ⟨some 49, .addOff (.v 1) 3, none, true⟩,
          ⟨none, .store 1 (.t 49) (.t 48), none, true⟩])
         (.seq (.region [] [
           ⟨some 50, .loadN 5 (.v 1), none, true⟩,
           ⟨none, .store 5 (.v 2) (.t 50), none, true⟩])
          (.ret)))))))))
def g68 : AFn := { np := 1, keep := [0, 1, 2, 3, 10, 37], res := [.cells 2 5], fresh := true, body := c68 }
/-- cotterel/alu.Clz -/
def c69 : ACode :=
 .seq (.region [] [
   ⟨some 2, .assign (.c (.int .i64 0)), none, true⟩])
  (.seq (.region [] [
    ⟨some 3, .assign (.c (.int .i64 32)), none, true⟩])
   (.seq (.block 0 (.loop (.seq (.seq (.region [] [
         ⟨some 4, .move (.v 0), none, true⟩,
         ⟨some 5, .bin .neq (.t 4) (.c (.int .u32 0)), none, true⟩])
        (.cond (.v 5)
         (.skip)
         (.exit 0)))
       (.seq (.block 1 (.region [] [
          ⟨some 8, .move (.v 3), none, true⟩,
          ⟨some 9, .bin .sub (.t 8) (.c (.int .i64 1)), none, true⟩,
          ⟨some 3, .assign (.t 9), none, true⟩]))
        (.region [] [
         ⟨some 6, .move (.v 0), none, true⟩,
         ⟨some 7, .bin .shr (.t 6) (.c (.int .u64 1)), none, true⟩,
         ⟨some 0, .assign (.t 7), none, true⟩])))))
    (.seq (.region [] [
      ⟨some 10, .move (.v 3), none, true⟩,
      ⟨some 2, .assign (.t 10), none, true⟩])
     (.ret))))
def g69 : AFn := { np := 1, keep := [0, 2, 3, 5], res := [.tmp 2], fresh := true, body := c69 }
/-- cotterel/alu.Pop -/
def c70 : ACode :=
 .seq (.region [] [
   ⟨some 2, .assign (.c (.int .i64 0)), none, true⟩])
  (.seq (.region [] [
    ⟨some 3, .assign (.c (.int .i64 0)), none, true⟩])
   (.seq (.block 0 (.loop (.seq (.seq (.region [] [
         ⟨some 4, .move (.v 0), none, true⟩,
         ⟨some 5, .bin .neq (.t 4) (.c (.int .u32 0)), none, true⟩])
        (.cond (.v 5)
         (.skip)
         (.exit 0)))
       (.seq (.block 1 (.region [] [
          ⟨some 10, .move (.v 3), none, true⟩,
          ⟨some 11, .bin .add (.t 10) (.c (.int .i64 1)), none, true⟩,
          ⟨some 3, .assign (.t 11), none, true⟩]))
        (.region [] [
         ⟨some 6, .move (.v 0), none, true⟩,
         ⟨some 7, .move (.v 0), none, true⟩,
         ⟨some 8, .bin .sub (.t 7) (.c (.int .u32 1)), none, true⟩,
         ⟨some 9, .bin .and (.t 6) (.t 8), none, true⟩,
         ⟨some 0, .assign (.t 9), none, true⟩])))))
    (.seq (.region [] [
      ⟨some 12, .move (.v 3), none, true⟩,
      ⟨some 2, .assign (.t 12), none, true⟩])
     (.ret))))
def g70 : AFn := { np := 1, keep := [0, 2, 3, 5], res := [.tmp 2], fresh := true, body := c70 }
/-- cotterel/alu.Rev -/
def c71 : ACode :=
 .seq (.region [] [
   ⟨some 2, .assign (.c (.int .u32 0)), none, true⟩])
  (.seq (.region [] [
    ⟨some 3, .move (.v 0), none, true⟩,
    ⟨some 4, .bin .shl (.t 3) (.c (.int .u64 24)), none, true⟩,
    ⟨some 5, .move (.v 0), none, true⟩,
    ⟨some 6, .bin .shl (.t 5) (.c (.int .u64 8)), none, true⟩,
    ⟨some 7, .bin .and (.t 6) (.c (.int .u32 16711680)), none, true⟩,
    ⟨some 8, .bin .or (.t 4) (.t 7), none, true⟩,
    ⟨some 9, .move (.v 0), none, true⟩,
    ⟨some 10, .bin .shr (.t 9) (.c (.int .u64 8)), none, true⟩,
    ⟨some 11, .bin .and (.t 10) (.c (.int .u32 65280)), none, true⟩,
    ⟨some 12, .bin .or (.t 8) (.t 11), none, true⟩,
    ⟨some 13, .move (.v 0), none, true⟩,
    ⟨some 14, .bin .shr (.t 13) (.c (.int .u64 24)), none, true⟩,
    ⟨some 15, .bin .or (.t 12) (.t 14), none, true⟩,
    ⟨some 2, .assign (.t 15), none, true⟩])
   (.ret))
def g71 : AFn := { np := 1, keep := [0, 2], res := [.tmp 2], fresh := true, body := c71 }
/-- cotterel/alu.low -/
def c72 : ACode :=
 .seq (.region [] [
   ⟨some 2, .assign (.c (.int .u32 0)), none, true⟩])
  (.seq (.region [] [
    ⟨some 3, .move (.v 0), none, true⟩,
    ⟨some 4, .bin .and (.t 3) (.c (.int .u32 31)), none, true⟩,
    ⟨some 2, .assign (.t 4), none, true⟩])
   (.ret))
def g72 : AFn := { np := 1, keep := [0, 2], res := [.tmp 2], fresh := true, body := c72 }
/-- cotterel/bits.Rot -/
def c73 : ACode :=
 .seq (.region [] [
   ⟨some 4, .assign (.c (.int .u32 0)), none, true⟩])
  (.seq (.region [] [
    ⟨some 5, .move (.v 0), none, true⟩,
    ⟨some 6, .move (.v 1), none, true⟩,
    ⟨some 7, .bin .rem (.t 6) (.c (.int .i64 32)), none, true⟩,
    ⟨some 8, .un .neg (.t 7), none, true⟩,
    ⟨some 9, .call 75 [.t 5, .t 8], none, true⟩,
    ⟨some 4, .assign (.t 9), none, true⟩])
   (.ret))
def g73 : AFn := { np := 2, keep := [0, 1, 4], res := [.tmp 4], fresh := true, body := c73 }
/-- cotterel/cotterelref03.word -/
def c74 : ACode :=
 .seq (.region [1] [
   ⟨some 1, .box (.v 0), none, true⟩,
   ⟨some 2, .assign (.c (.int .u32 0)), none, true⟩])
  (.seq (.region [] [
    ⟨some 3, .assign (.c (.int .u32 0)), none, true⟩])
   (.seq (.seq (.region [] [
      ⟨some 4, .assign (.c (.int .i64 31)), none, true⟩])
     (.block 0 (.loop (.seq (.seq (.region [] [
          ⟨some 5, .move (.v 4), none, true⟩,
          ⟨some 6, .bin .geq (.t 5) (.c (.int .i64 0)), none, true⟩])
         (.cond (.v 6)
          (.skip)
          (.exit 0)))
        (.seq (.block 1 (.region [] [
           ⟨some 9, .move (.v 3), none, true⟩,
           ⟨some 10, .bin .mul (.c (.int .u32 2)) (.t 9), none, true⟩,
           ⟨some 11, .move (.v 4), none, true⟩,
           ⟨some 12, .idxA 32 1 (.v 1) (.t 11), none, true⟩,
           ⟨some 13, .load1 (.t 12), none, true⟩,
           ⟨some 14, .bin .add (.t 10) (.t 13), none, true⟩,
           ⟨some 3, .assign (.t 14), none, true⟩]))
         (.region [] [
          ⟨some 7, .move (.v 4), none, true⟩,
          ⟨some 8, .bin .sub (.t 7) (.c (.int .i64 1)), none, true⟩,
          ⟨some 4, .assign (.t 8), none, true⟩]))))))
    (.seq (.region [] [
      ⟨some 15, .move (.v 3), none, true⟩,
      ⟨some 2, .assign (.t 15), none, true⟩])
     (.ret))))
def g74 : AFn := { np := 1, keep := [0, 1, 2, 3, 4, 6], res := [.tmp 2], fresh := true, body := c74 }
/-- math/bits.RotateLeft32 -/
def c75 : ACode :=
 .seq (.region [] [
   ⟨some 4, .assign (.c (.int .u32 0)), none, true⟩])
  (.seq (.region [] [
    ⟨some 6, .move (.v 1), none, true⟩,
    ⟨some 7, .conv .u64 (.t 6), none, true⟩,
    ⟨some 8, .bin .and (.t 7) (.c (.int .u64 31)), none, true⟩,
    ⟨some 5, .assign (.t 8), none, true⟩])
   (.seq (.region [] [
     ⟨some 9, .move (.v 0), none, true⟩,
     ⟨some 10, .move (.v 5), none, true⟩,
     ⟨some 11, .bin .shl (.t 9) (.t 10), none, true⟩,
     ⟨some 12, .move (.v 0), none, true⟩,
     ⟨some 13, .move (.v 5), none, true⟩,
     ⟨some 14, .bin .sub (.c (.int .u64 32)) (.t 13), none, true⟩,
     ⟨some 15, .bin .shr (.t 12) (.t 14), none, true⟩,
     ⟨some 16, .bin .or (.t 11) (.t 15), none, true⟩,
     ⟨some 4, .assign (.t 16), none, true⟩])
    (.ret)))
def g75 : AFn := { np := 2, keep := [0, 1, 4, 5], res := [.tmp 4], fresh := true, body := c75 }
def fns : AProg := fun
  | 3 => some g3
  | 4 => some g4
  | 5 => some g5
  | 6 => some g6
  | 7 => some g7
  | 8 => some g8
  | 9 => some g9
  | 10 => some g10
  | 11 => some g11
  | 12 => some g12
  | 13 => some g13
  | 14 => some g14
  | 15 => some g15
  | 16 => some g16
  | 17 => some g17
  | 18 => some g18
  | 19 => some g19
  | 20 => some g20
  | 21 => some g21
  | 22 => some g22
  | 23 => some g23
  | 24 => some g24
  | 25 => some g25
  | 26 => some g26
  | 27 => some g27
  | 28 => some g28
  | 29 => some g29
  | 30 => some g30
  | 31 => some g31
  | 32 => some g32
  | 33 => some g33
  | 34 => some g34
  | 35 => some g35
  | 36 => some g36
  | 37 => some g37
  | 38 => some g38
  | 39 => some g39
  | 40 => some g40
  | 41 => some g41
  | 42 => some g42
  | 43 => some g43
  | 44 => some g44
  | 45 => some g45
  | 46 => some g46
  | 47 => some g47
  | 48 => some g48
  | 49 => some g49
  | 50 => some g50
  | 51 => some g51
  | 52 => some g52
  | 53 => some g53
  | 54 => some g54
  | 55 => some g55
  | 56 => some g56
  | 57 => some g57
  | 58 => some g58
  | 59 => some g59
  | 60 => some g60
  | 61 => some g61
  | 62 => some g62
  | 63 => some g63
  | 64 => some g64
  | 65 => some g65
  | 66 => some g66
  | 67 => some g67
  | 68 => some g68
  | 69 => some g69
  | 70 => some g70
  | 71 => some g71
  | 72 => some g72
  | 73 => some g73
  | 74 => some g74
  | 75 => some g75
  | _ => none
end Go.Proofs.Ytcinobbeapgklaa
