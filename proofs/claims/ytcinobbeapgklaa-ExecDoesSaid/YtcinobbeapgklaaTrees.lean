/- YtcinobbeapgklaaTrees: the functions as decision trees. No statement of the seat is proved here. -/
import Derived.Test.YtcinobbeapgklaaTypes
import Derived.Test.YtcinobbeapgklaaA2D
namespace Go.Proofs.Ytcinobbeapgklaa
open Go Go.A2
/- cotterel/exec.behind -/
def T_exec_behind (u : TUop) : Tree (W .u32) :=
 .ret (W.add u.Slot.PC (W.of .u32 4))
def F_exec_behind (u : TUop) : Option (W .u32) := (T_exec_behind u).eval
/- cotterel/exec.between -/
def T_exec_between (op : W .i64) (from_1 : W .i64) (to_2 : W .i64) : Tree (Bool) :=
 .ite (W.ge op from_1) (
  .ret (W.le op to_2)) (
  .ret false)
def F_exec_between (op : W .i64) (from_1 : W .i64) (to_2 : W .i64) : Option (Bool) := (T_exec_between op from_1 to_2).eval
/- cotterel/mul.New -/
def T_mul_New (a : W .u32) (b : W .u32) : Tree (TMul) :=
 .ret (TMul.mk a b (W.of .u32 0) (W.of .u32 0) (W.of .i64 32))
def F_mul_New (a : W .u32) (b : W .u32) : Option (TMul) := (T_mul_New a b).eval
/- cotterel/mul.Step -/
def T_mul_Step (m : TMul) : Tree (TMul) :=
 .ite (W.lt m.Left (W.of .i64 1)) (
  .ret m) (
  .ite (W.eq (W.and m.B (W.of .u32 1)) (W.of .u32 1)) (
   .ret ({ m with Hi := (W.conv (.u32) (W.shr (W.add (W.conv (.u64) m.Hi) (W.conv (.u64) m.A)) (W.of .u64 1))), Lo := (W.conv (.u32) (W.shr (W.or (W.shl (W.add (W.conv (.u64) m.Hi) (W.conv (.u64) m.A)) (W.of .u64 32)) (W.conv (.u64) m.Lo)) (W.of .u64 1))), B := (W.shr m.B (W.of .u64 1)), Left := (W.sub m.Left (W.of .i64 1)) } : TMul)) (
   .ret ({ m with Hi := (W.conv (.u32) (W.shr (W.conv (.u64) m.Hi) (W.of .u64 1))), Lo := (W.conv (.u32) (W.shr (W.or (W.shl (W.conv (.u64) m.Hi) (W.of .u64 32)) (W.conv (.u64) m.Lo)) (W.of .u64 1))), B := (W.shr m.B (W.of .u64 1)), Left := (W.sub m.Left (W.of .i64 1)) } : TMul)))
def F_mul_Step (m : TMul) : Option (TMul) := (T_mul_Step m).eval
/- cotterel/mul.Run -/
def B_mul_Run_7 (m : TMul) (t_10 : W .i64) (t_11 : W .i64) : Tree (Rnd (TMul × W .i64 × W .i64 × Unit) (TMul × Unit)) :=
 .ite (W.lt t_11 t_10) (
  .opt (F_mul_Step m) fun r1 =>
  .ret (.next (r1, t_10, (W.add t_11 (W.of .i64 1)), ()))) (
  .ret (.out (m, ())))
def L_mul_Run_7 (a : TMul × W .i64 × W .i64 × Unit) : Option (TMul × Unit) := iter (fun a : TMul × W .i64 × W .i64 × Unit => (B_mul_Run_7 a.1 a.2.1 a.2.2.1).eval) fuel a
def T_mul_Run (m : TMul) : Tree (W .u32 × W .u32) :=
 .opt (L_mul_Run_7 ((({ m with Left := (W.min (W.max m.Left (W.of .i64 0)) (W.of .i64 32)) } : TMul), (W.min (W.max m.Left (W.of .i64 0)) (W.of .i64 32)), (W.of .i64 0), ()))) fun o2 =>
 .ret (o2.1.Hi, o2.1.Lo)
def F_mul_Run (m : TMul) : Option (W .u32 × W .u32) := (T_mul_Run m).eval
/- cotterel/mul.less -/
def T_mul_less (a : W .u32) (b : W .u32) : Tree (W .u32) :=
 .ite (W.eq (W.shr a (W.of .u64 31)) (W.of .u32 1)) (
  .ret b) (
  .ret (W.of .u32 0))
def F_mul_less (a : W .u32) (b : W .u32) : Option (W .u32) := (T_mul_less a b).eval
/- cotterel/mul.Do -/
def T_mul_Do (op : W .i64) (a : W .u32) (b : W .u32) : Tree (W .u32 × Bool) :=
 .opt (F_mul_New a b) fun r1 =>
 .opt (F_mul_Run r1) fun r2 =>
 .ite (W.eq op (W.of .i64 11)) (
  .ret (r2.2, true)) (
  .ite (W.eq op (W.of .i64 13)) (
   .ret (r2.1, true)) (
   .ite (W.eq op (W.of .i64 12)) (
    .opt (F_mul_less a b) fun r3 =>
    .opt (F_mul_less b a) fun r4 =>
    .ret ((W.sub (W.sub r2.1 r3) r4), true)) (
    .ret ((W.of .u32 0), false))))
def F_mul_Do (op : W .i64) (a : W .u32) (b : W .u32) : Option (W .u32 × Bool) := (T_mul_Do op a b).eval
/- cotterel/div.New -/
def T_div_New (n_0 : W .u32) (d : W .u32) : Tree (TDiv) :=
 .ret (TDiv.mk n_0 d (W.of .u32 0) (W.of .u32 0) (W.of .i64 32))
def F_div_New (n_0 : W .u32) (d : W .u32) : Option (TDiv) := (T_div_New n_0 d).eval
/- cotterel/div.left -/
def T_div_left (n_0 : W .i64) : Tree (W .i64) :=
 .ret (W.min (W.max n_0 (W.of .i64 0)) (W.of .i64 32))
def F_div_left (n_0 : W .i64) : Option (W .i64) := (T_div_left n_0).eval
/- cotterel/div.Step -/
def T_div_Step (x : TDiv) : Tree (TDiv) :=
 .opt (F_div_left x.Left) fun r1 =>
 .ite (W.eq r1 (W.of .i64 0)) (
  .ret ({ x with Left := r1 } : TDiv)) (
  .ite (W.ge (W.or (W.shl (W.conv (.u64) x.R) (W.of .u64 1)) (W.conv (.u64) (W.and (W.shr x.N (W.conv (.u64) (W.sub r1 (W.of .i64 1)))) (W.of .u32 1)))) (W.conv (.u64) x.D)) (
   .ret ({ x with Left := (W.sub r1 (W.of .i64 1)), Q := (W.or (W.shl x.Q (W.of .u64 1)) (W.of .u32 1)), R := (W.conv (.u32) (W.sub (W.or (W.shl (W.conv (.u64) x.R) (W.of .u64 1)) (W.conv (.u64) (W.and (W.shr x.N (W.conv (.u64) (W.sub r1 (W.of .i64 1)))) (W.of .u32 1)))) (W.conv (.u64) x.D))) } : TDiv)) (
   .ret ({ x with Left := (W.sub r1 (W.of .i64 1)), Q := (W.shl x.Q (W.of .u64 1)), R := (W.conv (.u32) (W.or (W.shl (W.conv (.u64) x.R) (W.of .u64 1)) (W.conv (.u64) (W.and (W.shr x.N (W.conv (.u64) (W.sub r1 (W.of .i64 1)))) (W.of .u32 1))))) } : TDiv)))
def F_div_Step (x : TDiv) : Option (TDiv) := (T_div_Step x).eval
/- cotterel/div.Run -/
def B_div_Run_5 (x : TDiv) (t_6 : W .i64) (t_7 : W .i64) : Tree (Rnd (TDiv × W .i64 × W .i64 × Unit) (TDiv × Unit)) :=
 .ite (W.lt t_7 t_6) (
  .opt (F_div_Step x) fun r2 =>
  .ret (.next (r2, t_6, (W.add t_7 (W.of .i64 1)), ()))) (
  .ret (.out (x, ())))
def L_div_Run_5 (a : TDiv × W .i64 × W .i64 × Unit) : Option (TDiv × Unit) := iter (fun a : TDiv × W .i64 × W .i64 × Unit => (B_div_Run_5 a.1 a.2.1 a.2.2.1).eval) fuel a
def T_div_Run (x : TDiv) : Tree (W .u32 × W .u32) :=
 .opt (F_div_left x.Left) fun r1 =>
 .opt (L_div_Run_5 ((x, r1, (W.of .i64 0), ()))) fun o3 =>
 .ret (o3.1.Q, o3.1.R)
def F_div_Run (x : TDiv) : Option (W .u32 × W .u32) := (T_div_Run x).eval
/- cotterel/div.away -/
def T_div_away (x : W .u32) : Tree (W .u32) :=
 .ite (W.lt (W.conv (.i32) x) (W.of .i32 0)) (
  .ret (W.neg x)) (
  .ret x)
def F_div_away (x : W .u32) : Option (W .u32) := (T_div_away x).eval
/- cotterel/div.Do -/
def T_div_Do (op : W .i64) (a : W .u32) (b : W .u32) : Tree (W .u32 × Bool) :=
 .ite (W.eq op (W.of .i64 15)) (
  .opt (F_div_New a b) fun r1 =>
  .opt (F_div_Run r1) fun r2 =>
  .ret (r2.1, true)) (
  .ite (W.eq op (W.of .i64 17)) (
   .opt (F_div_New a b) fun r3 =>
   .opt (F_div_Run r3) fun r4 =>
   .ret (r4.2, true)) (
   .ite (W.eq op (W.of .i64 14)) (
    .opt (F_div_away a) fun r5 =>
    .opt (F_div_away b) fun r6 =>
    .opt (F_div_New r5 r6) fun r7 =>
    .opt (F_div_Run r7) fun r8 =>
    .ite (W.eq b (W.of .u32 0)) (
     .ite (W.eq op (W.of .i64 14)) (
      .ret ((W.of .u32 4294967295), true)) (
      .ret (a, true))) (
     .ite (!(beqB (W.lt (W.conv (.i32) a) (W.of .i32 0)) (W.lt (W.conv (.i32) b) (W.of .i32 0)))) (
      .ite (W.lt (W.conv (.i32) a) (W.of .i32 0)) (
       .ite (W.eq op (W.of .i64 14)) (
        .ret ((W.neg r8.1), true)) (
        .ret ((W.neg r8.2), true))) (
       .ite (W.eq op (W.of .i64 14)) (
        .ret ((W.neg r8.1), true)) (
        .ret (r8.2, true)))) (
      .ite (W.lt (W.conv (.i32) a) (W.of .i32 0)) (
       .ite (W.eq op (W.of .i64 14)) (
        .ret (r8.1, true)) (
        .ret ((W.neg r8.2), true))) (
       .ite (W.eq op (W.of .i64 14)) (
        .ret (r8.1, true)) (
        .ret (r8.2, true)))))) (
    .ite (W.eq op (W.of .i64 16)) (
     .opt (F_div_away a) fun r9 =>
     .opt (F_div_away b) fun r10 =>
     .opt (F_div_New r9 r10) fun r11 =>
     .opt (F_div_Run r11) fun r12 =>
     .ite (W.eq b (W.of .u32 0)) (
      .ite (W.eq op (W.of .i64 14)) (
       .ret ((W.of .u32 4294967295), true)) (
       .ret (a, true))) (
      .ite (!(beqB (W.lt (W.conv (.i32) a) (W.of .i32 0)) (W.lt (W.conv (.i32) b) (W.of .i32 0)))) (
       .ite (W.lt (W.conv (.i32) a) (W.of .i32 0)) (
        .ite (W.eq op (W.of .i64 14)) (
         .ret ((W.neg r12.1), true)) (
         .ret ((W.neg r12.2), true))) (
        .ite (W.eq op (W.of .i64 14)) (
         .ret ((W.neg r12.1), true)) (
         .ret (r12.2, true)))) (
       .ite (W.lt (W.conv (.i32) a) (W.of .i32 0)) (
        .ite (W.eq op (W.of .i64 14)) (
         .ret (r12.1, true)) (
         .ret ((W.neg r12.2), true))) (
        .ite (W.eq op (W.of .i64 14)) (
         .ret (r12.1, true)) (
         .ret (r12.2, true)))))) (
     .ret ((W.of .u32 0), false)))))
def F_div_Do (op : W .i64) (a : W .u32) (b : W .u32) : Option (W .u32 × Bool) := (T_div_Do op a b).eval
/- cotterel/alu.one -/
def T_alu_one (is : Bool) : Tree (W .u32) :=
 .ite is (
  .ret (W.of .u32 1)) (
  .ret (W.of .u32 0))
def F_alu_one (is : Bool) : Option (W .u32) := (T_alu_one is).eval
/- cotterel/alu.Clz -/
def B_alu_Clz_5 (x : W .u32) (n_3 : W .i64) : Tree (Rnd (W .u32 × W .i64 × Unit) (W .i64 × Unit)) :=
 .ite (W.ne x (W.of .u32 0)) (
  .ret (.next ((W.shr x (W.of .u64 1)), (W.sub n_3 (W.of .i64 1)), ()))) (
  .ret (.out (n_3, ())))
def L_alu_Clz_5 (a : W .u32 × W .i64 × Unit) : Option (W .i64 × Unit) := iter (fun a : W .u32 × W .i64 × Unit => (B_alu_Clz_5 a.1 a.2.1).eval) fuel a
def T_alu_Clz (x : W .u32) : Tree (W .i64) :=
 .opt (L_alu_Clz_5 ((x, (W.of .i64 32), ()))) fun o1 =>
 .ret o1.1
def F_alu_Clz (x : W .u32) : Option (W .i64) := (T_alu_Clz x).eval
/- cotterel/alu.Pop -/
def B_alu_Pop_5 (x : W .u32) (n_3 : W .i64) : Tree (Rnd (W .u32 × W .i64 × Unit) (W .i64 × Unit)) :=
 .ite (W.ne x (W.of .u32 0)) (
  .ret (.next ((W.and x (W.sub x (W.of .u32 1))), (W.add n_3 (W.of .i64 1)), ()))) (
  .ret (.out (n_3, ())))
def L_alu_Pop_5 (a : W .u32 × W .i64 × Unit) : Option (W .i64 × Unit) := iter (fun a : W .u32 × W .i64 × Unit => (B_alu_Pop_5 a.1 a.2.1).eval) fuel a
def T_alu_Pop (x : W .u32) : Tree (W .i64) :=
 .opt (L_alu_Pop_5 ((x, (W.of .i64 0), ()))) fun o1 =>
 .ret o1.1
def F_alu_Pop (x : W .u32) : Option (W .i64) := (T_alu_Pop x).eval
/- cotterel/alu.Rev -/
def T_alu_Rev (x : W .u32) : Tree (W .u32) :=
 .ret (W.or (W.or (W.or (W.shl x (W.of .u64 24)) (W.and (W.shl x (W.of .u64 8)) (W.of .u32 16711680))) (W.and (W.shr x (W.of .u64 8)) (W.of .u32 65280))) (W.shr x (W.of .u64 24)))
def F_alu_Rev (x : W .u32) : Option (W .u32) := (T_alu_Rev x).eval
/- cotterel/alu.single -/
def T_alu_single (op : W .i64) (a : W .u32) : Tree (W .u32 × Bool) :=
 .ite (W.eq op (W.of .i64 21)) (
  .opt (F_alu_Clz a) fun r1 =>
  .ret ((W.conv (.u32) r1), true)) (
  .ite (W.eq op (W.of .i64 22)) (
   .opt (F_alu_Pop a) fun r2 =>
   .ret ((W.conv (.u32) r2), true)) (
   .ite (W.eq op (W.of .i64 23)) (
    .opt (F_alu_Rev a) fun r3 =>
    .ret (r3, true)) (
    .ret ((W.of .u32 0), false))))
def F_alu_single (op : W .i64) (a : W .u32) : Option (W .u32 × Bool) := (T_alu_single op a).eval
/- cotterel/alu.low -/
def T_alu_low (b : W .u32) : Tree (W .u32) :=
 .ret (W.and b (W.of .u32 31))
def F_alu_low (b : W .u32) : Option (W .u32) := (T_alu_low b).eval
/- math/bits.RotateLeft32 -/
def T_bits_RotateLeft32 (x : W .u32) (k : W .i64) : Tree (W .u32) :=
 .ret (W.or (W.shl x (W.and (W.conv (.u64) k) (W.of .u64 31))) (W.shr x (W.sub (W.of .u64 32) (W.and (W.conv (.u64) k) (W.of .u64 31)))))
def F_bits_RotateLeft32 (x : W .u32) (k : W .i64) : Option (W .u32) := (T_bits_RotateLeft32 x k).eval
/- cotterel/bits.Rot -/
def T_bits_Rot (x : W .u32) (n_1 : W .i64) : Tree (W .u32) :=
 .opt (F_bits_RotateLeft32 x (W.neg (W.rem n_1 (W.of .i64 32)))) fun r1 =>
 .ret r1
def F_bits_Rot (x : W .u32) (n_1 : W .i64) : Option (W .u32) := (T_bits_Rot x n_1).eval
/- cotterel/alu.logic -/
def T_alu_logic (op : W .i64) (a : W .u32) (b : W .u32) : Tree (W .u32 × Bool) :=
 .ite (W.eq op (W.of .i64 3)) (
  .ret ((W.and a b), true)) (
  .ite (W.eq op (W.of .i64 26)) (
   .ret ((W.and a b), true)) (
   .ite (W.eq op (W.of .i64 4)) (
    .ret ((W.or a b), true)) (
    .ite (W.eq op (W.of .i64 27)) (
     .ret ((W.or a b), true)) (
     .ite (W.eq op (W.of .i64 5)) (
      .ret ((W.xor a b), true)) (
      .ite (W.eq op (W.of .i64 28)) (
       .ret ((W.xor a b), true)) (
       .ite (W.eq op (W.of .i64 6)) (
        .opt (F_alu_low b) fun r1 =>
        .ret ((W.shl a r1), true)) (
        .ite (W.eq op (W.of .i64 30)) (
         .opt (F_alu_low b) fun r2 =>
         .ret ((W.shl a r2), true)) (
         .ite (W.eq op (W.of .i64 7)) (
          .opt (F_alu_low b) fun r3 =>
          .ret ((W.shr a r3), true)) (
          .ite (W.eq op (W.of .i64 31)) (
           .opt (F_alu_low b) fun r4 =>
           .ret ((W.shr a r4), true)) (
           .ite (W.eq op (W.of .i64 8)) (
            .opt (F_alu_low b) fun r5 =>
            .ret ((W.conv (.u32) (W.shr (W.conv (.i32) a) r5)), true)) (
            .ite (W.eq op (W.of .i64 32)) (
             .opt (F_alu_low b) fun r6 =>
             .ret ((W.conv (.u32) (W.shr (W.conv (.i32) a) r6)), true)) (
             .ite (W.eq op (W.of .i64 20)) (
              .opt (F_alu_low b) fun r7 =>
              .opt (F_bits_Rot a (W.conv (.i64) r7)) fun r8 =>
              .ret (r8, true)) (
              .ret ((W.of .u32 0), false))))))))))))))
def F_alu_logic (op : W .i64) (a : W .u32) (b : W .u32) : Option (W .u32 × Bool) := (T_alu_logic op a b).eval
/- cotterel/alu.Do -/
def T_alu_Do (op : W .i64) (a : W .u32) (b : W .u32) : Tree (W .u32 × Bool) :=
 .ite (W.eq op (W.of .i64 1)) (
  .ret ((W.add a b), true)) (
  .ite (W.eq op (W.of .i64 25)) (
   .ret ((W.add a b), true)) (
   .ite (W.eq op (W.of .i64 2)) (
    .ret ((W.sub a b), true)) (
    .ite (W.eq op (W.of .i64 9)) (
     .opt (F_alu_one (W.lt (W.conv (.i32) a) (W.conv (.i32) b))) fun r1 =>
     .ret (r1, true)) (
     .ite (W.eq op (W.of .i64 29)) (
      .opt (F_alu_one (W.lt (W.conv (.i32) a) (W.conv (.i32) b))) fun r2 =>
      .ret (r2, true)) (
      .ite (W.eq op (W.of .i64 10)) (
       .opt (F_alu_one (W.lt a b)) fun r3 =>
       .ret (r3, true)) (
       .ite (W.eq op (W.of .i64 18)) (
        .ret ((W.conv (.u32) (W.min (W.conv (.i32) a) (W.conv (.i32) b))), true)) (
        .ite (W.eq op (W.of .i64 19)) (
         .ret ((W.conv (.u32) (W.max (W.conv (.i32) a) (W.conv (.i32) b))), true)) (
         .ite (W.eq op (W.of .i64 33)) (
          .ret ((W.shl b (W.of .u64 14)), true)) (
          .ite (W.eq op (W.of .i64 21)) (
           .opt (F_alu_single op a) fun r4 =>
           .ret (r4.1, r4.2)) (
           .ite (W.eq op (W.of .i64 22)) (
            .opt (F_alu_single op a) fun r5 =>
            .ret (r5.1, r5.2)) (
            .ite (W.eq op (W.of .i64 23)) (
             .opt (F_alu_single op a) fun r6 =>
             .ret (r6.1, r6.2)) (
             .opt (F_alu_logic op a b) fun r7 =>
             .ret (r7.1, r7.2)))))))))))))
def F_alu_Do (op : W .i64) (a : W .u32) (b : W .u32) : Option (W .u32 × Bool) := (T_alu_Do op a b).eval
/- cotterel/exec.two -/
def T_exec_two (op : W .i64) (a : W .u32) (b : W .u32) : Tree (W .u32) :=
 .opt (F_mul_Do op a b) fun r1 =>
 .ite r1.2 (
  .ret r1.1) (
  .opt (F_div_Do op a b) fun r2 =>
  .ite r2.2 (
   .ret r2.1) (
   .opt (F_alu_Do op a b) fun r3 =>
   .ret r3.1))
def F_exec_two (op : W .i64) (a : W .u32) (b : W .u32) : Option (W .u32) := (T_exec_two op a b).eval
/- cotterel/alu.Cmov -/
def T_alu_Cmov (old : W .u32) (a : W .u32) (b : W .u32) : Tree (W .u32) :=
 .ite (W.ne b (W.of .u32 0)) (
  .ret a) (
  .ret old)
def F_alu_Cmov (old : W .u32) (a : W .u32) (b : W .u32) : Option (W .u32) := (T_alu_Cmov old a b).eval
/- cotterel/alu.Taken -/
def T_alu_Taken (op : W .i64) (a : W .u32) (b : W .u32) : Tree (Bool) :=
 .ite (W.eq op (W.of .i64 43)) (
  .ret (W.eq a b)) (
  .ite (W.eq op (W.of .i64 44)) (
   .ret (W.ne a b)) (
   .ite (W.eq op (W.of .i64 45)) (
    .ret (W.lt (W.conv (.i32) a) (W.conv (.i32) b))) (
    .ite (W.eq op (W.of .i64 46)) (
     .ret (W.ge (W.conv (.i32) a) (W.conv (.i32) b))) (
     .ite (W.eq op (W.of .i64 47)) (
      .ret (W.lt a b)) (
      .ite (W.eq op (W.of .i64 48)) (
       .ret (W.ge a b)) (
       .ret false))))))
def F_alu_Taken (op : W .i64) (a : W .u32) (b : W .u32) : Option (Bool) := (T_alu_Taken op a b).eval
/- cotterel/exec.ahead -/
def T_exec_ahead (u : TUop) : Tree (W .u32) :=
 .ret (W.add u.Slot.PC (W.mul (W.of .u32 4) (W.conv (.u32) u.Inst.Imm)))
def F_exec_ahead (u : TUop) : Option (W .u32) := (T_exec_ahead u).eval
/- cotterel/exec.Do -/
def T_exec_Do (u : TUop) (in_1 : Arr 3 (W .u32)) : Tree (W .u32 × W .u32 × W .i64 × W .u32) :=
 .opt (F_exec_behind u) fun r1 =>
 .ite (W.ne u.Cause (W.of .i64 0)) (
  .ret ((W.of .u32 0), r1, u.Cause, u.Tval)) (
  .opt (F_exec_between u.Inst.Op (W.of .i64 1) (W.of .i64 23)) fun r2 =>
  .ite r2 (
   .opt (F_exec_two u.Inst.Op (Arr.get in_1 0) (Arr.get in_1 1)) fun r3 =>
   .ret (r3, r1, (W.of .i64 0), (W.of .u32 0))) (
   .ite (W.eq u.Inst.Op (W.of .i64 24)) (
    .opt (F_alu_Cmov (Arr.get in_1 2) (Arr.get in_1 0) (Arr.get in_1 1)) fun r4 =>
    .ret (r4, r1, (W.of .i64 0), (W.of .u32 0))) (
    .opt (F_exec_between u.Inst.Op (W.of .i64 25) (W.of .i64 33)) fun r5 =>
    .ite r5 (
     .opt (F_exec_two u.Inst.Op (Arr.get in_1 0) (W.conv (.u32) u.Inst.Imm)) fun r6 =>
     .ret (r6, r1, (W.of .i64 0), (W.of .u32 0))) (
     .opt (F_exec_between u.Inst.Op (W.of .i64 43) (W.of .i64 48)) fun r7 =>
     .ite r7 (
      .opt (F_alu_Taken u.Inst.Op (Arr.get in_1 0) (Arr.get in_1 1)) fun r8 =>
      .ite r8 (
       .opt (F_exec_ahead u) fun r9 =>
       .ret ((W.of .u32 0), r9, (W.of .i64 0), (W.of .u32 0))) (
       .ret ((W.of .u32 0), r1, (W.of .i64 0), (W.of .u32 0)))) (
      .ite (W.eq u.Inst.Op (W.of .i64 49)) (
       .opt (F_exec_ahead u) fun r10 =>
       .ret (r1, r10, (W.of .i64 0), (W.of .u32 0))) (
       .ite (W.eq u.Inst.Op (W.of .i64 50)) (
        .ret (r1, (W.andNot (W.add (Arr.get in_1 0) (W.conv (.u32) u.Inst.Imm)) (W.of .u32 3)), (W.of .i64 0), (W.of .u32 0))) (
        .ret ((W.of .u32 0), r1, (W.of .i64 0), (W.of .u32 0)))))))))
def F_exec_Do (u : TUop) (in_1 : Arr 3 (W .u32)) : Option (W .u32 × W .u32 × W .i64 × W .u32) := (T_exec_Do u in_1).eval
/- cotterel/cotterelref04.signed -/
def T_ref04_signed (x : W .u32) : Tree (W .i64) :=
 .ite (W.ge x (W.of .u32 2147483648)) (
  .ret (W.sub (W.conv (.i64) x) (W.of .i64 4294967296))) (
  .ret (W.conv (.i64) x))
def F_ref04_signed (x : W .u32) : Option (W .i64) := (T_ref04_signed x).eval
/- cotterel/cotterelref04.Do -/
def T_ref04_Do (op : W .i64) (a : W .u32) (b : W .u32) : Tree (W .u32 × Bool) :=
 .ite (W.eq op (W.of .i64 11)) (
  .ret ((W.conv (.u32) (W.rem (W.mul (W.conv (.u64) a) (W.conv (.u64) b)) (W.of .u64 4294967296))), true)) (
  .ite (W.eq op (W.of .i64 13)) (
   .ret ((W.conv (.u32) (W.quo (W.mul (W.conv (.u64) a) (W.conv (.u64) b)) (W.of .u64 4294967296))), true)) (
   .ite (W.eq op (W.of .i64 12)) (
    .opt (F_ref04_signed a) fun r1 =>
    .opt (F_ref04_signed b) fun r2 =>
    .ret ((W.conv (.u32) (W.quo (W.conv (.u64) (W.mul r1 r2)) (W.of .u64 4294967296))), true)) (
    .ret ((W.of .u32 0), false))))
def F_ref04_Do (op : W .i64) (a : W .u32) (b : W .u32) : Option (W .u32 × Bool) := (T_ref04_Do op a b).eval
/- cotterel/cotterelref05.Do -/
def T_ref05_Do (op : W .i64) (a : W .u32) (b : W .u32) : Tree (W .u32 × Bool) :=
 .ite (W.eq op (W.of .i64 15)) (
  .ite (W.eq b (W.of .u32 0)) (
   .ite (W.eq op (W.of .i64 15)) (
    .ret ((W.of .u32 4294967295), true)) (
    .ite (W.eq b (W.of .u32 0)) (
     .ret (a, true)) (
     .ite (W.eq op (W.of .i64 15)) (
      .opt (W.quo? a b) fun z1 =>
      .ret (z1, true)) (
      .opt (W.rem? a b) fun z2 =>
      .ret (z2, true))))) (
   .ite (W.eq b (W.of .u32 0)) (
    .ret (a, true)) (
    .ite (W.eq op (W.of .i64 15)) (
     .opt (W.quo? a b) fun z3 =>
     .ret (z3, true)) (
     .opt (W.rem? a b) fun z4 =>
     .ret (z4, true))))) (
  .ite (W.eq op (W.of .i64 17)) (
   .ite (W.eq b (W.of .u32 0)) (
    .ite (W.eq op (W.of .i64 15)) (
     .ret ((W.of .u32 4294967295), true)) (
     .ite (W.eq b (W.of .u32 0)) (
      .ret (a, true)) (
      .ite (W.eq op (W.of .i64 15)) (
       .opt (W.quo? a b) fun z5 =>
       .ret (z5, true)) (
       .opt (W.rem? a b) fun z6 =>
       .ret (z6, true))))) (
    .ite (W.eq b (W.of .u32 0)) (
     .ret (a, true)) (
     .ite (W.eq op (W.of .i64 15)) (
      .opt (W.quo? a b) fun z7 =>
      .ret (z7, true)) (
      .opt (W.rem? a b) fun z8 =>
      .ret (z8, true))))) (
   .ite (W.eq op (W.of .i64 14)) (
    .ite (W.eq (W.conv (.i64) (W.conv (.i32) b)) (W.of .i64 0)) (
     .ret ((W.of .u32 4294967295), true)) (
     .opt (W.quo? (W.conv (.i64) (W.conv (.i32) a)) (W.conv (.i64) (W.conv (.i32) b))) fun z9 =>
     .ret ((W.conv (.u32) z9), true))) (
    .ite (W.eq op (W.of .i64 16)) (
     .ite (W.eq (W.conv (.i64) (W.conv (.i32) b)) (W.of .i64 0)) (
      .ret (a, true)) (
      .opt (W.rem? (W.conv (.i64) (W.conv (.i32) a)) (W.conv (.i64) (W.conv (.i32) b))) fun z10 =>
      .ret ((W.conv (.u32) z10), true))) (
     .ret ((W.of .u32 0), false)))))
def F_ref05_Do (op : W .i64) (a : W .u32) (b : W .u32) : Option (W .u32 × Bool) := (T_ref05_Do op a b).eval
/- cotterel/cotterelref03.Cmov -/
def T_ref03_Cmov (old : W .u32) (a : W .u32) (b : W .u32) : Tree (W .u32) :=
 .ite (W.ne b (W.of .u32 0)) (
  .ret a) (
  .ret old)
def F_ref03_Cmov (old : W .u32) (a : W .u32) (b : W .u32) : Option (W .u32) := (T_ref03_Cmov old a b).eval
/- cotterel/cotterelref03.bit -/
def B_ref03_bit_5 (x : W .u32) (i : W .i64) (k : W .i64) : Tree (Rnd (W .u32 × W .i64 × W .i64 × Unit) (W .u32 × Unit)) :=
 .ite (W.lt k i) (
  .ret (.next ((W.quo x (W.of .u32 2)), i, (W.add k (W.of .i64 1)), ()))) (
  .ret (.out (x, ())))
def L_ref03_bit_5 (a : W .u32 × W .i64 × W .i64 × Unit) : Option (W .u32 × Unit) := iter (fun a : W .u32 × W .i64 × W .i64 × Unit => (B_ref03_bit_5 a.1 a.2.1 a.2.2.1).eval) fuel a
def T_ref03_bit (x : W .u32) (i : W .i64) : Tree (W .u32) :=
 .opt (L_ref03_bit_5 ((x, i, (W.of .i64 0), ()))) fun o1 =>
 .ret (W.rem o1.1 (W.of .u32 2))
def F_ref03_bit (x : W .u32) (i : W .i64) : Option (W .u32) := (T_ref03_bit x i).eval
/- cotterel/cotterelref03.word -/
def B_ref03_word_7 (l_1 : Arr 32 (W .u32)) (x : W .u32) (i : W .i64) : Tree (Rnd (Arr 32 (W .u32) × W .u32 × W .i64 × Unit) (W .u32 × Unit)) :=
 .ite (W.ge i (W.of .i64 0)) (
  .opt (idx? 32 i) fun j1 =>
  .ret (.next (l_1, (W.add (W.mul (W.of .u32 2) x) (Arr.get l_1 j1)), (W.sub i (W.of .i64 1)), ()))) (
  .ret (.out (x, ())))
def L_ref03_word_7 (a : Arr 32 (W .u32) × W .u32 × W .i64 × Unit) : Option (W .u32 × Unit) := iter (fun a : Arr 32 (W .u32) × W .u32 × W .i64 × Unit => (B_ref03_word_7 a.1 a.2.1 a.2.2.1).eval) fuel a
def T_ref03_word (l_0 : Arr 32 (W .u32)) : Tree (W .u32) :=
 .opt (L_ref03_word_7 ((l_0, (W.of .u32 0), (W.of .i64 31), ()))) fun o2 =>
 .ret o2.1
def F_ref03_word (l_0 : Arr 32 (W .u32)) : Option (W .u32) := (T_ref03_word l_0).eval
/- cotterel/cotterelref03.logic -/
def B_ref03_logic_7 (a : W .u32) (b : W .u32) (least : W .u32) (most : W .u32) (l_9 : Arr 32 (W .u32)) (i : W .i64) : Tree (Rnd (W .u32 × W .u32 × W .u32 × W .u32 × Arr 32 (W .u32) × W .i64 × Unit × Unit × Unit × Unit) (Arr 32 (W .u32) × Unit)) :=
 .ite (W.lt i (W.of .i64 32)) (
  .opt (F_ref03_bit a i) fun r1 =>
  .opt (F_ref03_bit b i) fun r2 =>
  .ite (W.ge (W.add r1 r2) least) (
   .ite (W.le (W.add r1 r2) most) (
    .opt (idx? 32 i) fun j3 =>
    .ret (.next (a, b, least, most, (Arr.set l_9 j3 (W.of .u32 1)), (W.add i (W.of .i64 1)), (), (), (), ()))) (
    .ret (.next (a, b, least, most, l_9, (W.add i (W.of .i64 1)), (), (), (), ())))) (
   .ret (.next (a, b, least, most, l_9, (W.add i (W.of .i64 1)), (), (), (), ())))) (
  .ret (.out (l_9, ())))
def L_ref03_logic_7 (a : W .u32 × W .u32 × W .u32 × W .u32 × Arr 32 (W .u32) × W .i64 × Unit × Unit × Unit × Unit) : Option (Arr 32 (W .u32) × Unit) := iter (fun a : W .u32 × W .u32 × W .u32 × W .u32 × Arr 32 (W .u32) × W .i64 × Unit × Unit × Unit × Unit => (B_ref03_logic_7 a.1 a.2.1 a.2.2.1 a.2.2.2.1 a.2.2.2.2.1 a.2.2.2.2.2.1).eval) fuel a
def T_ref03_logic (a : W .u32) (b : W .u32) (least : W .u32) (most : W .u32) : Tree (W .u32) :=
 .opt (L_ref03_logic_7 ((a, b, least, most, (Arr.rep 32 (W.of .u32 0) : Arr 32 (W .u32)), (W.of .i64 0), (), (), (), ()))) fun o4 =>
 .opt (F_ref03_word o4.1) fun r5 =>
 .ret r5
def F_ref03_logic (a : W .u32) (b : W .u32) (least : W .u32) (most : W .u32) : Option (W .u32) := (T_ref03_logic a b least most).eval
/- cotterel/cotterelref03.moved -/
def B_ref03_moved_7 (x : W .u32) (by_1 : W .i64) (fill : W .u32) (l_7 : Arr 32 (W .u32)) (i : W .i64) : Tree (Rnd (W .u32 × W .i64 × W .u32 × Arr 32 (W .u32) × W .i64 × Unit × Unit × Unit × Unit × Unit) (Arr 32 (W .u32) × Unit)) :=
 .ite (W.lt i (W.of .i64 32)) (
  .opt (idx? 32 i) fun j1 =>
  .ite (W.ge (W.add i by_1) (W.of .i64 0)) (
   .ite (W.lt (W.add i by_1) (W.of .i64 32)) (
    .opt (F_ref03_bit x (W.add i by_1)) fun r2 =>
    .opt (idx? 32 i) fun j3 =>
    .ret (.next (x, by_1, fill, (Arr.set (Arr.set l_7 j1 fill) j3 r2), (W.add i (W.of .i64 1)), (), (), (), (), ()))) (
    .ret (.next (x, by_1, fill, (Arr.set l_7 j1 fill), (W.add i (W.of .i64 1)), (), (), (), (), ())))) (
   .ret (.next (x, by_1, fill, (Arr.set l_7 j1 fill), (W.add i (W.of .i64 1)), (), (), (), (), ())))) (
  .ret (.out (l_7, ())))
def L_ref03_moved_7 (a : W .u32 × W .i64 × W .u32 × Arr 32 (W .u32) × W .i64 × Unit × Unit × Unit × Unit × Unit) : Option (Arr 32 (W .u32) × Unit) := iter (fun a : W .u32 × W .i64 × W .u32 × Arr 32 (W .u32) × W .i64 × Unit × Unit × Unit × Unit × Unit => (B_ref03_moved_7 a.1 a.2.1 a.2.2.1 a.2.2.2.1 a.2.2.2.2.1).eval) fuel a
def T_ref03_moved (x : W .u32) (by_1 : W .i64) (fill : W .u32) : Tree (W .u32) :=
 .opt (L_ref03_moved_7 ((x, by_1, fill, (Arr.rep 32 (W.of .u32 0) : Arr 32 (W .u32)), (W.of .i64 0), (), (), (), (), ()))) fun o4 =>
 .opt (F_ref03_word o4.1) fun r5 =>
 .ret r5
def F_ref03_moved (x : W .u32) (by_1 : W .i64) (fill : W .u32) : Option (W .u32) := (T_ref03_moved x by_1 fill).eval
/- cotterel/cotterelref03.signed -/
def T_ref03_signed (x : W .u32) : Tree (W .i64) :=
 .ite (W.ge x (W.of .u32 2147483648)) (
  .ret (W.sub (W.conv (.i64) x) (W.of .i64 4294967296))) (
  .ret (W.conv (.i64) x))
def F_ref03_signed (x : W .u32) : Option (W .i64) := (T_ref03_signed x).eval
/- cotterel/cotterelref03.one -/
def T_ref03_one (is : Bool) : Tree (W .u32) :=
 .ite is (
  .ret (W.of .u32 1)) (
  .ret (W.of .u32 0))
def F_ref03_one (is : Bool) : Option (W .u32) := (T_ref03_one is).eval
/- cotterel/cotterelref03.turned -/
def B_ref03_turned_7 (x : W .u32) (by_1 : W .i64) (l_5 : Arr 32 (W .u32)) (i : W .i64) : Tree (Rnd (W .u32 × W .i64 × Arr 32 (W .u32) × W .i64 × Unit) (Arr 32 (W .u32) × Unit)) :=
 .ite (W.lt i (W.of .i64 32)) (
  .opt (F_ref03_bit x (W.rem (W.add i by_1) (W.of .i64 32))) fun r1 =>
  .opt (idx? 32 i) fun j2 =>
  .ret (.next (x, by_1, (Arr.set l_5 j2 r1), (W.add i (W.of .i64 1)), ()))) (
  .ret (.out (l_5, ())))
def L_ref03_turned_7 (a : W .u32 × W .i64 × Arr 32 (W .u32) × W .i64 × Unit) : Option (Arr 32 (W .u32) × Unit) := iter (fun a : W .u32 × W .i64 × Arr 32 (W .u32) × W .i64 × Unit => (B_ref03_turned_7 a.1 a.2.1 a.2.2.1 a.2.2.2.1).eval) fuel a
def T_ref03_turned (x : W .u32) (by_1 : W .i64) : Tree (W .u32) :=
 .opt (L_ref03_turned_7 ((x, by_1, (Arr.rep 32 (W.of .u32 0) : Arr 32 (W .u32)), (W.of .i64 0), ()))) fun o3 =>
 .opt (F_ref03_word o3.1) fun r4 =>
 .ret r4
def F_ref03_turned (x : W .u32) (by_1 : W .i64) : Option (W .u32) := (T_ref03_turned x by_1).eval
/- cotterel/cotterelref03.Clz -/
def B_ref03_Clz_5 (x : W .u32) (n_3 : W .i64) : Tree (Rnd (W .u32 × W .i64 × Unit × Unit × Unit × Unit × Unit × Unit) (W .i64 × Unit)) :=
 .ite (W.lt n_3 (W.of .i64 32)) (
  .opt (F_ref03_bit x (W.sub (W.of .i64 31) n_3)) fun r1 =>
  .ite (W.eq r1 (W.of .u32 0)) (
   .ret (.next (x, (W.add n_3 (W.of .i64 1)), (), (), (), (), (), ()))) (
   .ret (.out (n_3, ())))) (
  .ret (.out (n_3, ())))
def L_ref03_Clz_5 (a : W .u32 × W .i64 × Unit × Unit × Unit × Unit × Unit × Unit) : Option (W .i64 × Unit) := iter (fun a : W .u32 × W .i64 × Unit × Unit × Unit × Unit × Unit × Unit => (B_ref03_Clz_5 a.1 a.2.1).eval) fuel a
def T_ref03_Clz (x : W .u32) : Tree (W .i64) :=
 .opt (L_ref03_Clz_5 ((x, (W.of .i64 0), (), (), (), (), (), ()))) fun o2 =>
 .ret o2.1
def F_ref03_Clz (x : W .u32) : Option (W .i64) := (T_ref03_Clz x).eval
/- cotterel/cotterelref03.Pop -/
def B_ref03_Pop_7 (x : W .u32) (n_3 : W .i64) (i : W .i64) : Tree (Rnd (W .u32 × W .i64 × W .i64 × Unit) (W .i64 × Unit)) :=
 .ite (W.lt i (W.of .i64 32)) (
  .opt (F_ref03_bit x i) fun r1 =>
  .ret (.next (x, (W.add n_3 (W.conv (.i64) r1)), (W.add i (W.of .i64 1)), ()))) (
  .ret (.out (n_3, ())))
def L_ref03_Pop_7 (a : W .u32 × W .i64 × W .i64 × Unit) : Option (W .i64 × Unit) := iter (fun a : W .u32 × W .i64 × W .i64 × Unit => (B_ref03_Pop_7 a.1 a.2.1 a.2.2.1).eval) fuel a
def T_ref03_Pop (x : W .u32) : Tree (W .i64) :=
 .opt (L_ref03_Pop_7 ((x, (W.of .i64 0), (W.of .i64 0), ()))) fun o2 =>
 .ret o2.1
def F_ref03_Pop (x : W .u32) : Option (W .i64) := (T_ref03_Pop x).eval
/- cotterel/cotterelref03.Rev -/
def B_ref03_Rev_7 (x : W .u32) (out : W .u32) (k : W .i64) : Tree (Rnd (W .u32 × W .u32 × W .i64 × Unit) (W .u32 × Unit)) :=
 .ite (W.lt k (W.of .i64 4)) (
  .ret (.next ((W.quo x (W.of .u32 256)), (W.add (W.mul (W.of .u32 256) out) (W.rem x (W.of .u32 256))), (W.add k (W.of .i64 1)), ()))) (
  .ret (.out (out, ())))
def L_ref03_Rev_7 (a : W .u32 × W .u32 × W .i64 × Unit) : Option (W .u32 × Unit) := iter (fun a : W .u32 × W .u32 × W .i64 × Unit => (B_ref03_Rev_7 a.1 a.2.1 a.2.2.1).eval) fuel a
def T_ref03_Rev (x : W .u32) : Tree (W .u32) :=
 .opt (L_ref03_Rev_7 ((x, (W.of .u32 0), (W.of .i64 0), ()))) fun o1 =>
 .ret o1.1
def F_ref03_Rev (x : W .u32) : Option (W .u32) := (T_ref03_Rev x).eval
/- cotterel/cotterelref03.Do -/
def T_ref03_Do (op : W .i64) (a : W .u32) (b : W .u32) : Tree (W .u32 × Bool) :=
 .ite (W.eq op (W.of .i64 1)) (
  .ret ((W.add a b), true)) (
  .ite (W.eq op (W.of .i64 25)) (
   .ret ((W.add a b), true)) (
   .ite (W.eq op (W.of .i64 2)) (
    .ret ((W.sub a b), true)) (
    .ite (W.eq op (W.of .i64 3)) (
     .opt (F_ref03_logic a b (W.of .u32 2) (W.of .u32 2)) fun r1 =>
     .ret (r1, true)) (
     .ite (W.eq op (W.of .i64 26)) (
      .opt (F_ref03_logic a b (W.of .u32 2) (W.of .u32 2)) fun r2 =>
      .ret (r2, true)) (
      .ite (W.eq op (W.of .i64 4)) (
       .opt (F_ref03_logic a b (W.of .u32 1) (W.of .u32 2)) fun r3 =>
       .ret (r3, true)) (
       .ite (W.eq op (W.of .i64 27)) (
        .opt (F_ref03_logic a b (W.of .u32 1) (W.of .u32 2)) fun r4 =>
        .ret (r4, true)) (
        .ite (W.eq op (W.of .i64 5)) (
         .opt (F_ref03_logic a b (W.of .u32 1) (W.of .u32 1)) fun r5 =>
         .ret (r5, true)) (
         .ite (W.eq op (W.of .i64 28)) (
          .opt (F_ref03_logic a b (W.of .u32 1) (W.of .u32 1)) fun r6 =>
          .ret (r6, true)) (
          .ite (W.eq op (W.of .i64 6)) (
           .opt (F_ref03_moved a (W.neg (W.conv (.i64) (W.rem b (W.of .u32 32)))) (W.of .u32 0)) fun r7 =>
           .ret (r7, true)) (
           .ite (W.eq op (W.of .i64 30)) (
            .opt (F_ref03_moved a (W.neg (W.conv (.i64) (W.rem b (W.of .u32 32)))) (W.of .u32 0)) fun r8 =>
            .ret (r8, true)) (
            .ite (W.eq op (W.of .i64 7)) (
             .opt (F_ref03_moved a (W.conv (.i64) (W.rem b (W.of .u32 32))) (W.of .u32 0)) fun r9 =>
             .ret (r9, true)) (
             .ite (W.eq op (W.of .i64 31)) (
              .opt (F_ref03_moved a (W.conv (.i64) (W.rem b (W.of .u32 32))) (W.of .u32 0)) fun r10 =>
              .ret (r10, true)) (
              .ite (W.eq op (W.of .i64 8)) (
               .opt (F_ref03_bit a (W.of .i64 31)) fun r11 =>
               .opt (F_ref03_moved a (W.conv (.i64) (W.rem b (W.of .u32 32))) r11) fun r12 =>
               .ret (r12, true)) (
               .ite (W.eq op (W.of .i64 32)) (
                .opt (F_ref03_bit a (W.of .i64 31)) fun r13 =>
                .opt (F_ref03_moved a (W.conv (.i64) (W.rem b (W.of .u32 32))) r13) fun r14 =>
                .ret (r14, true)) (
                .ite (W.eq op (W.of .i64 9)) (
                 .opt (F_ref03_signed a) fun r15 =>
                 .opt (F_ref03_signed b) fun r16 =>
                 .opt (F_ref03_one (W.lt r15 r16)) fun r17 =>
                 .ret (r17, true)) (
                 .ite (W.eq op (W.of .i64 29)) (
                  .opt (F_ref03_signed a) fun r18 =>
                  .opt (F_ref03_signed b) fun r19 =>
                  .opt (F_ref03_one (W.lt r18 r19)) fun r20 =>
                  .ret (r20, true)) (
                  .ite (W.eq op (W.of .i64 10)) (
                   .opt (F_ref03_one (W.lt a b)) fun r21 =>
                   .ret (r21, true)) (
                   .ite (W.eq op (W.of .i64 18)) (
                    .opt (F_ref03_signed b) fun r22 =>
                    .opt (F_ref03_signed a) fun r23 =>
                    .ite (W.lt r22 r23) (
                     .ret (b, true)) (
                     .ret (a, true))) (
                    .ite (W.eq op (W.of .i64 19)) (
                     .opt (F_ref03_signed b) fun r24 =>
                     .opt (F_ref03_signed a) fun r25 =>
                     .ite (W.gt r24 r25) (
                      .ret (b, true)) (
                      .ret (a, true))) (
                     .ite (W.eq op (W.of .i64 20)) (
                      .opt (F_ref03_turned a (W.conv (.i64) (W.rem b (W.of .u32 32)))) fun r26 =>
                      .ret (r26, true)) (
                      .ite (W.eq op (W.of .i64 21)) (
                       .opt (F_ref03_Clz a) fun r27 =>
                       .ret ((W.conv (.u32) r27), true)) (
                       .ite (W.eq op (W.of .i64 22)) (
                        .opt (F_ref03_Pop a) fun r28 =>
                        .ret ((W.conv (.u32) r28), true)) (
                        .ite (W.eq op (W.of .i64 23)) (
                         .opt (F_ref03_Rev a) fun r29 =>
                         .ret (r29, true)) (
                         .ite (W.eq op (W.of .i64 33)) (
                          .ret ((W.mul b (W.of .u32 16384)), true)) (
                          .ret ((W.of .u32 0), false))))))))))))))))))))))))))
def F_ref03_Do (op : W .i64) (a : W .u32) (b : W .u32) : Option (W .u32 × Bool) := (T_ref03_Do op a b).eval
/- cotterel/cotterelref32.value -/
def T_ref32_value (i : TInst) (in_1 : Arr 3 (W .u32)) : Tree (W .u32) :=
 .ite (W.ge i.Op (W.of .i64 25)) (
  .ite (W.ge i.Op (W.of .i64 11)) (
   .ite (W.le i.Op (W.of .i64 13)) (
    .opt (F_ref04_Do i.Op (Arr.get in_1 0) (W.conv (.u32) i.Imm)) fun r1 =>
    .ret r1.1) (
    .ite (W.ge i.Op (W.of .i64 14)) (
     .ite (W.le i.Op (W.of .i64 17)) (
      .opt (F_ref05_Do i.Op (Arr.get in_1 0) (W.conv (.u32) i.Imm)) fun r2 =>
      .ret r2.1) (
      .ite (W.eq i.Op (W.of .i64 24)) (
       .opt (F_ref03_Cmov (Arr.get in_1 2) (Arr.get in_1 0) (W.conv (.u32) i.Imm)) fun r3 =>
       .ret r3) (
       .opt (F_ref03_Do i.Op (Arr.get in_1 0) (W.conv (.u32) i.Imm)) fun r4 =>
       .ret r4.1))) (
     .ite (W.eq i.Op (W.of .i64 24)) (
      .opt (F_ref03_Cmov (Arr.get in_1 2) (Arr.get in_1 0) (W.conv (.u32) i.Imm)) fun r5 =>
      .ret r5) (
      .opt (F_ref03_Do i.Op (Arr.get in_1 0) (W.conv (.u32) i.Imm)) fun r6 =>
      .ret r6.1)))) (
   .ite (W.ge i.Op (W.of .i64 14)) (
    .ite (W.le i.Op (W.of .i64 17)) (
     .opt (F_ref05_Do i.Op (Arr.get in_1 0) (W.conv (.u32) i.Imm)) fun r7 =>
     .ret r7.1) (
     .ite (W.eq i.Op (W.of .i64 24)) (
      .opt (F_ref03_Cmov (Arr.get in_1 2) (Arr.get in_1 0) (W.conv (.u32) i.Imm)) fun r8 =>
      .ret r8) (
      .opt (F_ref03_Do i.Op (Arr.get in_1 0) (W.conv (.u32) i.Imm)) fun r9 =>
      .ret r9.1))) (
    .ite (W.eq i.Op (W.of .i64 24)) (
     .opt (F_ref03_Cmov (Arr.get in_1 2) (Arr.get in_1 0) (W.conv (.u32) i.Imm)) fun r10 =>
     .ret r10) (
     .opt (F_ref03_Do i.Op (Arr.get in_1 0) (W.conv (.u32) i.Imm)) fun r11 =>
     .ret r11.1)))) (
  .ite (W.ge i.Op (W.of .i64 11)) (
   .ite (W.le i.Op (W.of .i64 13)) (
    .opt (F_ref04_Do i.Op (Arr.get in_1 0) (Arr.get in_1 1)) fun r12 =>
    .ret r12.1) (
    .ite (W.ge i.Op (W.of .i64 14)) (
     .ite (W.le i.Op (W.of .i64 17)) (
      .opt (F_ref05_Do i.Op (Arr.get in_1 0) (Arr.get in_1 1)) fun r13 =>
      .ret r13.1) (
      .ite (W.eq i.Op (W.of .i64 24)) (
       .opt (F_ref03_Cmov (Arr.get in_1 2) (Arr.get in_1 0) (Arr.get in_1 1)) fun r14 =>
       .ret r14) (
       .opt (F_ref03_Do i.Op (Arr.get in_1 0) (Arr.get in_1 1)) fun r15 =>
       .ret r15.1))) (
     .ite (W.eq i.Op (W.of .i64 24)) (
      .opt (F_ref03_Cmov (Arr.get in_1 2) (Arr.get in_1 0) (Arr.get in_1 1)) fun r16 =>
      .ret r16) (
      .opt (F_ref03_Do i.Op (Arr.get in_1 0) (Arr.get in_1 1)) fun r17 =>
      .ret r17.1)))) (
   .ite (W.ge i.Op (W.of .i64 14)) (
    .ite (W.le i.Op (W.of .i64 17)) (
     .opt (F_ref05_Do i.Op (Arr.get in_1 0) (Arr.get in_1 1)) fun r18 =>
     .ret r18.1) (
     .ite (W.eq i.Op (W.of .i64 24)) (
      .opt (F_ref03_Cmov (Arr.get in_1 2) (Arr.get in_1 0) (Arr.get in_1 1)) fun r19 =>
      .ret r19) (
      .opt (F_ref03_Do i.Op (Arr.get in_1 0) (Arr.get in_1 1)) fun r20 =>
      .ret r20.1))) (
    .ite (W.eq i.Op (W.of .i64 24)) (
     .opt (F_ref03_Cmov (Arr.get in_1 2) (Arr.get in_1 0) (Arr.get in_1 1)) fun r21 =>
     .ret r21) (
     .opt (F_ref03_Do i.Op (Arr.get in_1 0) (Arr.get in_1 1)) fun r22 =>
     .ret r22.1))))
def F_ref32_value (i : TInst) (in_1 : Arr 3 (W .u32)) : Option (W .u32) := (T_ref32_value i in_1).eval
/- cotterel/cotterelref03.Taken -/
def T_ref03_Taken (op : W .i64) (a : W .u32) (b : W .u32) : Tree (Bool) :=
 .ite (W.eq op (W.of .i64 43)) (
  .ret (W.eq a b)) (
  .ite (W.eq op (W.of .i64 44)) (
   .ret (W.ne a b)) (
   .ite (W.eq op (W.of .i64 45)) (
    .opt (F_ref03_signed a) fun r1 =>
    .opt (F_ref03_signed b) fun r2 =>
    .ret (W.lt r1 r2)) (
    .ite (W.eq op (W.of .i64 46)) (
     .opt (F_ref03_signed a) fun r3 =>
     .opt (F_ref03_signed b) fun r4 =>
     .ret (W.ge r3 r4)) (
     .ite (W.eq op (W.of .i64 47)) (
      .ret (W.lt a b)) (
      .ite (W.eq op (W.of .i64 48)) (
       .ret (W.ge a b)) (
       .ret false))))))
def F_ref03_Taken (op : W .i64) (a : W .u32) (b : W .u32) : Option (Bool) := (T_ref03_Taken op a b).eval
/- cotterel/cotterelref32.Do -/
def T_ref32_Do (u : TUop) (in_1 : Arr 3 (W .u32)) : Tree (W .u32 × W .u32 × W .i64 × W .u32) :=
 .ite (W.ne u.Cause (W.of .i64 0)) (
  .ret ((W.of .u32 0), (W.add u.Slot.PC (W.of .u32 4)), u.Cause, u.Tval)) (
  .ite (W.ge u.Inst.Op (W.of .i64 1)) (
   .ite (W.le u.Inst.Op (W.of .i64 33)) (
    .opt (F_ref32_value u.Inst in_1) fun r1 =>
    .ret (r1, (W.add u.Slot.PC (W.of .u32 4)), (W.of .i64 0), (W.of .u32 0))) (
    .ite (W.ge u.Inst.Op (W.of .i64 43)) (
     .ite (W.le u.Inst.Op (W.of .i64 48)) (
      .opt (F_ref03_Taken u.Inst.Op (Arr.get in_1 0) (Arr.get in_1 1)) fun r2 =>
      .ite r2 (
       .ret ((W.of .u32 0), (W.add u.Slot.PC (W.conv (.u32) (W.mul (W.of .i64 4) u.Inst.Imm))), (W.of .i64 0), (W.of .u32 0))) (
       .ite (W.eq u.Inst.Op (W.of .i64 49)) (
        .ret ((W.add u.Slot.PC (W.of .u32 4)), (W.add u.Slot.PC (W.conv (.u32) (W.mul (W.of .i64 4) u.Inst.Imm))), (W.of .i64 0), (W.of .u32 0))) (
        .ite (W.eq u.Inst.Op (W.of .i64 50)) (
         .ret ((W.add u.Slot.PC (W.of .u32 4)), (W.sub (W.add (Arr.get in_1 0) (W.conv (.u32) u.Inst.Imm)) (W.rem (W.add (Arr.get in_1 0) (W.conv (.u32) u.Inst.Imm)) (W.of .u32 4))), (W.of .i64 0), (W.of .u32 0))) (
         .ret ((W.of .u32 0), (W.add u.Slot.PC (W.of .u32 4)), (W.of .i64 0), (W.of .u32 0)))))) (
      .ite (W.eq u.Inst.Op (W.of .i64 49)) (
       .ret ((W.add u.Slot.PC (W.of .u32 4)), (W.add u.Slot.PC (W.conv (.u32) (W.mul (W.of .i64 4) u.Inst.Imm))), (W.of .i64 0), (W.of .u32 0))) (
       .ite (W.eq u.Inst.Op (W.of .i64 50)) (
        .ret ((W.add u.Slot.PC (W.of .u32 4)), (W.sub (W.add (Arr.get in_1 0) (W.conv (.u32) u.Inst.Imm)) (W.rem (W.add (Arr.get in_1 0) (W.conv (.u32) u.Inst.Imm)) (W.of .u32 4))), (W.of .i64 0), (W.of .u32 0))) (
        .ret ((W.of .u32 0), (W.add u.Slot.PC (W.of .u32 4)), (W.of .i64 0), (W.of .u32 0)))))) (
     .ite (W.eq u.Inst.Op (W.of .i64 49)) (
      .ret ((W.add u.Slot.PC (W.of .u32 4)), (W.add u.Slot.PC (W.conv (.u32) (W.mul (W.of .i64 4) u.Inst.Imm))), (W.of .i64 0), (W.of .u32 0))) (
      .ite (W.eq u.Inst.Op (W.of .i64 50)) (
       .ret ((W.add u.Slot.PC (W.of .u32 4)), (W.sub (W.add (Arr.get in_1 0) (W.conv (.u32) u.Inst.Imm)) (W.rem (W.add (Arr.get in_1 0) (W.conv (.u32) u.Inst.Imm)) (W.of .u32 4))), (W.of .i64 0), (W.of .u32 0))) (
       .ret ((W.of .u32 0), (W.add u.Slot.PC (W.of .u32 4)), (W.of .i64 0), (W.of .u32 0))))))) (
   .ite (W.ge u.Inst.Op (W.of .i64 43)) (
    .ite (W.le u.Inst.Op (W.of .i64 48)) (
     .opt (F_ref03_Taken u.Inst.Op (Arr.get in_1 0) (Arr.get in_1 1)) fun r3 =>
     .ite r3 (
      .ret ((W.of .u32 0), (W.add u.Slot.PC (W.conv (.u32) (W.mul (W.of .i64 4) u.Inst.Imm))), (W.of .i64 0), (W.of .u32 0))) (
      .ite (W.eq u.Inst.Op (W.of .i64 49)) (
       .ret ((W.add u.Slot.PC (W.of .u32 4)), (W.add u.Slot.PC (W.conv (.u32) (W.mul (W.of .i64 4) u.Inst.Imm))), (W.of .i64 0), (W.of .u32 0))) (
       .ite (W.eq u.Inst.Op (W.of .i64 50)) (
        .ret ((W.add u.Slot.PC (W.of .u32 4)), (W.sub (W.add (Arr.get in_1 0) (W.conv (.u32) u.Inst.Imm)) (W.rem (W.add (Arr.get in_1 0) (W.conv (.u32) u.Inst.Imm)) (W.of .u32 4))), (W.of .i64 0), (W.of .u32 0))) (
        .ret ((W.of .u32 0), (W.add u.Slot.PC (W.of .u32 4)), (W.of .i64 0), (W.of .u32 0)))))) (
     .ite (W.eq u.Inst.Op (W.of .i64 49)) (
      .ret ((W.add u.Slot.PC (W.of .u32 4)), (W.add u.Slot.PC (W.conv (.u32) (W.mul (W.of .i64 4) u.Inst.Imm))), (W.of .i64 0), (W.of .u32 0))) (
      .ite (W.eq u.Inst.Op (W.of .i64 50)) (
       .ret ((W.add u.Slot.PC (W.of .u32 4)), (W.sub (W.add (Arr.get in_1 0) (W.conv (.u32) u.Inst.Imm)) (W.rem (W.add (Arr.get in_1 0) (W.conv (.u32) u.Inst.Imm)) (W.of .u32 4))), (W.of .i64 0), (W.of .u32 0))) (
       .ret ((W.of .u32 0), (W.add u.Slot.PC (W.of .u32 4)), (W.of .i64 0), (W.of .u32 0)))))) (
    .ite (W.eq u.Inst.Op (W.of .i64 49)) (
     .ret ((W.add u.Slot.PC (W.of .u32 4)), (W.add u.Slot.PC (W.conv (.u32) (W.mul (W.of .i64 4) u.Inst.Imm))), (W.of .i64 0), (W.of .u32 0))) (
     .ite (W.eq u.Inst.Op (W.of .i64 50)) (
      .ret ((W.add u.Slot.PC (W.of .u32 4)), (W.sub (W.add (Arr.get in_1 0) (W.conv (.u32) u.Inst.Imm)) (W.rem (W.add (Arr.get in_1 0) (W.conv (.u32) u.Inst.Imm)) (W.of .u32 4))), (W.of .i64 0), (W.of .u32 0))) (
      .ret ((W.of .u32 0), (W.add u.Slot.PC (W.of .u32 4)), (W.of .i64 0), (W.of .u32 0)))))))
def F_ref32_Do (u : TUop) (in_1 : Arr 3 (W .u32)) : Option (W .u32 × W .u32 × W .i64 × W .u32) := (T_ref32_Do u in_1).eval
/- cotterel/exec.Wrong -/
def T_exec_Wrong (u : TUop) (next_1 : W .u32) : Tree (Bool) :=
 .ite u.Slot.Guess.Taken (
  .ret (W.ne next_1 u.Slot.Guess.Target)) (
  .opt (F_exec_behind u) fun r1 =>
  .ret (W.ne next_1 r1))
def F_exec_Wrong (u : TUop) (next_1 : W .u32) : Option (Bool) := (T_exec_Wrong u next_1).eval
/- cotterel/cotterelref32.Wrong -/
def T_ref32_Wrong (u : TUop) (next_1 : W .u32) : Tree (Bool) :=
 .ite u.Slot.Guess.Taken (
  .ret (W.ne next_1 u.Slot.Guess.Target)) (
  .ret (W.ne next_1 (W.add u.Slot.PC (W.of .u32 4))))
def F_ref32_Wrong (u : TUop) (next_1 : W .u32) : Option (Bool) := (T_ref32_Wrong u next_1).eval
/- cotterel/bits.clamp -/
def T_bits_clamp (n_0 : W .i64) (low : W .i64) (high : W .i64) : Tree (W .i64) :=
 .ret (W.min (W.max n_0 low) high)
def F_bits_clamp (n_0 : W .i64) (low : W .i64) (high : W .i64) : Option (W .i64) := (T_bits_clamp n_0 low high).eval
/- cotterel/bits.Sext -/
def T_bits_Sext (x : W .u32) (n_1 : W .i64) : Tree (W .u32) :=
 .opt (F_bits_clamp n_1 (W.of .i64 0) (W.of .i64 32)) fun r1 =>
 .opt (W.shl? x (W.sub (W.of .i64 32) r1)) fun z2 =>
 .opt (W.shr? (W.conv (.i32) z2) (W.sub (W.of .i64 32) r1)) fun z3 =>
 .ret (W.conv (.u32) z3)
def F_bits_Sext (x : W .u32) (n_1 : W .i64) : Option (W .u32) := (T_bits_Sext x n_1).eval
/- cotterel/bits.ones -/
def T_bits_ones (n_0 : W .i64) : Tree (W .u32) :=
 .opt (W.shl? (W.of .u64 1) n_0) fun z1 =>
 .ret (W.conv (.u32) (W.sub z1 (W.of .u64 1)))
def F_bits_ones (n_0 : W .i64) : Option (W .u32) := (T_bits_ones n_0).eval
/- cotterel/bits.Zext -/
def T_bits_Zext (x : W .u32) (n_1 : W .i64) : Tree (W .u32) :=
 .opt (F_bits_clamp n_1 (W.of .i64 0) (W.of .i64 32)) fun r1 =>
 .opt (F_bits_ones r1) fun r2 =>
 .ret (W.and x r2)
def F_bits_Zext (x : W .u32) (n_1 : W .i64) : Option (W .u32) := (T_bits_Zext x n_1).eval
/- cotterel/exec.Ext -/
def T_exec_Ext (op : W .i64) (raw : W .u32) : Tree (W .u32) :=
 .ite (W.eq op (W.of .i64 34)) (
  .opt (F_bits_Sext raw (W.of .i64 8)) fun r1 =>
  .ret r1) (
  .ite (W.eq op (W.of .i64 36)) (
   .opt (F_bits_Sext raw (W.of .i64 16)) fun r2 =>
   .ret r2) (
   .ite (W.eq op (W.of .i64 35)) (
    .opt (F_bits_Zext raw (W.of .i64 8)) fun r3 =>
    .ret r3) (
    .ite (W.eq op (W.of .i64 37)) (
     .opt (F_bits_Zext raw (W.of .i64 16)) fun r4 =>
     .ret r4) (
     .ret raw))))
def F_exec_Ext (op : W .i64) (raw : W .u32) : Option (W .u32) := (T_exec_Ext op raw).eval
/- cotterel/cotterellaw32.awake -/
def T_law32_awake  : Tree (Bool) :=
 .opt (F_exec_Do (TUop.mk (TInst.mk (W.of .i64 25) (W.of .i64 0) (W.of .i64 0) (W.of .i64 0) (W.of .i64 (-1))) (TSlot.mk (W.of .u32 8) (W.of .u32 0) (W.of .i64 0) (W.of .u32 0) (TGuess.mk false (W.of .u32 0) (TSave.mk (W.of .u32 0) (W.of .i64 0) (W.of .u32 0)))) (W.of .i64 0) (W.of .i64 0) false (Arr.rep 3 (W.of .i64 0) : Arr 3 (W .i64)) (W.of .i64 0) (W.of .i64 0) (W.of .u32 0)) (Arr.lit 3 [(W.of .u32 5), (W.of .u32 0), (W.of .u32 0)] rfl : Arr 3 (W .u32))) fun r1 =>
 .ite (W.eq r1.1 (W.of .u32 4)) (
  .ite (W.eq r1.2.1 (W.of .u32 12)) (
   .ite (W.eq r1.2.2.1 (W.of .i64 0)) (
    .opt (F_exec_Ext (W.of .i64 34) (W.of .u32 128)) fun r2 =>
    .ite (W.eq r2 (W.of .u32 4294967168)) (
     .opt (F_exec_Wrong (TUop.mk (TInst.mk (W.of .i64 25) (W.of .i64 0) (W.of .i64 0) (W.of .i64 0) (W.of .i64 (-1))) (TSlot.mk (W.of .u32 8) (W.of .u32 0) (W.of .i64 0) (W.of .u32 0) (TGuess.mk false (W.of .u32 0) (TSave.mk (W.of .u32 0) (W.of .i64 0) (W.of .u32 0)))) (W.of .i64 0) (W.of .i64 0) false (Arr.rep 3 (W.of .i64 0) : Arr 3 (W .i64)) (W.of .i64 0) (W.of .i64 0) (W.of .u32 0)) (W.of .u32 16)) fun r3 =>
     .ite r3 (
      .opt (F_exec_Wrong (TUop.mk (TInst.mk (W.of .i64 25) (W.of .i64 0) (W.of .i64 0) (W.of .i64 0) (W.of .i64 (-1))) (TSlot.mk (W.of .u32 8) (W.of .u32 0) (W.of .i64 0) (W.of .u32 0) (TGuess.mk false (W.of .u32 0) (TSave.mk (W.of .u32 0) (W.of .i64 0) (W.of .u32 0)))) (W.of .i64 0) (W.of .i64 0) false (Arr.rep 3 (W.of .i64 0) : Arr 3 (W .i64)) (W.of .i64 0) (W.of .i64 0) (W.of .u32 0)) (W.of .u32 12)) fun r4 =>
      .ret (!r4)) (
      .ret false)) (
     .ret false)) (
    .ret false)) (
   .ret false)) (
  .ret false)
def F_law32_awake  : Option (Bool) := (T_law32_awake).eval
/- cotterel/cotterellaw32.ExecDoes -/
def T_law32_ExecDoes (u : TUop) (in_1 : Arr 3 (W .u32)) (next_2 : W .u32) : Tree (Bool) :=
 .opt (F_exec_Do u in_1) fun r1 =>
 .opt (F_ref32_Do u in_1) fun r2 =>
 .ite (W.eq r1.1 r2.1) (
  .ite (W.eq r1.2.1 r2.2.1) (
   .ite (W.eq r1.2.2.1 r2.2.2.1) (
    .ite (W.eq r1.2.2.2 r2.2.2.2) (
     .opt (F_exec_Wrong u next_2) fun r3 =>
     .opt (F_ref32_Wrong u next_2) fun r4 =>
     .ite (beqB r3 r4) (
      .opt (F_exec_Wrong u r1.2.1) fun r5 =>
      .opt (F_ref32_Wrong u r2.2.1) fun r6 =>
      .ite (beqB r5 r6) (
       .opt (F_law32_awake) fun r7 =>
       .ret r7) (
       .ret false)) (
      .ret false)) (
     .ret false)) (
    .ret false)) (
   .ret false)) (
  .ret false)
def F_law32_ExecDoes (u : TUop) (in_1 : Arr 3 (W .u32)) (next_2 : W .u32) : Option (Bool) := (T_law32_ExecDoes u in_1 next_2).eval
/- cotterel/pred.Next -/
def T_pred_Next (s : TSlot) : Tree (W .u32) :=
 .ite s.Guess.Taken (
  .ret s.Guess.Target) (
  .ret (W.add s.PC (W.of .u32 4)))
def F_pred_Next (s : TSlot) : Option (W .u32) := (T_pred_Next s).eval
/- cotterel/cotterellaw32.ExecGuess -/
def T_law32_ExecGuess (u : TUop) (next_1 : W .u32) : Tree (Bool) :=
 .opt (F_pred_Next u.Slot) fun r1 =>
 .opt (F_exec_Wrong u next_1) fun r2 =>
 .ite (beqB r2 (W.ne next_1 r1)) (
  .opt (F_exec_Wrong u r1) fun r3 =>
  .ite (!r3) (
   .opt (F_law32_awake) fun r4 =>
   .ret r4) (
   .ret false)) (
  .ret false)
def F_law32_ExecGuess (u : TUop) (next_1 : W .u32) : Option (Bool) := (T_law32_ExecGuess u next_1).eval
/- cotterel/crack.Size -/
def T_crack_Size (op : W .i64) : Tree (W .i64) :=
 .ite (W.eq op (W.of .i64 34)) (
  .ret (W.of .i64 1)) (
  .ite (W.eq op (W.of .i64 35)) (
   .ret (W.of .i64 1)) (
   .ite (W.eq op (W.of .i64 40)) (
    .ret (W.of .i64 1)) (
    .ite (W.eq op (W.of .i64 36)) (
     .ret (W.of .i64 2)) (
     .ite (W.eq op (W.of .i64 37)) (
      .ret (W.of .i64 2)) (
      .ite (W.eq op (W.of .i64 41)) (
       .ret (W.of .i64 2)) (
       .ite (W.eq op (W.of .i64 38)) (
        .ret (W.of .i64 4)) (
        .ite (W.eq op (W.of .i64 39)) (
         .ret (W.of .i64 4)) (
         .ite (W.eq op (W.of .i64 42)) (
          .ret (W.of .i64 4)) (
          .ite (W.eq op (W.of .i64 51)) (
           .ret (W.of .i64 4)) (
           .ite (W.eq op (W.of .i64 52)) (
            .ret (W.of .i64 4)) (
            .ite (W.eq op (W.of .i64 53)) (
             .ret (W.of .i64 4)) (
             .ret (W.of .i64 0)))))))))))))
def F_crack_Size (op : W .i64) : Option (W .i64) := (T_crack_Size op).eval
/- cotterel/exec.Addr -/
def T_exec_Addr (u : TUop) (in_1 : Arr 3 (W .u32)) : Tree (W .u32 × W .i64) :=
 .opt (F_exec_between u.Inst.Op (W.of .i64 34) (W.of .i64 38)) fun r1 =>
 .ite r1 (
  .opt (F_crack_Size u.Inst.Op) fun r2 =>
  .ret ((W.add (Arr.get in_1 0) (W.conv (.u32) u.Inst.Imm)), r2)) (
  .opt (F_exec_between u.Inst.Op (W.of .i64 40) (W.of .i64 42)) fun r3 =>
  .ite r3 (
   .opt (F_crack_Size u.Inst.Op) fun r4 =>
   .ret ((W.add (Arr.get in_1 0) (W.conv (.u32) u.Inst.Imm)), r4)) (
   .ite (W.eq u.Inst.Op (W.of .i64 39)) (
    .opt (F_crack_Size u.Inst.Op) fun r5 =>
    .ret ((Arr.get in_1 0), r5)) (
    .opt (F_exec_between u.Inst.Op (W.of .i64 51) (W.of .i64 53)) fun r6 =>
    .ite r6 (
     .opt (F_crack_Size u.Inst.Op) fun r7 =>
     .ret ((Arr.get in_1 0), r7)) (
     .ret ((W.of .u32 0), (W.of .i64 0))))))
def F_exec_Addr (u : TUop) (in_1 : Arr 3 (W .u32)) : Option (W .u32 × W .i64) := (T_exec_Addr u in_1).eval
/- cotterel/cotterelref24.Size -/
def T_ref24_Size (op : W .i64) : Tree (W .i64) :=
 .ite (W.eq op (W.of .i64 34)) (
  .ret (W.of .i64 1)) (
  .ite (W.eq op (W.of .i64 35)) (
   .ret (W.of .i64 1)) (
   .ite (W.eq op (W.of .i64 40)) (
    .ret (W.of .i64 1)) (
    .ite (W.eq op (W.of .i64 36)) (
     .ret (W.of .i64 2)) (
     .ite (W.eq op (W.of .i64 37)) (
      .ret (W.of .i64 2)) (
      .ite (W.eq op (W.of .i64 41)) (
       .ret (W.of .i64 2)) (
       .ite (W.eq op (W.of .i64 38)) (
        .ret (W.of .i64 4)) (
        .ite (W.eq op (W.of .i64 39)) (
         .ret (W.of .i64 4)) (
         .ite (W.eq op (W.of .i64 42)) (
          .ret (W.of .i64 4)) (
          .ite (W.eq op (W.of .i64 51)) (
           .ret (W.of .i64 4)) (
           .ite (W.eq op (W.of .i64 52)) (
            .ret (W.of .i64 4)) (
            .ite (W.eq op (W.of .i64 53)) (
             .ret (W.of .i64 4)) (
             .ret (W.of .i64 0)))))))))))))
def F_ref24_Size (op : W .i64) : Option (W .i64) := (T_ref24_Size op).eval
/- cotterel/cotterelref32.Addr -/
def T_ref32_Addr (u : TUop) (in_1 : Arr 3 (W .u32)) : Tree (W .u32 × W .i64) :=
 .ite (W.ge u.Inst.Op (W.of .i64 34)) (
  .ite (W.le u.Inst.Op (W.of .i64 38)) (
   .opt (F_ref24_Size u.Inst.Op) fun r1 =>
   .ret ((W.add (Arr.get in_1 0) (W.conv (.u32) u.Inst.Imm)), r1)) (
   .ite (W.ge u.Inst.Op (W.of .i64 40)) (
    .ite (W.le u.Inst.Op (W.of .i64 42)) (
     .opt (F_ref24_Size u.Inst.Op) fun r2 =>
     .ret ((W.add (Arr.get in_1 0) (W.conv (.u32) u.Inst.Imm)), r2)) (
     .ite (W.eq u.Inst.Op (W.of .i64 39)) (
      .opt (F_ref24_Size u.Inst.Op) fun r3 =>
      .ret ((Arr.get in_1 0), r3)) (
      .ite (W.ge u.Inst.Op (W.of .i64 51)) (
       .ite (W.le u.Inst.Op (W.of .i64 53)) (
        .opt (F_ref24_Size u.Inst.Op) fun r4 =>
        .ret ((Arr.get in_1 0), r4)) (
        .ret ((W.of .u32 0), (W.of .i64 0)))) (
       .ret ((W.of .u32 0), (W.of .i64 0)))))) (
    .ite (W.eq u.Inst.Op (W.of .i64 39)) (
     .opt (F_ref24_Size u.Inst.Op) fun r5 =>
     .ret ((Arr.get in_1 0), r5)) (
     .ite (W.ge u.Inst.Op (W.of .i64 51)) (
      .ite (W.le u.Inst.Op (W.of .i64 53)) (
       .opt (F_ref24_Size u.Inst.Op) fun r6 =>
       .ret ((Arr.get in_1 0), r6)) (
       .ret ((W.of .u32 0), (W.of .i64 0)))) (
      .ret ((W.of .u32 0), (W.of .i64 0))))))) (
  .ite (W.ge u.Inst.Op (W.of .i64 40)) (
   .ite (W.le u.Inst.Op (W.of .i64 42)) (
    .opt (F_ref24_Size u.Inst.Op) fun r7 =>
    .ret ((W.add (Arr.get in_1 0) (W.conv (.u32) u.Inst.Imm)), r7)) (
    .ite (W.eq u.Inst.Op (W.of .i64 39)) (
     .opt (F_ref24_Size u.Inst.Op) fun r8 =>
     .ret ((Arr.get in_1 0), r8)) (
     .ite (W.ge u.Inst.Op (W.of .i64 51)) (
      .ite (W.le u.Inst.Op (W.of .i64 53)) (
       .opt (F_ref24_Size u.Inst.Op) fun r9 =>
       .ret ((Arr.get in_1 0), r9)) (
       .ret ((W.of .u32 0), (W.of .i64 0)))) (
      .ret ((W.of .u32 0), (W.of .i64 0)))))) (
   .ite (W.eq u.Inst.Op (W.of .i64 39)) (
    .opt (F_ref24_Size u.Inst.Op) fun r10 =>
    .ret ((Arr.get in_1 0), r10)) (
    .ite (W.ge u.Inst.Op (W.of .i64 51)) (
     .ite (W.le u.Inst.Op (W.of .i64 53)) (
      .opt (F_ref24_Size u.Inst.Op) fun r11 =>
      .ret ((Arr.get in_1 0), r11)) (
      .ret ((W.of .u32 0), (W.of .i64 0)))) (
     .ret ((W.of .u32 0), (W.of .i64 0))))))
def F_ref32_Addr (u : TUop) (in_1 : Arr 3 (W .u32)) : Option (W .u32 × W .i64) := (T_ref32_Addr u in_1).eval
/- cotterel/exec.Data -/
def T_exec_Data (u : TUop) (in_1 : Arr 3 (W .u32)) : Tree (W .u32) :=
 .opt (F_exec_between u.Inst.Op (W.of .i64 40) (W.of .i64 42)) fun r1 =>
 .ite (!r1) (
  .ret (W.of .u32 0)) (
  .opt (F_crack_Size u.Inst.Op) fun r2 =>
  .opt (F_bits_Zext (Arr.get in_1 1) (W.mul (W.of .i64 8) r2)) fun r3 =>
  .ret r3)
def F_exec_Data (u : TUop) (in_1 : Arr 3 (W .u32)) : Option (W .u32) := (T_exec_Data u in_1).eval
/- cotterel/cotterelref01.brought -/
def T_ref01_brought (n_0 : W .i64) (least : W .i64) (most : W .i64) : Tree (W .i64) :=
 .ite (W.lt n_0 least) (
  .ret least) (
  .ite (W.gt n_0 most) (
   .ret most) (
   .ret n_0))
def F_ref01_brought (n_0 : W .i64) (least : W .i64) (most : W .i64) : Option (W .i64) := (T_ref01_brought n_0 least most).eval
/- cotterel/cotterelref01.power -/
def B_ref01_power_7 (n_0 : W .i64) (x : W .u32) (i : W .i64) : Tree (Rnd (W .i64 × W .u32 × W .i64 × Unit) (W .u32 × Unit)) :=
 .ite (W.lt i n_0) (
  .ret (.next (n_0, (W.mul x (W.of .u32 2)), (W.add i (W.of .i64 1)), ()))) (
  .ret (.out (x, ())))
def L_ref01_power_7 (a : W .i64 × W .u32 × W .i64 × Unit) : Option (W .u32 × Unit) := iter (fun a : W .i64 × W .u32 × W .i64 × Unit => (B_ref01_power_7 a.1 a.2.1 a.2.2.1).eval) fuel a
def T_ref01_power (n_0 : W .i64) : Tree (W .u32) :=
 .opt (L_ref01_power_7 ((n_0, (W.of .u32 1), (W.of .i64 0), ()))) fun o1 =>
 .ret o1.1
def F_ref01_power (n_0 : W .i64) : Option (W .u32) := (T_ref01_power n_0).eval
/- cotterel/cotterelref01.bit -/
def T_ref01_bit (x : W .u32) (i : W .i64) : Tree (W .u32) :=
 .opt (F_ref01_power i) fun r1 =>
 .opt (W.quo? x r1) fun z2 =>
 .ret (W.rem z2 (W.of .u32 2))
def F_ref01_bit (x : W .u32) (i : W .i64) : Option (W .u32) := (T_ref01_bit x i).eval
/- cotterel/cotterelref01.Zext -/
def B_ref01_Zext_9 (x : W .u32) (n_1 : W .i64) (out : W .u32) (i : W .i64) : Tree (Rnd (W .u32 × W .i64 × W .u32 × W .i64 × Unit) (W .u32 × Unit)) :=
 .ite (W.lt i n_1) (
  .opt (F_ref01_bit x i) fun r2 =>
  .opt (F_ref01_power i) fun r3 =>
  .ret (.next (x, n_1, (W.add out (W.mul r2 r3)), (W.add i (W.of .i64 1)), ()))) (
  .ret (.out (out, ())))
def L_ref01_Zext_9 (a : W .u32 × W .i64 × W .u32 × W .i64 × Unit) : Option (W .u32 × Unit) := iter (fun a : W .u32 × W .i64 × W .u32 × W .i64 × Unit => (B_ref01_Zext_9 a.1 a.2.1 a.2.2.1 a.2.2.2.1).eval) fuel a
def T_ref01_Zext (x : W .u32) (n_1 : W .i64) : Tree (W .u32) :=
 .opt (F_ref01_brought n_1 (W.of .i64 0) (W.of .i64 32)) fun r1 =>
 .opt (L_ref01_Zext_9 ((x, r1, (W.of .u32 0), (W.of .i64 0), ()))) fun o4 =>
 .ret o4.1
def F_ref01_Zext (x : W .u32) (n_1 : W .i64) : Option (W .u32) := (T_ref01_Zext x n_1).eval
/- cotterel/cotterelref32.Data -/
def T_ref32_Data (u : TUop) (in_1 : Arr 3 (W .u32)) : Tree (W .u32) :=
 .ite (W.lt u.Inst.Op (W.of .i64 40)) (
  .ret (W.of .u32 0)) (
  .ite (W.gt u.Inst.Op (W.of .i64 42)) (
   .ret (W.of .u32 0)) (
   .opt (F_ref24_Size u.Inst.Op) fun r1 =>
   .opt (F_ref01_Zext (Arr.get in_1 1) (W.mul (W.of .i64 8) r1)) fun r2 =>
   .ret r2))
def F_ref32_Data (u : TUop) (in_1 : Arr 3 (W .u32)) : Option (W .u32) := (T_ref32_Data u in_1).eval
/- cotterel/cotterelref01.Sext -/
def B_ref01_Sext_15 (out : W .u32) (i : W .i64) : Tree (Rnd (W .u32 × W .i64 × Unit) (W .u32 × Unit)) :=
 .ite (W.lt i (W.of .i64 32)) (
  .opt (F_ref01_power i) fun r4 =>
  .ret (.next ((W.add out r4), (W.add i (W.of .i64 1)), ()))) (
  .ret (.out (out, ())))
def L_ref01_Sext_15 (a : W .u32 × W .i64 × Unit) : Option (W .u32 × Unit) := iter (fun a : W .u32 × W .i64 × Unit => (B_ref01_Sext_15 a.1 a.2.1).eval) fuel a
def T_ref01_Sext (x : W .u32) (n_1 : W .i64) : Tree (W .u32) :=
 .opt (F_ref01_brought n_1 (W.of .i64 0) (W.of .i64 32)) fun r1 =>
 .opt (F_ref01_Zext x r1) fun r2 =>
 .ite (W.eq r1 (W.of .i64 0)) (
  .ret r2) (
  .opt (F_ref01_bit x (W.sub r1 (W.of .i64 1))) fun r3 =>
  .ite (W.eq r3 (W.of .u32 0)) (
   .ret r2) (
   .opt (L_ref01_Sext_15 ((r2, r1, ()))) fun o5 =>
   .ret o5.1))
def F_ref01_Sext (x : W .u32) (n_1 : W .i64) : Option (W .u32) := (T_ref01_Sext x n_1).eval
/- cotterel/cotterelref32.Ext -/
def T_ref32_Ext (op : W .i64) (raw : W .u32) : Tree (W .u32) :=
 .ite (W.eq op (W.of .i64 34)) (
  .opt (F_ref01_Sext raw (W.of .i64 8)) fun r1 =>
  .ret r1) (
  .ite (W.eq op (W.of .i64 35)) (
   .opt (F_ref01_Zext raw (W.of .i64 8)) fun r2 =>
   .ret r2) (
   .ite (W.eq op (W.of .i64 36)) (
    .opt (F_ref01_Sext raw (W.of .i64 16)) fun r3 =>
    .ret r3) (
    .ite (W.eq op (W.of .i64 37)) (
     .opt (F_ref01_Zext raw (W.of .i64 16)) fun r4 =>
     .ret r4) (
     .ret raw))))
def F_ref32_Ext (op : W .i64) (raw : W .u32) : Option (W .u32) := (T_ref32_Ext op raw).eval
/- cotterel/cotterellaw32.ExecMoves -/
def T_law32_ExecMoves (u : TUop) (in_1 : Arr 3 (W .u32)) (raw : W .u32) : Tree (Bool) :=
 .opt (F_exec_Addr u in_1) fun r1 =>
 .opt (F_ref32_Addr u in_1) fun r2 =>
 .ite (W.eq r1.1 r2.1) (
  .ite (W.eq r1.2 r2.2) (
   .opt (F_exec_Data u in_1) fun r3 =>
   .opt (F_ref32_Data u in_1) fun r4 =>
   .ite (W.eq r3 r4) (
    .opt (F_exec_Ext u.Inst.Op raw) fun r5 =>
    .opt (F_ref32_Ext u.Inst.Op raw) fun r6 =>
    .ite (W.eq r5 r6) (
     .opt (F_law32_awake) fun r7 =>
     .ret r7) (
     .ret false)) (
    .ret false)) (
   .ret false)) (
  .ret false)
def F_law32_ExecMoves (u : TUop) (in_1 : Arr 3 (W .u32)) (raw : W .u32) : Option (Bool) := (T_law32_ExecMoves u in_1 raw).eval
/- cotterel/crack.Serial -/
def T_crack_Serial (op : W .i64) : Tree (Bool) :=
 .ite (W.ge op (W.of .i64 51)) (
  .ret (W.le op (W.of .i64 62))) (
  .ret false)
def F_crack_Serial (op : W .i64) : Option (Bool) := (T_crack_Serial op).eval
/- cotterel/crack.Unit -/
def T_crack_Unit (op : W .i64) : Tree (W .i64) :=
 .ite (W.lt op (W.of .i64 1)) (
  .ret (W.of .i64 0)) (
  .ite (W.gt op (W.of .i64 63)) (
   .ret (W.of .i64 0)) (
   .ite (W.ge op (W.of .i64 11)) (
    .ite (W.le op (W.of .i64 13)) (
     .ret (W.of .i64 2)) (
     .ite (W.ge op (W.of .i64 14)) (
      .ite (W.le op (W.of .i64 17)) (
       .ret (W.of .i64 3)) (
       .ite (W.ge op (W.of .i64 34)) (
        .ite (W.le op (W.of .i64 39)) (
         .ret (W.of .i64 5)) (
         .ite (W.ge op (W.of .i64 40)) (
          .ite (W.le op (W.of .i64 42)) (
           .ret (W.of .i64 6)) (
           .ite (W.ge op (W.of .i64 43)) (
            .ite (W.le op (W.of .i64 50)) (
             .ret (W.of .i64 4)) (
             .opt (F_crack_Serial op) fun r1 =>
             .ite r1 (
              .ret (W.of .i64 7)) (
              .ret (W.of .i64 1)))) (
            .opt (F_crack_Serial op) fun r2 =>
            .ite r2 (
             .ret (W.of .i64 7)) (
             .ret (W.of .i64 1))))) (
          .ite (W.ge op (W.of .i64 43)) (
           .ite (W.le op (W.of .i64 50)) (
            .ret (W.of .i64 4)) (
            .opt (F_crack_Serial op) fun r3 =>
            .ite r3 (
             .ret (W.of .i64 7)) (
             .ret (W.of .i64 1)))) (
           .opt (F_crack_Serial op) fun r4 =>
           .ite r4 (
            .ret (W.of .i64 7)) (
            .ret (W.of .i64 1)))))) (
        .ite (W.ge op (W.of .i64 40)) (
         .ite (W.le op (W.of .i64 42)) (
          .ret (W.of .i64 6)) (
          .ite (W.ge op (W.of .i64 43)) (
           .ite (W.le op (W.of .i64 50)) (
            .ret (W.of .i64 4)) (
            .opt (F_crack_Serial op) fun r5 =>
            .ite r5 (
             .ret (W.of .i64 7)) (
             .ret (W.of .i64 1)))) (
           .opt (F_crack_Serial op) fun r6 =>
           .ite r6 (
            .ret (W.of .i64 7)) (
            .ret (W.of .i64 1))))) (
         .ite (W.ge op (W.of .i64 43)) (
          .ite (W.le op (W.of .i64 50)) (
           .ret (W.of .i64 4)) (
           .opt (F_crack_Serial op) fun r7 =>
           .ite r7 (
            .ret (W.of .i64 7)) (
            .ret (W.of .i64 1)))) (
          .opt (F_crack_Serial op) fun r8 =>
          .ite r8 (
           .ret (W.of .i64 7)) (
           .ret (W.of .i64 1))))))) (
      .ite (W.ge op (W.of .i64 34)) (
       .ite (W.le op (W.of .i64 39)) (
        .ret (W.of .i64 5)) (
        .ite (W.ge op (W.of .i64 40)) (
         .ite (W.le op (W.of .i64 42)) (
          .ret (W.of .i64 6)) (
          .ite (W.ge op (W.of .i64 43)) (
           .ite (W.le op (W.of .i64 50)) (
            .ret (W.of .i64 4)) (
            .opt (F_crack_Serial op) fun r9 =>
            .ite r9 (
             .ret (W.of .i64 7)) (
             .ret (W.of .i64 1)))) (
           .opt (F_crack_Serial op) fun r10 =>
           .ite r10 (
            .ret (W.of .i64 7)) (
            .ret (W.of .i64 1))))) (
         .ite (W.ge op (W.of .i64 43)) (
          .ite (W.le op (W.of .i64 50)) (
           .ret (W.of .i64 4)) (
           .opt (F_crack_Serial op) fun r11 =>
           .ite r11 (
            .ret (W.of .i64 7)) (
            .ret (W.of .i64 1)))) (
          .opt (F_crack_Serial op) fun r12 =>
          .ite r12 (
           .ret (W.of .i64 7)) (
           .ret (W.of .i64 1)))))) (
       .ite (W.ge op (W.of .i64 40)) (
        .ite (W.le op (W.of .i64 42)) (
         .ret (W.of .i64 6)) (
         .ite (W.ge op (W.of .i64 43)) (
          .ite (W.le op (W.of .i64 50)) (
           .ret (W.of .i64 4)) (
           .opt (F_crack_Serial op) fun r13 =>
           .ite r13 (
            .ret (W.of .i64 7)) (
            .ret (W.of .i64 1)))) (
          .opt (F_crack_Serial op) fun r14 =>
          .ite r14 (
           .ret (W.of .i64 7)) (
           .ret (W.of .i64 1))))) (
        .ite (W.ge op (W.of .i64 43)) (
         .ite (W.le op (W.of .i64 50)) (
          .ret (W.of .i64 4)) (
          .opt (F_crack_Serial op) fun r15 =>
          .ite r15 (
           .ret (W.of .i64 7)) (
           .ret (W.of .i64 1)))) (
         .opt (F_crack_Serial op) fun r16 =>
         .ite r16 (
          .ret (W.of .i64 7)) (
          .ret (W.of .i64 1)))))))) (
    .ite (W.ge op (W.of .i64 14)) (
     .ite (W.le op (W.of .i64 17)) (
      .ret (W.of .i64 3)) (
      .ite (W.ge op (W.of .i64 34)) (
       .ite (W.le op (W.of .i64 39)) (
        .ret (W.of .i64 5)) (
        .ite (W.ge op (W.of .i64 40)) (
         .ite (W.le op (W.of .i64 42)) (
          .ret (W.of .i64 6)) (
          .ite (W.ge op (W.of .i64 43)) (
           .ite (W.le op (W.of .i64 50)) (
            .ret (W.of .i64 4)) (
            .opt (F_crack_Serial op) fun r17 =>
            .ite r17 (
             .ret (W.of .i64 7)) (
             .ret (W.of .i64 1)))) (
           .opt (F_crack_Serial op) fun r18 =>
           .ite r18 (
            .ret (W.of .i64 7)) (
            .ret (W.of .i64 1))))) (
         .ite (W.ge op (W.of .i64 43)) (
          .ite (W.le op (W.of .i64 50)) (
           .ret (W.of .i64 4)) (
           .opt (F_crack_Serial op) fun r19 =>
           .ite r19 (
            .ret (W.of .i64 7)) (
            .ret (W.of .i64 1)))) (
          .opt (F_crack_Serial op) fun r20 =>
          .ite r20 (
           .ret (W.of .i64 7)) (
           .ret (W.of .i64 1)))))) (
       .ite (W.ge op (W.of .i64 40)) (
        .ite (W.le op (W.of .i64 42)) (
         .ret (W.of .i64 6)) (
         .ite (W.ge op (W.of .i64 43)) (
          .ite (W.le op (W.of .i64 50)) (
           .ret (W.of .i64 4)) (
           .opt (F_crack_Serial op) fun r21 =>
           .ite r21 (
            .ret (W.of .i64 7)) (
            .ret (W.of .i64 1)))) (
          .opt (F_crack_Serial op) fun r22 =>
          .ite r22 (
           .ret (W.of .i64 7)) (
           .ret (W.of .i64 1))))) (
        .ite (W.ge op (W.of .i64 43)) (
         .ite (W.le op (W.of .i64 50)) (
          .ret (W.of .i64 4)) (
          .opt (F_crack_Serial op) fun r23 =>
          .ite r23 (
           .ret (W.of .i64 7)) (
           .ret (W.of .i64 1)))) (
         .opt (F_crack_Serial op) fun r24 =>
         .ite r24 (
          .ret (W.of .i64 7)) (
          .ret (W.of .i64 1))))))) (
     .ite (W.ge op (W.of .i64 34)) (
      .ite (W.le op (W.of .i64 39)) (
       .ret (W.of .i64 5)) (
       .ite (W.ge op (W.of .i64 40)) (
        .ite (W.le op (W.of .i64 42)) (
         .ret (W.of .i64 6)) (
         .ite (W.ge op (W.of .i64 43)) (
          .ite (W.le op (W.of .i64 50)) (
           .ret (W.of .i64 4)) (
           .opt (F_crack_Serial op) fun r25 =>
           .ite r25 (
            .ret (W.of .i64 7)) (
            .ret (W.of .i64 1)))) (
          .opt (F_crack_Serial op) fun r26 =>
          .ite r26 (
           .ret (W.of .i64 7)) (
           .ret (W.of .i64 1))))) (
        .ite (W.ge op (W.of .i64 43)) (
         .ite (W.le op (W.of .i64 50)) (
          .ret (W.of .i64 4)) (
          .opt (F_crack_Serial op) fun r27 =>
          .ite r27 (
           .ret (W.of .i64 7)) (
           .ret (W.of .i64 1)))) (
         .opt (F_crack_Serial op) fun r28 =>
         .ite r28 (
          .ret (W.of .i64 7)) (
          .ret (W.of .i64 1)))))) (
      .ite (W.ge op (W.of .i64 40)) (
       .ite (W.le op (W.of .i64 42)) (
        .ret (W.of .i64 6)) (
        .ite (W.ge op (W.of .i64 43)) (
         .ite (W.le op (W.of .i64 50)) (
          .ret (W.of .i64 4)) (
          .opt (F_crack_Serial op) fun r29 =>
          .ite r29 (
           .ret (W.of .i64 7)) (
           .ret (W.of .i64 1)))) (
         .opt (F_crack_Serial op) fun r30 =>
         .ite r30 (
          .ret (W.of .i64 7)) (
          .ret (W.of .i64 1))))) (
       .ite (W.ge op (W.of .i64 43)) (
        .ite (W.le op (W.of .i64 50)) (
         .ret (W.of .i64 4)) (
         .opt (F_crack_Serial op) fun r31 =>
         .ite r31 (
          .ret (W.of .i64 7)) (
          .ret (W.of .i64 1)))) (
        .opt (F_crack_Serial op) fun r32 =>
        .ite r32 (
         .ret (W.of .i64 7)) (
         .ret (W.of .i64 1)))))))))
def F_crack_Unit (op : W .i64) : Option (W .i64) := (T_crack_Unit op).eval
/- cotterel/cotterellaw32.ExecLoads -/
def T_law32_ExecLoads (op : W .i64) (raw : W .u32) (other : W .u32) : Tree (Bool) :=
 .opt (F_crack_Size op) fun r1 =>
 .opt (F_crack_Unit op) fun r2 =>
 .ite (W.ne r2 (W.of .i64 5)) (
  .opt (F_law32_awake) fun r3 =>
  .ret r3) (
  .ite (W.lt r1 (W.of .i64 1)) (
   .opt (F_law32_awake) fun r4 =>
   .ret r4) (
   .ite (W.gt r1 (W.of .i64 4)) (
    .opt (F_law32_awake) fun r5 =>
    .ret r5) (
    .opt (F_exec_Ext op raw) fun r6 =>
    .opt (F_exec_Ext op (W.or (W.and raw (W.sub (W.shl (W.of .u32 1) (W.mul (W.of .u64 8) (W.conv (.u64) r1))) (W.of .u32 1))) (W.andNot other (W.sub (W.shl (W.of .u32 1) (W.mul (W.of .u64 8) (W.conv (.u64) r1))) (W.of .u32 1))))) fun r7 =>
    .ite (W.ne r6 r7) (
     .ite (W.lt r1 (W.of .i64 4)) (
      .ret false) (
      .opt (F_exec_Ext op raw) fun r8 =>
      .ite (W.ne (W.and r8 (W.sub (W.shl (W.of .u32 1) (W.mul (W.of .u64 8) (W.conv (.u64) r1))) (W.of .u32 1))) (W.and raw (W.sub (W.shl (W.of .u32 1) (W.mul (W.of .u64 8) (W.conv (.u64) r1))) (W.of .u32 1)))) (
       .ret false) (
       .opt (F_exec_Ext op raw) fun r9 =>
       .ite (W.eq op (W.of .i64 34)) (
        .ite (W.lt r1 (W.of .i64 4)) (
         .ite (W.ne (W.andNot r9 (W.sub (W.shl (W.of .u32 1) (W.mul (W.of .u64 8) (W.conv (.u64) r1))) (W.of .u32 1))) (W.of .u32 0)) (
          .ite (W.ne (W.andNot r9 (W.sub (W.shl (W.of .u32 1) (W.mul (W.of .u64 8) (W.conv (.u64) r1))) (W.of .u32 1))) (W.com (W.sub (W.shl (W.of .u32 1) (W.mul (W.of .u64 8) (W.conv (.u64) r1))) (W.of .u32 1)))) (
           .ret false) (
           .ite (W.ne (W.and (W.shr raw (W.sub (W.mul (W.of .u64 8) (W.conv (.u64) r1)) (W.of .u64 1))) (W.of .u32 1)) (W.of .u32 1)) (
            .ret false) (
            .opt (F_law32_awake) fun r10 =>
            .ret r10))) (
          .opt (F_law32_awake) fun r11 =>
          .ret r11)) (
         .opt (F_law32_awake) fun r12 =>
         .ret r12)) (
        .ite (W.lt r1 (W.of .i64 4)) (
         .ite (W.ne (W.andNot r9 (W.sub (W.shl (W.of .u32 1) (W.mul (W.of .u64 8) (W.conv (.u64) r1))) (W.of .u32 1))) (W.of .u32 0)) (
          .ite (!(W.eq op (W.of .i64 36))) (
           .ret false) (
           .ite (W.ne (W.andNot r9 (W.sub (W.shl (W.of .u32 1) (W.mul (W.of .u64 8) (W.conv (.u64) r1))) (W.of .u32 1))) (W.com (W.sub (W.shl (W.of .u32 1) (W.mul (W.of .u64 8) (W.conv (.u64) r1))) (W.of .u32 1)))) (
            .ret false) (
            .ite (W.ne (W.and (W.shr raw (W.sub (W.mul (W.of .u64 8) (W.conv (.u64) r1)) (W.of .u64 1))) (W.of .u32 1)) (W.of .u32 1)) (
             .ret false) (
             .opt (F_law32_awake) fun r13 =>
             .ret r13)))) (
          .opt (F_law32_awake) fun r14 =>
          .ret r14)) (
         .opt (F_law32_awake) fun r15 =>
         .ret r15))))) (
     .opt (F_exec_Ext op raw) fun r16 =>
     .ite (W.ne (W.and r16 (W.sub (W.shl (W.of .u32 1) (W.mul (W.of .u64 8) (W.conv (.u64) r1))) (W.of .u32 1))) (W.and raw (W.sub (W.shl (W.of .u32 1) (W.mul (W.of .u64 8) (W.conv (.u64) r1))) (W.of .u32 1)))) (
      .ret false) (
      .opt (F_exec_Ext op raw) fun r17 =>
      .ite (W.eq op (W.of .i64 34)) (
       .ite (W.lt r1 (W.of .i64 4)) (
        .ite (W.ne (W.andNot r17 (W.sub (W.shl (W.of .u32 1) (W.mul (W.of .u64 8) (W.conv (.u64) r1))) (W.of .u32 1))) (W.of .u32 0)) (
         .ite (W.ne (W.andNot r17 (W.sub (W.shl (W.of .u32 1) (W.mul (W.of .u64 8) (W.conv (.u64) r1))) (W.of .u32 1))) (W.com (W.sub (W.shl (W.of .u32 1) (W.mul (W.of .u64 8) (W.conv (.u64) r1))) (W.of .u32 1)))) (
          .ret false) (
          .ite (W.ne (W.and (W.shr raw (W.sub (W.mul (W.of .u64 8) (W.conv (.u64) r1)) (W.of .u64 1))) (W.of .u32 1)) (W.of .u32 1)) (
           .ret false) (
           .opt (F_law32_awake) fun r18 =>
           .ret r18))) (
         .opt (F_law32_awake) fun r19 =>
         .ret r19)) (
        .opt (F_law32_awake) fun r20 =>
        .ret r20)) (
       .ite (W.lt r1 (W.of .i64 4)) (
        .ite (W.ne (W.andNot r17 (W.sub (W.shl (W.of .u32 1) (W.mul (W.of .u64 8) (W.conv (.u64) r1))) (W.of .u32 1))) (W.of .u32 0)) (
         .ite (!(W.eq op (W.of .i64 36))) (
          .ret false) (
          .ite (W.ne (W.andNot r17 (W.sub (W.shl (W.of .u32 1) (W.mul (W.of .u64 8) (W.conv (.u64) r1))) (W.of .u32 1))) (W.com (W.sub (W.shl (W.of .u32 1) (W.mul (W.of .u64 8) (W.conv (.u64) r1))) (W.of .u32 1)))) (
           .ret false) (
           .ite (W.ne (W.and (W.shr raw (W.sub (W.mul (W.of .u64 8) (W.conv (.u64) r1)) (W.of .u64 1))) (W.of .u32 1)) (W.of .u32 1)) (
            .ret false) (
            .opt (F_law32_awake) fun r21 =>
            .ret r21)))) (
         .opt (F_law32_awake) fun r22 =>
         .ret r22)) (
        .opt (F_law32_awake) fun r23 =>
        .ret r23)))))))
def F_law32_ExecLoads (op : W .i64) (raw : W .u32) (other : W .u32) : Option (Bool) := (T_law32_ExecLoads op raw other).eval
end Go.Proofs.Ytcinobbeapgklaa
