/- YtijckobfnmkjdaaGreatDoorTrees: the functions as decision trees. No statement of the seat is proved here. -/
import Derived.Test.YtijckobfnmkjdaaGreatDoorTypes
import Derived.Test.YtijckobfnmkjdaaGreatDoorA2D
set_option linter.unusedSimpArgs false
set_option linter.unusedVariables false
set_option maxRecDepth 100000
namespace Go.Proofs.YtijckobfnmkjdaaGreatDoor
open Go Go.A2
noncomputable section
def T_inst_Form (op:W .i64):Tree (W .i64):=
 .ite (W.lt op (W.of .i64 1)) (.ret (W.of .i64 0))
 (.ite (W.gt op (W.of .i64 63)) (.ret (W.of .i64 0))
 (.ite (W.ge op (W.of .i64 21)) (.ite (W.le op (W.of .i64 23)) (.ret (W.of .i64 11))
 (.ite (W.le op (W.of .i64 24)) (.ret (W.of .i64 1))
 (.ite (W.eq op (W.of .i64 33)) (.ret (W.of .i64 5))
 (.ite (W.eq op (W.of .i64 49)) (.ret (W.of .i64 5))
 (.ite (W.le op (W.of .i64 39)) (.ret (W.of .i64 2))
 (.ite (W.eq op (W.of .i64 50)) (.ret (W.of .i64 2))
 (.ite (W.le op (W.of .i64 42)) (.ret (W.of .i64 3))
 (.ite (W.le op (W.of .i64 48)) (.ret (W.of .i64 4))
 (.ite (W.le op (W.of .i64 53)) (.ret (W.of .i64 6))
 (.ite (W.eq op (W.of .i64 56)) (.ret (W.of .i64 7))
 (.ite (W.eq op (W.of .i64 57)) (.ret (W.of .i64 8))
 (.ite (W.eq op (W.of .i64 60)) (.ret (W.of .i64 9))
 (.ite (W.eq op (W.of .i64 62)) (.ret (W.of .i64 9))
 (.ret (W.of .i64 10)))))))))))))))
 (.ite (W.le op (W.of .i64 24)) (.ret (W.of .i64 1))
 (.ite (W.eq op (W.of .i64 33)) (.ret (W.of .i64 5))
 (.ite (W.eq op (W.of .i64 49)) (.ret (W.of .i64 5))
 (.ite (W.le op (W.of .i64 39)) (.ret (W.of .i64 2))
 (.ite (W.eq op (W.of .i64 50)) (.ret (W.of .i64 2))
 (.ite (W.le op (W.of .i64 42)) (.ret (W.of .i64 3))
 (.ite (W.le op (W.of .i64 48)) (.ret (W.of .i64 4))
 (.ite (W.le op (W.of .i64 53)) (.ret (W.of .i64 6))
 (.ite (W.eq op (W.of .i64 56)) (.ret (W.of .i64 7))
 (.ite (W.eq op (W.of .i64 57)) (.ret (W.of .i64 8))
 (.ite (W.eq op (W.of .i64 60)) (.ret (W.of .i64 9))
 (.ite (W.eq op (W.of .i64 62)) (.ret (W.of .i64 9))
 (.ret (W.of .i64 10))))))))))))))))
def F_inst_Form (op:W .i64):Option (W .i64):=(T_inst_Form op).eval
def T_inst_has (op field:W .i64):Tree (Bool):=
 .opt (F_inst_Form op) fun r1=>
 .opt (idx? 12 r1) fun j2=>
 .ret (W.ne (W.and (Arr.get (Arr.lit 12 [(W.of .i64 0),(W.of .i64 7),(W.of .i64 11),(W.of .i64 14),(W.of .i64 14),(W.of .i64 9),(W.of .i64 7),(W.of .i64 9),(W.of .i64 10),(W.of .i64 2),(W.of .i64 0),(W.of .i64 3)] rfl:Arr 12 (W .i64)) j2) field) (W.of .i64 0))
def F_inst_has (op field:W .i64):Option (Bool):=(T_inst_has op field).eval
def T_inst_within (op n_1:W .i64):Tree (Bool):=
 .ite (W.eq op (W.of .i64 30)) (.ite (W.ge n_1 (W.of .i64 0)) (.ret (W.le n_1 (W.of .i64 31)))
 (.ret false))
 (.ite (W.eq op (W.of .i64 31)) (.ite (W.ge n_1 (W.of .i64 0)) (.ret (W.le n_1 (W.of .i64 31)))
 (.ret false))
 (.ite (W.eq op (W.of .i64 32)) (.ite (W.ge n_1 (W.of .i64 0)) (.ret (W.le n_1 (W.of .i64 31)))
 (.ret false))
 (.ite (W.eq op (W.of .i64 33)) (.ite (W.ge n_1 (W.of .i64 0)) (.ret (W.lt n_1 (W.of .i64 262144)))
 (.ret false))
 (.ite (W.eq op (W.of .i64 49)) (.ite (W.ge n_1 (W.of .i64 (-131072))) (.ret (W.lt n_1 (W.of .i64 131072)))
 (.ret false))
 (.ite (W.ge n_1 (W.of .i64 (-8192))) (.ret (W.lt n_1 (W.of .i64 8192)))
 (.ret false))))))
def F_inst_within (op n_1:W .i64):Option (Bool):=(T_inst_within op n_1).eval
def B_inst_Right_11 (i:TInst) (t_18:Arr 3 (TS94)) (t_19:W .i64):Tree (Rnd (TInst×Arr 3 (TS94)×W .i64×Unit) ((TInst×W .i64×Unit)⊕(TInst×Unit×Unit))):=
 .ite (W.lt t_19 (W.of .i64 3)) (.opt (idx? 3 t_19) fun j2=>
 .ite (W.lt (Arr.get t_18 j2).n_ (W.of .i64 0)) (.ret (.out (.inl (i,(W.of .i64 1),()))))
 (.ite (W.gt (Arr.get t_18 j2).n_ (Arr.get t_18 j2).most) (.ret (.out (.inl (i,(W.of .i64 1),()))))
 (.opt (F_inst_has i.Op (Arr.get t_18 j2).bit) fun r3=>
 .ite (!r3) (.ite (W.ne (Arr.get t_18 j2).n_ (W.of .i64 0)) (.ret (.out (.inl (i,(W.of .i64 1),()))))
 (.ret (.next (i,t_18,(W.add t_19 (W.of .i64 1)),()))))
 (.ret (.next (i,t_18,(W.add t_19 (W.of .i64 1)),()))))))
 (.ret (.out (.inr (i,(),()))))
def L_inst_Right_11 (a:TInst×Arr 3 (TS94)×W .i64×Unit):Option ((TInst×W .i64×Unit)⊕(TInst×Unit×Unit)):=iter (fun a:TInst×Arr 3 (TS94)×W .i64×Unit=>(B_inst_Right_11 a.1 a.2.1 a.2.2.1).eval) fuel a
def T_inst_Right (i:TInst):Tree (W .i64):=
 .opt (F_inst_Form i.Op) fun r1=>
 .ite (W.eq r1 (W.of .i64 0)) (.ret (W.of .i64 9))
 (.opt (L_inst_Right_11 ((i,(Arr.lit 3 [(TS94.mk (W.of .i64 1) i.Rd (W.of .i64 15)),(TS94.mk (W.of .i64 2) i.Ra (W.of .i64 15)),(TS94.mk (W.of .i64 4) i.Rb (W.of .i64 15))] rfl:Arr 3 (TS94)),(W.of .i64 0),()))) fun o4=>
 .sum o4 (fun p5=>
 .ret p5.2.1)
 (fun o6=>
 .opt (F_inst_has o6.1.Op (W.of .i64 8)) fun r7=>
 .ite (!r7) (.ite (W.ne o6.1.Imm (W.of .i64 0)) (.ret (W.of .i64 1))
 (.opt (F_inst_has o6.1.Op (W.of .i64 8)) fun r8=>
 .ite r8 (.opt (F_inst_within o6.1.Op o6.1.Imm) fun r9=>
 .ite (!r9) (.ret (W.of .i64 3))
 (.ret (W.of .i64 0)))
 (.ret (W.of .i64 0))))
 (.opt (F_inst_has o6.1.Op (W.of .i64 8)) fun r10=>
 .ite r10 (.opt (F_inst_within o6.1.Op o6.1.Imm) fun r11=>
 .ite (!r11) (.ret (W.of .i64 3))
 (.ret (W.of .i64 0)))
 (.ret (W.of .i64 0)))))
def F_inst_Right (i:TInst):Option (W .i64):=(T_inst_Right i).eval
def T_bits_clamp (n_0 low high:W .i64):Tree (W .i64):=
 .ret (W.min (W.max n_0 low) high)
def F_bits_clamp (n_0 low high:W .i64):Option (W .i64):=(T_bits_clamp n_0 low high).eval
def T_bits_ones (n_0:W .i64):Tree (W .u32):=
 .opt (W.shl? (W.of .u64 1) n_0) fun z1=>
 .ret (W.conv (.u32) (W.sub z1 (W.of .u64 1)))
def F_bits_ones (n_0:W .i64):Option (W .u32):=(T_bits_ones n_0).eval
def T_bits_mask (hi lo:W .i64):Tree (W .u32×W .i64):=
 .opt (F_bits_clamp hi (W.of .i64 0) (W.of .i64 31)) fun r1=>
 .opt (F_bits_clamp lo (W.of .i64 0) (W.of .i64 31)) fun r2=>
 .ite (W.lt r1 r2) (.ret ((W.of .u32 0),(W.of .i64 0)))
 (.opt (F_bits_ones (W.add (W.sub r1 r2) (W.of .i64 1))) fun r3=>
 .opt (W.shl? r3 r2) fun z4=>
 .ret (z4,r2))
def F_bits_mask (hi lo:W .i64):Option (W .u32×W .i64):=(T_bits_mask hi lo).eval
def T_bits_Put (x:W .u32) (hi lo:W .i64) (v:W .u32):Tree (W .u32):=
 .opt (F_bits_mask hi lo) fun r1=>
 .opt (W.shl? v r1.2) fun z2=>
 .ret (W.or (W.andNot x r1.1) (W.and z2 r1.1))
def F_bits_Put (x:W .u32) (hi lo:W .i64) (v:W .u32):Option (W .u32):=(T_bits_Put x hi lo v).eval
def T_inst_width (op:W .i64):Tree (W .i64):=
 .opt (F_inst_Form op) fun r1=>
 .ite (W.eq r1 (W.of .i64 5)) (.ret (W.of .i64 18))
 (.ret (W.of .i64 14))
def F_inst_width (op:W .i64):Option (W .i64):=(T_inst_width op).eval
def T_inst_Enc (i:TInst):Tree (W .u32×W .i64):=
 .opt (F_inst_Right i) fun r1=>
 .ite (W.ne r1 (W.of .i64 0)) (.ret ((W.of .u32 0),r1))
 (.opt (F_bits_Put (W.of .u32 0) (W.of .i64 31) (W.of .i64 26) (W.conv (.u32) i.Op)) fun r2=>
 .opt (F_bits_Put r2 (W.of .i64 25) (W.of .i64 22) (W.conv (.u32) i.Rd)) fun r3=>
 .opt (F_bits_Put r3 (W.of .i64 21) (W.of .i64 18) (W.conv (.u32) i.Ra)) fun r4=>
 .opt (F_bits_Put r4 (W.of .i64 17) (W.of .i64 14) (W.conv (.u32) i.Rb)) fun r5=>
 .opt (F_inst_has i.Op (W.of .i64 8)) fun r6=>
 .ite r6 (.opt (F_inst_width i.Op) fun r7=>
 .opt (F_bits_Put r5 (W.sub r7 (W.of .i64 1)) (W.of .i64 0) (W.conv (.u32) i.Imm)) fun r8=>
 .ret (r8,(W.of .i64 0)))
 (.ret (r5,(W.of .i64 0))))
def F_inst_Enc (i:TInst):Option (W .u32×W .i64):=(T_inst_Enc i).eval
def T_crack_Serial (op:W .i64):Tree (Bool):=
 .ite (W.ge op (W.of .i64 51)) (.ret (W.le op (W.of .i64 62)))
 (.ret false)
def F_crack_Serial (op:W .i64):Option (Bool):=(T_crack_Serial op).eval
def T_crack_Unit (op:W .i64):Tree (W .i64):=
 .ite (W.lt op (W.of .i64 1)) (.ret (W.of .i64 0))
 (.ite (W.gt op (W.of .i64 63)) (.ret (W.of .i64 0))
 (.ite (W.ge op (W.of .i64 11)) (.ite (W.le op (W.of .i64 13)) (.ret (W.of .i64 2))
 (.ite (W.ge op (W.of .i64 14)) (.ite (W.le op (W.of .i64 17)) (.ret (W.of .i64 3))
 (.ite (W.ge op (W.of .i64 34)) (.ite (W.le op (W.of .i64 39)) (.ret (W.of .i64 5))
 (.ite (W.ge op (W.of .i64 40)) (.ite (W.le op (W.of .i64 42)) (.ret (W.of .i64 6))
 (.ite (W.ge op (W.of .i64 43)) (.ite (W.le op (W.of .i64 50)) (.ret (W.of .i64 4))
 (.opt (F_crack_Serial op) fun r1=>
 .ite r1 (.ret (W.of .i64 7))
 (.ret (W.of .i64 1))))
 (.opt (F_crack_Serial op) fun r2=>
 .ite r2 (.ret (W.of .i64 7))
 (.ret (W.of .i64 1)))))
 (.ite (W.ge op (W.of .i64 43)) (.ite (W.le op (W.of .i64 50)) (.ret (W.of .i64 4))
 (.opt (F_crack_Serial op) fun r3=>
 .ite r3 (.ret (W.of .i64 7))
 (.ret (W.of .i64 1))))
 (.opt (F_crack_Serial op) fun r4=>
 .ite r4 (.ret (W.of .i64 7))
 (.ret (W.of .i64 1))))))
 (.ite (W.ge op (W.of .i64 40)) (.ite (W.le op (W.of .i64 42)) (.ret (W.of .i64 6))
 (.ite (W.ge op (W.of .i64 43)) (.ite (W.le op (W.of .i64 50)) (.ret (W.of .i64 4))
 (.opt (F_crack_Serial op) fun r5=>
 .ite r5 (.ret (W.of .i64 7))
 (.ret (W.of .i64 1))))
 (.opt (F_crack_Serial op) fun r6=>
 .ite r6 (.ret (W.of .i64 7))
 (.ret (W.of .i64 1)))))
 (.ite (W.ge op (W.of .i64 43)) (.ite (W.le op (W.of .i64 50)) (.ret (W.of .i64 4))
 (.opt (F_crack_Serial op) fun r7=>
 .ite r7 (.ret (W.of .i64 7))
 (.ret (W.of .i64 1))))
 (.opt (F_crack_Serial op) fun r8=>
 .ite r8 (.ret (W.of .i64 7))
 (.ret (W.of .i64 1)))))))
 (.ite (W.ge op (W.of .i64 34)) (.ite (W.le op (W.of .i64 39)) (.ret (W.of .i64 5))
 (.ite (W.ge op (W.of .i64 40)) (.ite (W.le op (W.of .i64 42)) (.ret (W.of .i64 6))
 (.ite (W.ge op (W.of .i64 43)) (.ite (W.le op (W.of .i64 50)) (.ret (W.of .i64 4))
 (.opt (F_crack_Serial op) fun r9=>
 .ite r9 (.ret (W.of .i64 7))
 (.ret (W.of .i64 1))))
 (.opt (F_crack_Serial op) fun r10=>
 .ite r10 (.ret (W.of .i64 7))
 (.ret (W.of .i64 1)))))
 (.ite (W.ge op (W.of .i64 43)) (.ite (W.le op (W.of .i64 50)) (.ret (W.of .i64 4))
 (.opt (F_crack_Serial op) fun r11=>
 .ite r11 (.ret (W.of .i64 7))
 (.ret (W.of .i64 1))))
 (.opt (F_crack_Serial op) fun r12=>
 .ite r12 (.ret (W.of .i64 7))
 (.ret (W.of .i64 1))))))
 (.ite (W.ge op (W.of .i64 40)) (.ite (W.le op (W.of .i64 42)) (.ret (W.of .i64 6))
 (.ite (W.ge op (W.of .i64 43)) (.ite (W.le op (W.of .i64 50)) (.ret (W.of .i64 4))
 (.opt (F_crack_Serial op) fun r13=>
 .ite r13 (.ret (W.of .i64 7))
 (.ret (W.of .i64 1))))
 (.opt (F_crack_Serial op) fun r14=>
 .ite r14 (.ret (W.of .i64 7))
 (.ret (W.of .i64 1)))))
 (.ite (W.ge op (W.of .i64 43)) (.ite (W.le op (W.of .i64 50)) (.ret (W.of .i64 4))
 (.opt (F_crack_Serial op) fun r15=>
 .ite r15 (.ret (W.of .i64 7))
 (.ret (W.of .i64 1))))
 (.opt (F_crack_Serial op) fun r16=>
 .ite r16 (.ret (W.of .i64 7))
 (.ret (W.of .i64 1))))))))
 (.ite (W.ge op (W.of .i64 14)) (.ite (W.le op (W.of .i64 17)) (.ret (W.of .i64 3))
 (.ite (W.ge op (W.of .i64 34)) (.ite (W.le op (W.of .i64 39)) (.ret (W.of .i64 5))
 (.ite (W.ge op (W.of .i64 40)) (.ite (W.le op (W.of .i64 42)) (.ret (W.of .i64 6))
 (.ite (W.ge op (W.of .i64 43)) (.ite (W.le op (W.of .i64 50)) (.ret (W.of .i64 4))
 (.opt (F_crack_Serial op) fun r17=>
 .ite r17 (.ret (W.of .i64 7))
 (.ret (W.of .i64 1))))
 (.opt (F_crack_Serial op) fun r18=>
 .ite r18 (.ret (W.of .i64 7))
 (.ret (W.of .i64 1)))))
 (.ite (W.ge op (W.of .i64 43)) (.ite (W.le op (W.of .i64 50)) (.ret (W.of .i64 4))
 (.opt (F_crack_Serial op) fun r19=>
 .ite r19 (.ret (W.of .i64 7))
 (.ret (W.of .i64 1))))
 (.opt (F_crack_Serial op) fun r20=>
 .ite r20 (.ret (W.of .i64 7))
 (.ret (W.of .i64 1))))))
 (.ite (W.ge op (W.of .i64 40)) (.ite (W.le op (W.of .i64 42)) (.ret (W.of .i64 6))
 (.ite (W.ge op (W.of .i64 43)) (.ite (W.le op (W.of .i64 50)) (.ret (W.of .i64 4))
 (.opt (F_crack_Serial op) fun r21=>
 .ite r21 (.ret (W.of .i64 7))
 (.ret (W.of .i64 1))))
 (.opt (F_crack_Serial op) fun r22=>
 .ite r22 (.ret (W.of .i64 7))
 (.ret (W.of .i64 1)))))
 (.ite (W.ge op (W.of .i64 43)) (.ite (W.le op (W.of .i64 50)) (.ret (W.of .i64 4))
 (.opt (F_crack_Serial op) fun r23=>
 .ite r23 (.ret (W.of .i64 7))
 (.ret (W.of .i64 1))))
 (.opt (F_crack_Serial op) fun r24=>
 .ite r24 (.ret (W.of .i64 7))
 (.ret (W.of .i64 1)))))))
 (.ite (W.ge op (W.of .i64 34)) (.ite (W.le op (W.of .i64 39)) (.ret (W.of .i64 5))
 (.ite (W.ge op (W.of .i64 40)) (.ite (W.le op (W.of .i64 42)) (.ret (W.of .i64 6))
 (.ite (W.ge op (W.of .i64 43)) (.ite (W.le op (W.of .i64 50)) (.ret (W.of .i64 4))
 (.opt (F_crack_Serial op) fun r25=>
 .ite r25 (.ret (W.of .i64 7))
 (.ret (W.of .i64 1))))
 (.opt (F_crack_Serial op) fun r26=>
 .ite r26 (.ret (W.of .i64 7))
 (.ret (W.of .i64 1)))))
 (.ite (W.ge op (W.of .i64 43)) (.ite (W.le op (W.of .i64 50)) (.ret (W.of .i64 4))
 (.opt (F_crack_Serial op) fun r27=>
 .ite r27 (.ret (W.of .i64 7))
 (.ret (W.of .i64 1))))
 (.opt (F_crack_Serial op) fun r28=>
 .ite r28 (.ret (W.of .i64 7))
 (.ret (W.of .i64 1))))))
 (.ite (W.ge op (W.of .i64 40)) (.ite (W.le op (W.of .i64 42)) (.ret (W.of .i64 6))
 (.ite (W.ge op (W.of .i64 43)) (.ite (W.le op (W.of .i64 50)) (.ret (W.of .i64 4))
 (.opt (F_crack_Serial op) fun r29=>
 .ite r29 (.ret (W.of .i64 7))
 (.ret (W.of .i64 1))))
 (.opt (F_crack_Serial op) fun r30=>
 .ite r30 (.ret (W.of .i64 7))
 (.ret (W.of .i64 1)))))
 (.ite (W.ge op (W.of .i64 43)) (.ite (W.le op (W.of .i64 50)) (.ret (W.of .i64 4))
 (.opt (F_crack_Serial op) fun r31=>
 .ite r31 (.ret (W.of .i64 7))
 (.ret (W.of .i64 1))))
 (.opt (F_crack_Serial op) fun r32=>
 .ite r32 (.ret (W.of .i64 7))
 (.ret (W.of .i64 1)))))))))
def F_crack_Unit (op:W .i64):Option (W .i64):=(T_crack_Unit op).eval
def T_exec_behind (u:TUop):Tree (W .u32):=
 .ret (W.add u.Slot.PC (W.of .u32 4))
def F_exec_behind (u:TUop):Option (W .u32):=(T_exec_behind u).eval
def T_exec_between (op from_1 to_2:W .i64):Tree (Bool):=
 .ite (W.ge op from_1) (.ret (W.le op to_2))
 (.ret false)
def F_exec_between (op from_1 to_2:W .i64):Option (Bool):=(T_exec_between op from_1 to_2).eval
def T_mul_New (a b:W .u32):Tree (TMul):=
 .ret (TMul.mk a b (W.of .u32 0) (W.of .u32 0) (W.of .i64 32))
def F_mul_New (a b:W .u32):Option (TMul):=(T_mul_New a b).eval
def T_mul_Step (m:TMul):Tree (TMul):=
 .ite (W.lt m.Left (W.of .i64 1)) (.ret m)
 (.ite (W.eq (W.and m.B (W.of .u32 1)) (W.of .u32 1)) (.ret ({ m with Hi:=(W.conv (.u32) (W.shr (W.add (W.conv (.u64) m.Hi) (W.conv (.u64) m.A)) (W.of .u64 1))),Lo:=(W.conv (.u32) (W.shr (W.or (W.shl (W.add (W.conv (.u64) m.Hi) (W.conv (.u64) m.A)) (W.of .u64 32)) (W.conv (.u64) m.Lo)) (W.of .u64 1))),B:=(W.shr m.B (W.of .u64 1)),Left:=(W.sub m.Left (W.of .i64 1)) }:TMul))
 (.ret ({ m with Hi:=(W.conv (.u32) (W.shr (W.conv (.u64) m.Hi) (W.of .u64 1))),Lo:=(W.conv (.u32) (W.shr (W.or (W.shl (W.conv (.u64) m.Hi) (W.of .u64 32)) (W.conv (.u64) m.Lo)) (W.of .u64 1))),B:=(W.shr m.B (W.of .u64 1)),Left:=(W.sub m.Left (W.of .i64 1)) }:TMul)))
def F_mul_Step (m:TMul):Option (TMul):=(T_mul_Step m).eval
def B_mul_Run_7 (m:TMul) (t_10 t_11:W .i64):Tree (Rnd (TMul×W .i64×W .i64×Unit) (TMul×Unit)):=
 .ite (W.lt t_11 t_10) (.opt (F_mul_Step m) fun r1=>
 .ret (.next (r1,t_10,(W.add t_11 (W.of .i64 1)),())))
 (.ret (.out (m,())))
def L_mul_Run_7 (a:TMul×W .i64×W .i64×Unit):Option (TMul×Unit):=iter (fun a:TMul×W .i64×W .i64×Unit=>(B_mul_Run_7 a.1 a.2.1 a.2.2.1).eval) fuel a
def T_mul_Run (m:TMul):Tree (W .u32×W .u32):=
 .opt (L_mul_Run_7 ((({ m with Left:=(W.min (W.max m.Left (W.of .i64 0)) (W.of .i64 32)) }:TMul),(W.min (W.max m.Left (W.of .i64 0)) (W.of .i64 32)),(W.of .i64 0),()))) fun o2=>
 .ret (o2.1.Hi,o2.1.Lo)
def F_mul_Run (m:TMul):Option (W .u32×W .u32):=(T_mul_Run m).eval
def T_mul_less (a b:W .u32):Tree (W .u32):=
 .ite (W.eq (W.shr a (W.of .u64 31)) (W.of .u32 1)) (.ret b)
 (.ret (W.of .u32 0))
def F_mul_less (a b:W .u32):Option (W .u32):=(T_mul_less a b).eval
def T_mul_Do (op:W .i64) (a b:W .u32):Tree (W .u32×Bool):=
 .opt (F_mul_New a b) fun r1=>
 .opt (F_mul_Run r1) fun r2=>
 .ite (W.eq op (W.of .i64 11)) (.ret (r2.2,true))
 (.ite (W.eq op (W.of .i64 13)) (.ret (r2.1,true))
 (.ite (W.eq op (W.of .i64 12)) (.opt (F_mul_less a b) fun r3=>
 .opt (F_mul_less b a) fun r4=>
 .ret ((W.sub (W.sub r2.1 r3) r4),true))
 (.ret ((W.of .u32 0),false))))
def F_mul_Do (op:W .i64) (a b:W .u32):Option (W .u32×Bool):=(T_mul_Do op a b).eval
def T_div_New (n_0 d:W .u32):Tree (TDiv):=
 .ret (TDiv.mk n_0 d (W.of .u32 0) (W.of .u32 0) (W.of .i64 32))
def F_div_New (n_0 d:W .u32):Option (TDiv):=(T_div_New n_0 d).eval
def T_div_left (n_0:W .i64):Tree (W .i64):=
 .ret (W.min (W.max n_0 (W.of .i64 0)) (W.of .i64 32))
def F_div_left (n_0:W .i64):Option (W .i64):=(T_div_left n_0).eval
def T_div_Step (x:TDiv):Tree (TDiv):=
 .opt (F_div_left x.Left) fun r1=>
 .ite (W.eq r1 (W.of .i64 0)) (.ret ({ x with Left:=r1 }:TDiv))
 (.ite (W.ge (W.or (W.shl (W.conv (.u64) x.R) (W.of .u64 1)) (W.conv (.u64) (W.and (W.shr x.N (W.conv (.u64) (W.sub r1 (W.of .i64 1)))) (W.of .u32 1)))) (W.conv (.u64) x.D)) (.ret ({ x with Left:=(W.sub r1 (W.of .i64 1)),Q:=(W.or (W.shl x.Q (W.of .u64 1)) (W.of .u32 1)),R:=(W.conv (.u32) (W.sub (W.or (W.shl (W.conv (.u64) x.R) (W.of .u64 1)) (W.conv (.u64) (W.and (W.shr x.N (W.conv (.u64) (W.sub r1 (W.of .i64 1)))) (W.of .u32 1)))) (W.conv (.u64) x.D))) }:TDiv))
 (.ret ({ x with Left:=(W.sub r1 (W.of .i64 1)),Q:=(W.shl x.Q (W.of .u64 1)),R:=(W.conv (.u32) (W.or (W.shl (W.conv (.u64) x.R) (W.of .u64 1)) (W.conv (.u64) (W.and (W.shr x.N (W.conv (.u64) (W.sub r1 (W.of .i64 1)))) (W.of .u32 1))))) }:TDiv)))
def F_div_Step (x:TDiv):Option (TDiv):=(T_div_Step x).eval
def B_div_Run_5 (x:TDiv) (t_6 t_7:W .i64):Tree (Rnd (TDiv×W .i64×W .i64×Unit) (TDiv×Unit)):=
 .ite (W.lt t_7 t_6) (.opt (F_div_Step x) fun r2=>
 .ret (.next (r2,t_6,(W.add t_7 (W.of .i64 1)),())))
 (.ret (.out (x,())))
def L_div_Run_5 (a:TDiv×W .i64×W .i64×Unit):Option (TDiv×Unit):=iter (fun a:TDiv×W .i64×W .i64×Unit=>(B_div_Run_5 a.1 a.2.1 a.2.2.1).eval) fuel a
def T_div_Run (x:TDiv):Tree (W .u32×W .u32):=
 .opt (F_div_left x.Left) fun r1=>
 .opt (L_div_Run_5 ((x,r1,(W.of .i64 0),()))) fun o3=>
 .ret (o3.1.Q,o3.1.R)
def F_div_Run (x:TDiv):Option (W .u32×W .u32):=(T_div_Run x).eval
def T_div_away (x:W .u32):Tree (W .u32):=
 .ite (W.lt (W.conv (.i32) x) (W.of .i32 0)) (.ret (W.neg x))
 (.ret x)
def F_div_away (x:W .u32):Option (W .u32):=(T_div_away x).eval
def T_div_Do (op:W .i64) (a b:W .u32):Tree (W .u32×Bool):=
 .ite (W.eq op (W.of .i64 15)) (.opt (F_div_New a b) fun r1=>
 .opt (F_div_Run r1) fun r2=>
 .ret (r2.1,true))
 (.ite (W.eq op (W.of .i64 17)) (.opt (F_div_New a b) fun r3=>
 .opt (F_div_Run r3) fun r4=>
 .ret (r4.2,true))
 (.ite (W.eq op (W.of .i64 14)) (.opt (F_div_away a) fun r5=>
 .opt (F_div_away b) fun r6=>
 .opt (F_div_New r5 r6) fun r7=>
 .opt (F_div_Run r7) fun r8=>
 .ite (W.eq b (W.of .u32 0)) (.ite (W.eq op (W.of .i64 14)) (.ret ((W.of .u32 4294967295),true))
 (.ret (a,true)))
 (.ite (!(beqB (W.lt (W.conv (.i32) a) (W.of .i32 0)) (W.lt (W.conv (.i32) b) (W.of .i32 0)))) (.ite (W.lt (W.conv (.i32) a) (W.of .i32 0)) (.ite (W.eq op (W.of .i64 14)) (.ret ((W.neg r8.1),true))
 (.ret ((W.neg r8.2),true)))
 (.ite (W.eq op (W.of .i64 14)) (.ret ((W.neg r8.1),true))
 (.ret (r8.2,true))))
 (.ite (W.lt (W.conv (.i32) a) (W.of .i32 0)) (.ite (W.eq op (W.of .i64 14)) (.ret (r8.1,true))
 (.ret ((W.neg r8.2),true)))
 (.ite (W.eq op (W.of .i64 14)) (.ret (r8.1,true))
 (.ret (r8.2,true))))))
 (.ite (W.eq op (W.of .i64 16)) (.opt (F_div_away a) fun r9=>
 .opt (F_div_away b) fun r10=>
 .opt (F_div_New r9 r10) fun r11=>
 .opt (F_div_Run r11) fun r12=>
 .ite (W.eq b (W.of .u32 0)) (.ite (W.eq op (W.of .i64 14)) (.ret ((W.of .u32 4294967295),true))
 (.ret (a,true)))
 (.ite (!(beqB (W.lt (W.conv (.i32) a) (W.of .i32 0)) (W.lt (W.conv (.i32) b) (W.of .i32 0)))) (.ite (W.lt (W.conv (.i32) a) (W.of .i32 0)) (.ite (W.eq op (W.of .i64 14)) (.ret ((W.neg r12.1),true))
 (.ret ((W.neg r12.2),true)))
 (.ite (W.eq op (W.of .i64 14)) (.ret ((W.neg r12.1),true))
 (.ret (r12.2,true))))
 (.ite (W.lt (W.conv (.i32) a) (W.of .i32 0)) (.ite (W.eq op (W.of .i64 14)) (.ret (r12.1,true))
 (.ret ((W.neg r12.2),true)))
 (.ite (W.eq op (W.of .i64 14)) (.ret (r12.1,true))
 (.ret (r12.2,true))))))
 (.ret ((W.of .u32 0),false)))))
def F_div_Do (op:W .i64) (a b:W .u32):Option (W .u32×Bool):=(T_div_Do op a b).eval
def T_alu_one (is:Bool):Tree (W .u32):=
 .ite is (.ret (W.of .u32 1))
 (.ret (W.of .u32 0))
def F_alu_one (is:Bool):Option (W .u32):=(T_alu_one is).eval
def B_alu_Clz_5 (x:W .u32) (n_3:W .i64):Tree (Rnd (W .u32×W .i64×Unit) (W .i64×Unit)):=
 .ite (W.ne x (W.of .u32 0)) (.ret (.next ((W.shr x (W.of .u64 1)),(W.sub n_3 (W.of .i64 1)),())))
 (.ret (.out (n_3,())))
def L_alu_Clz_5 (a:W .u32×W .i64×Unit):Option (W .i64×Unit):=iter (fun a:W .u32×W .i64×Unit=>(B_alu_Clz_5 a.1 a.2.1).eval) fuel a
def T_alu_Clz (x:W .u32):Tree (W .i64):=
 .opt (L_alu_Clz_5 ((x,(W.of .i64 32),()))) fun o1=>
 .ret o1.1
def F_alu_Clz (x:W .u32):Option (W .i64):=(T_alu_Clz x).eval
def B_alu_Pop_5 (x:W .u32) (n_3:W .i64):Tree (Rnd (W .u32×W .i64×Unit) (W .i64×Unit)):=
 .ite (W.ne x (W.of .u32 0)) (.ret (.next ((W.and x (W.sub x (W.of .u32 1))),(W.add n_3 (W.of .i64 1)),())))
 (.ret (.out (n_3,())))
def L_alu_Pop_5 (a:W .u32×W .i64×Unit):Option (W .i64×Unit):=iter (fun a:W .u32×W .i64×Unit=>(B_alu_Pop_5 a.1 a.2.1).eval) fuel a
def T_alu_Pop (x:W .u32):Tree (W .i64):=
 .opt (L_alu_Pop_5 ((x,(W.of .i64 0),()))) fun o1=>
 .ret o1.1
def F_alu_Pop (x:W .u32):Option (W .i64):=(T_alu_Pop x).eval
def T_alu_Rev (x:W .u32):Tree (W .u32):=
 .ret (W.or (W.or (W.or (W.shl x (W.of .u64 24)) (W.and (W.shl x (W.of .u64 8)) (W.of .u32 16711680))) (W.and (W.shr x (W.of .u64 8)) (W.of .u32 65280))) (W.shr x (W.of .u64 24)))
def F_alu_Rev (x:W .u32):Option (W .u32):=(T_alu_Rev x).eval
def T_alu_single (op:W .i64) (a:W .u32):Tree (W .u32×Bool):=
 .ite (W.eq op (W.of .i64 21)) (.opt (F_alu_Clz a) fun r1=>
 .ret ((W.conv (.u32) r1),true))
 (.ite (W.eq op (W.of .i64 22)) (.opt (F_alu_Pop a) fun r2=>
 .ret ((W.conv (.u32) r2),true))
 (.ite (W.eq op (W.of .i64 23)) (.opt (F_alu_Rev a) fun r3=>
 .ret (r3,true))
 (.ret ((W.of .u32 0),false))))
def F_alu_single (op:W .i64) (a:W .u32):Option (W .u32×Bool):=(T_alu_single op a).eval
def T_alu_low (b:W .u32):Tree (W .u32):=
 .ret (W.and b (W.of .u32 31))
def F_alu_low (b:W .u32):Option (W .u32):=(T_alu_low b).eval
def T_bits_RotateLeft32 (x:W .u32) (k:W .i64):Tree (W .u32):=
 .ret (W.or (W.shl x (W.and (W.conv (.u64) k) (W.of .u64 31))) (W.shr x (W.sub (W.of .u64 32) (W.and (W.conv (.u64) k) (W.of .u64 31)))))
def F_bits_RotateLeft32 (x:W .u32) (k:W .i64):Option (W .u32):=(T_bits_RotateLeft32 x k).eval
def T_bits_Rot (x:W .u32) (n_1:W .i64):Tree (W .u32):=
 .opt (F_bits_RotateLeft32 x (W.neg (W.rem n_1 (W.of .i64 32)))) fun r1=>
 .ret r1
def F_bits_Rot (x:W .u32) (n_1:W .i64):Option (W .u32):=(T_bits_Rot x n_1).eval
def T_alu_logic (op:W .i64) (a b:W .u32):Tree (W .u32×Bool):=
 .ite (W.eq op (W.of .i64 3)) (.ret ((W.and a b),true))
 (.ite (W.eq op (W.of .i64 26)) (.ret ((W.and a b),true))
 (.ite (W.eq op (W.of .i64 4)) (.ret ((W.or a b),true))
 (.ite (W.eq op (W.of .i64 27)) (.ret ((W.or a b),true))
 (.ite (W.eq op (W.of .i64 5)) (.ret ((W.xor a b),true))
 (.ite (W.eq op (W.of .i64 28)) (.ret ((W.xor a b),true))
 (.ite (W.eq op (W.of .i64 6)) (.opt (F_alu_low b) fun r1=>
 .ret ((W.shl a r1),true))
 (.ite (W.eq op (W.of .i64 30)) (.opt (F_alu_low b) fun r2=>
 .ret ((W.shl a r2),true))
 (.ite (W.eq op (W.of .i64 7)) (.opt (F_alu_low b) fun r3=>
 .ret ((W.shr a r3),true))
 (.ite (W.eq op (W.of .i64 31)) (.opt (F_alu_low b) fun r4=>
 .ret ((W.shr a r4),true))
 (.ite (W.eq op (W.of .i64 8)) (.opt (F_alu_low b) fun r5=>
 .ret ((W.conv (.u32) (W.shr (W.conv (.i32) a) r5)),true))
 (.ite (W.eq op (W.of .i64 32)) (.opt (F_alu_low b) fun r6=>
 .ret ((W.conv (.u32) (W.shr (W.conv (.i32) a) r6)),true))
 (.ite (W.eq op (W.of .i64 20)) (.opt (F_alu_low b) fun r7=>
 .opt (F_bits_Rot a (W.conv (.i64) r7)) fun r8=>
 .ret (r8,true))
 (.ret ((W.of .u32 0),false))))))))))))))
def F_alu_logic (op:W .i64) (a b:W .u32):Option (W .u32×Bool):=(T_alu_logic op a b).eval
def T_alu_Do (op:W .i64) (a b:W .u32):Tree (W .u32×Bool):=
 .ite (W.eq op (W.of .i64 1)) (.ret ((W.add a b),true))
 (.ite (W.eq op (W.of .i64 25)) (.ret ((W.add a b),true))
 (.ite (W.eq op (W.of .i64 2)) (.ret ((W.sub a b),true))
 (.ite (W.eq op (W.of .i64 9)) (.opt (F_alu_one (W.lt (W.conv (.i32) a) (W.conv (.i32) b))) fun r1=>
 .ret (r1,true))
 (.ite (W.eq op (W.of .i64 29)) (.opt (F_alu_one (W.lt (W.conv (.i32) a) (W.conv (.i32) b))) fun r2=>
 .ret (r2,true))
 (.ite (W.eq op (W.of .i64 10)) (.opt (F_alu_one (W.lt a b)) fun r3=>
 .ret (r3,true))
 (.ite (W.eq op (W.of .i64 18)) (.ret ((W.conv (.u32) (W.min (W.conv (.i32) a) (W.conv (.i32) b))),true))
 (.ite (W.eq op (W.of .i64 19)) (.ret ((W.conv (.u32) (W.max (W.conv (.i32) a) (W.conv (.i32) b))),true))
 (.ite (W.eq op (W.of .i64 33)) (.ret ((W.shl b (W.of .u64 14)),true))
 (.ite (W.eq op (W.of .i64 21)) (.opt (F_alu_single op a) fun r4=>
 .ret (r4.1,r4.2))
 (.ite (W.eq op (W.of .i64 22)) (.opt (F_alu_single op a) fun r5=>
 .ret (r5.1,r5.2))
 (.ite (W.eq op (W.of .i64 23)) (.opt (F_alu_single op a) fun r6=>
 .ret (r6.1,r6.2))
 (.opt (F_alu_logic op a b) fun r7=>
 .ret (r7.1,r7.2)))))))))))))
def F_alu_Do (op:W .i64) (a b:W .u32):Option (W .u32×Bool):=(T_alu_Do op a b).eval
def T_exec_two (op:W .i64) (a b:W .u32):Tree (W .u32):=
 .opt (F_mul_Do op a b) fun r1=>
 .ite r1.2 (.ret r1.1)
 (.opt (F_div_Do op a b) fun r2=>
 .ite r2.2 (.ret r2.1)
 (.opt (F_alu_Do op a b) fun r3=>
 .ret r3.1))
def F_exec_two (op:W .i64) (a b:W .u32):Option (W .u32):=(T_exec_two op a b).eval
def T_alu_Cmov (old a b:W .u32):Tree (W .u32):=
 .ite (W.ne b (W.of .u32 0)) (.ret a)
 (.ret old)
def F_alu_Cmov (old a b:W .u32):Option (W .u32):=(T_alu_Cmov old a b).eval
def T_alu_Taken (op:W .i64) (a b:W .u32):Tree (Bool):=
 .ite (W.eq op (W.of .i64 43)) (.ret (W.eq a b))
 (.ite (W.eq op (W.of .i64 44)) (.ret (W.ne a b))
 (.ite (W.eq op (W.of .i64 45)) (.ret (W.lt (W.conv (.i32) a) (W.conv (.i32) b)))
 (.ite (W.eq op (W.of .i64 46)) (.ret (W.ge (W.conv (.i32) a) (W.conv (.i32) b)))
 (.ite (W.eq op (W.of .i64 47)) (.ret (W.lt a b))
 (.ite (W.eq op (W.of .i64 48)) (.ret (W.ge a b))
 (.ret false))))))
def F_alu_Taken (op:W .i64) (a b:W .u32):Option (Bool):=(T_alu_Taken op a b).eval
def T_exec_ahead (u:TUop):Tree (W .u32):=
 .ret (W.add u.Slot.PC (W.mul (W.of .u32 4) (W.conv (.u32) u.Inst.Imm)))
def F_exec_ahead (u:TUop):Option (W .u32):=(T_exec_ahead u).eval
def T_exec_Do (u:TUop) (in_1:Arr 3 (W .u32)):Tree (W .u32×W .u32×W .i64×W .u32):=
 .opt (F_exec_behind u) fun r1=>
 .ite (W.ne u.Cause (W.of .i64 0)) (.ret ((W.of .u32 0),r1,u.Cause,u.Tval))
 (.opt (F_exec_between u.Inst.Op (W.of .i64 1) (W.of .i64 23)) fun r2=>
 .ite r2 (.opt (F_exec_two u.Inst.Op (Arr.get in_1 0) (Arr.get in_1 1)) fun r3=>
 .ret (r3,r1,(W.of .i64 0),(W.of .u32 0)))
 (.ite (W.eq u.Inst.Op (W.of .i64 24)) (.opt (F_alu_Cmov (Arr.get in_1 2) (Arr.get in_1 0) (Arr.get in_1 1)) fun r4=>
 .ret (r4,r1,(W.of .i64 0),(W.of .u32 0)))
 (.opt (F_exec_between u.Inst.Op (W.of .i64 25) (W.of .i64 33)) fun r5=>
 .ite r5 (.opt (F_exec_two u.Inst.Op (Arr.get in_1 0) (W.conv (.u32) u.Inst.Imm)) fun r6=>
 .ret (r6,r1,(W.of .i64 0),(W.of .u32 0)))
 (.opt (F_exec_between u.Inst.Op (W.of .i64 43) (W.of .i64 48)) fun r7=>
 .ite r7 (.opt (F_alu_Taken u.Inst.Op (Arr.get in_1 0) (Arr.get in_1 1)) fun r8=>
 .ite r8 (.opt (F_exec_ahead u) fun r9=>
 .ret ((W.of .u32 0),r9,(W.of .i64 0),(W.of .u32 0)))
 (.ret ((W.of .u32 0),r1,(W.of .i64 0),(W.of .u32 0))))
 (.ite (W.eq u.Inst.Op (W.of .i64 49)) (.opt (F_exec_ahead u) fun r10=>
 .ret (r1,r10,(W.of .i64 0),(W.of .u32 0)))
 (.ite (W.eq u.Inst.Op (W.of .i64 50)) (.ret (r1,(W.andNot (W.add (Arr.get in_1 0) (W.conv (.u32) u.Inst.Imm)) (W.of .u32 3)),(W.of .i64 0),(W.of .u32 0)))
 (.ret ((W.of .u32 0),r1,(W.of .i64 0),(W.of .u32 0)))))))))
def F_exec_Do (u:TUop) (in_1:Arr 3 (W .u32)):Option (W .u32×W .u32×W .i64×W .u32):=(T_exec_Do u in_1).eval
def T_bits_Sext (x:W .u32) (n_1:W .i64):Tree (W .u32):=
 .opt (F_bits_clamp n_1 (W.of .i64 0) (W.of .i64 32)) fun r1=>
 .opt (W.shl? x (W.sub (W.of .i64 32) r1)) fun z2=>
 .opt (W.shr? (W.conv (.i32) z2) (W.sub (W.of .i64 32) r1)) fun z3=>
 .ret (W.conv (.u32) z3)
def F_bits_Sext (x:W .u32) (n_1:W .i64):Option (W .u32):=(T_bits_Sext x n_1).eval
def T_bits_Zext (x:W .u32) (n_1:W .i64):Tree (W .u32):=
 .opt (F_bits_clamp n_1 (W.of .i64 0) (W.of .i64 32)) fun r1=>
 .opt (F_bits_ones r1) fun r2=>
 .ret (W.and x r2)
def F_bits_Zext (x:W .u32) (n_1:W .i64):Option (W .u32):=(T_bits_Zext x n_1).eval
def T_exec_Ext (op:W .i64) (raw:W .u32):Tree (W .u32):=
 .ite (W.eq op (W.of .i64 34)) (.opt (F_bits_Sext raw (W.of .i64 8)) fun r1=>
 .ret r1)
 (.ite (W.eq op (W.of .i64 36)) (.opt (F_bits_Sext raw (W.of .i64 16)) fun r2=>
 .ret r2)
 (.ite (W.eq op (W.of .i64 35)) (.opt (F_bits_Zext raw (W.of .i64 8)) fun r3=>
 .ret r3)
 (.ite (W.eq op (W.of .i64 37)) (.opt (F_bits_Zext raw (W.of .i64 16)) fun r4=>
 .ret r4)
 (.ret raw))))
def F_exec_Ext (op:W .i64) (raw:W .u32):Option (W .u32):=(T_exec_Ext op raw).eval
def T_exec_Wrong (u:TUop) (next_1:W .u32):Tree (Bool):=
 .ite u.Slot.Guess.Taken (.ret (W.ne next_1 u.Slot.Guess.Target))
 (.opt (F_exec_behind u) fun r1=>
 .ret (W.ne next_1 r1))
def F_exec_Wrong (u:TUop) (next_1:W .u32):Option (Bool):=(T_exec_Wrong u next_1).eval
def T_law32_awake :Tree (Bool):=
 .opt (F_exec_Do (TUop.mk (TInst.mk (W.of .i64 25) (W.of .i64 0) (W.of .i64 0) (W.of .i64 0) (W.of .i64 (-1))) (TSlot.mk (W.of .u32 8) (W.of .u32 0) (W.of .i64 0) (W.of .u32 0) (TGuess.mk false (W.of .u32 0) (TSave.mk (W.of .u32 0) (W.of .i64 0) (W.of .u32 0)))) (W.of .i64 0) (W.of .i64 0) false (Arr.rep 3 (W.of .i64 0):Arr 3 (W .i64)) (W.of .i64 0) (W.of .i64 0) (W.of .u32 0)) (Arr.lit 3 [(W.of .u32 5),(W.of .u32 0),(W.of .u32 0)] rfl:Arr 3 (W .u32))) fun r1=>
 .ite (W.eq r1.1 (W.of .u32 4)) (.ite (W.eq r1.2.1 (W.of .u32 12)) (.ite (W.eq r1.2.2.1 (W.of .i64 0)) (.opt (F_exec_Ext (W.of .i64 34) (W.of .u32 128)) fun r2=>
 .ite (W.eq r2 (W.of .u32 4294967168)) (.opt (F_exec_Wrong (TUop.mk (TInst.mk (W.of .i64 25) (W.of .i64 0) (W.of .i64 0) (W.of .i64 0) (W.of .i64 (-1))) (TSlot.mk (W.of .u32 8) (W.of .u32 0) (W.of .i64 0) (W.of .u32 0) (TGuess.mk false (W.of .u32 0) (TSave.mk (W.of .u32 0) (W.of .i64 0) (W.of .u32 0)))) (W.of .i64 0) (W.of .i64 0) false (Arr.rep 3 (W.of .i64 0):Arr 3 (W .i64)) (W.of .i64 0) (W.of .i64 0) (W.of .u32 0)) (W.of .u32 16)) fun r3=>
 .ite r3 (.opt (F_exec_Wrong (TUop.mk (TInst.mk (W.of .i64 25) (W.of .i64 0) (W.of .i64 0) (W.of .i64 0) (W.of .i64 (-1))) (TSlot.mk (W.of .u32 8) (W.of .u32 0) (W.of .i64 0) (W.of .u32 0) (TGuess.mk false (W.of .u32 0) (TSave.mk (W.of .u32 0) (W.of .i64 0) (W.of .u32 0)))) (W.of .i64 0) (W.of .i64 0) false (Arr.rep 3 (W.of .i64 0):Arr 3 (W .i64)) (W.of .i64 0) (W.of .i64 0) (W.of .u32 0)) (W.of .u32 12)) fun r4=>
 .ret (!r4))
 (.ret false))
 (.ret false))
 (.ret false))
 (.ret false))
 (.ret false)
def F_law32_awake :Option (Bool):=(T_law32_awake).eval
def T_law32_word (w:W .u32):Tree (Sl 1 (W .u8)):=
 .ret (Sl.lit 1 [(W.conv (.u8) w),(W.conv (.u8) (W.shr w (W.of .u64 8))),(W.conv (.u8) (W.shr w (W.of .u64 16))),(W.conv (.u8) (W.shr w (W.of .u64 24)))] rfl:Sl 1 (W .u8))
def F_law32_word (w:W .u32):Option (Sl 1 (W .u8)):=(T_law32_word w).eval
def T_rom_end (s:TSeg):Tree (W .i64):=
 .ret (W.add (W.conv (.i64) s.At) (Sl.len s.Data))
def F_rom_end (s:TSeg):Option (W .i64):=(T_rom_end s).eval
def B_rom_Right_13 (last:W .i64) (t_11:Sl 32 (TSeg)) (t_12 t_13:W .i64):Tree (Rnd (W .i64×Sl 32 (TSeg)×W .i64×W .i64×Unit) ((W .i64×Unit)⊕(Unit×Unit))):=
 .ite (W.lt t_13 t_12) (.opt (Sl.get? t_11 t_13) fun y1=>
 .ite (W.eq (Sl.len y1.Data) (W.of .i64 0)) (.ret (.out (.inl ((W.of .i64 1),()))))
 (.opt (F_rom_end y1) fun r2=>
 .ite (W.gt r2 (W.of .i64 16384)) (.ret (.out (.inl ((W.of .i64 3),()))))
 (.ite (W.lt (W.conv (.i64) y1.At) last) (.ret (.out (.inl ((W.of .i64 7),()))))
 (.opt (F_rom_end y1) fun r3=>
 .ret (.next (r3,t_11,t_12,(W.add t_13 (W.of .i64 1)),()))))))
 (.ret (.out (.inr ((),()))))
def L_rom_Right_13 (a:W .i64×Sl 32 (TSeg)×W .i64×W .i64×Unit):Option ((W .i64×Unit)⊕(Unit×Unit)):=iter (fun a:W .i64×Sl 32 (TSeg)×W .i64×W .i64×Unit=>(B_rom_Right_13 a.1 a.2.1 a.2.2.1 a.2.2.2.1).eval) fuel a
def T_rom_Right (im:TImage):Tree (W .i64):=
 .ite (W.gt (Sl.len im.Segs) (W.of .i64 64)) (.ret (W.of .i64 4))
 (.opt (L_rom_Right_13 (((W.of .i64 0),im.Segs,(Sl.len im.Segs),(W.of .i64 0),()))) fun o4=>
 .sum o4 (fun p5=>
 .ret p5.1)
 (fun o6=>
 .ret (W.of .i64 0)))
def F_rom_Right (im:TImage):Option (W .i64):=(T_rom_Right im).eval
def B_rom_Load_21 (size:W .i64) (m:Sl 1 (W .u8)) (t_29:Sl 32 (TSeg)) (t_30 t_31:W .i64):Tree (Rnd (W .i64×Sl 1 (W .u8)×Sl 32 (TSeg)×W .i64×W .i64×Unit) ((Sl 1 (W .u8)×W .i64×Sl 1 (W .u8)×Unit)⊕(Unit×Unit×Sl 1 (W .u8)×Unit))):=
 .ite (W.lt t_31 t_30) (.opt (Sl.get? t_29 t_31) fun y3=>
 .opt (F_rom_end y3) fun r4=>
 .ite (W.gt r4 size) (.ret (.out (.inl ((Sl.nil:Sl 1 (W .u8)),(W.of .i64 3),m,()))))
 (.opt (nat? y3.At) fun n5=>
 .opt (vw? (List.length m.l) (some n5) (none)) fun j6=>
 .ret (.next (size,(Sl.copy m n5 y3.Data),t_29,t_30,(W.add t_31 (W.of .i64 1)),()))))
 (.ret (.out (.inr ((),(),m,()))))
def L_rom_Load_21 (a:W .i64×Sl 1 (W .u8)×Sl 32 (TSeg)×W .i64×W .i64×Unit):Option ((Sl 1 (W .u8)×W .i64×Sl 1 (W .u8)×Unit)⊕(Unit×Unit×Sl 1 (W .u8)×Unit)):=iter (fun a:W .i64×Sl 1 (W .u8)×Sl 32 (TSeg)×W .i64×W .i64×Unit=>(B_rom_Load_21 a.1 a.2.1 a.2.2.1 a.2.2.2.1 a.2.2.2.2.1).eval) fuel a
def T_rom_Load (size:W .i64) (im:TImage):Tree (Sl 1 (W .u8)×W .i64):=
 .ite (W.ne (W.rem size (W.of .i64 64)) (W.of .i64 0)) (.ret ((Sl.nil:Sl 1 (W .u8)),(W.of .i64 1)))
 (.ite (W.lt size (W.of .i64 64)) (.ret ((Sl.nil:Sl 1 (W .u8)),(W.of .i64 1)))
 (.ite (W.gt size (W.of .i64 16384)) (.ret ((Sl.nil:Sl 1 (W .u8)),(W.of .i64 1)))
 (.opt (F_rom_Right im) fun r1=>
 .ite (W.ne r1 (W.of .i64 0)) (.ret ((Sl.nil:Sl 1 (W .u8)),r1))
 (.opt (Sl.make? 1 (W.of .u8 0) size size) fun l2=>
 .opt (L_rom_Load_21 ((size,l2,im.Segs,(Sl.len im.Segs),(W.of .i64 0),()))) fun o7=>
 .sum o7 (fun p8=>
 .ret (p8.1,p8.2.1))
 (fun o9=>
 .ret (o9.2.2.1,(W.of .i64 0)))))))
def F_rom_Load (size:W .i64) (im:TImage):Option (Sl 1 (W .u8)×W .i64):=(T_rom_Load size im).eval
def T_step_New (im:TImage) (size:W .i64):Tree (TMach×W .i64):=
 .opt (F_rom_Load size im) fun r1=>
 .ite (W.ne r1.2 (W.of .i64 0)) (.ret ((TMach.mk (TArch.mk (W.of .u32 0) (Arr.rep 16 (W.of .u32 0):Arr 16 (W .u32)) (Arr.rep 12 (W.of .u32 0):Arr 12 (W .u32)) false) (Sl.nil:Sl 1 (W .u8)) (Sl.nil:Sl 1 (W .u8)) (Sl.nil:Sl 4 (W .u32))),r1.2))
 (.ret ((TMach.mk (TArch.mk im.Start (Arr.rep 16 (W.of .u32 0):Arr 16 (W .u32)) (Arr.set (Arr.rep 12 (W.of .u32 0):Arr 12 (W .u32)) 0 (W.of .u32 1)) false) r1.1 r1.1 (Sl.nil:Sl 4 (W .u32))),(W.of .i64 0)))
def F_step_New (im:TImage) (size:W .i64):Option (TMach×W .i64):=(T_step_New im size).eval
def T_crack_none :Tree (Arr 3 (W .i64)):=
 .ret (Arr.lit 3 [(W.of .i64 (-1)),(W.of .i64 (-1)),(W.of .i64 (-1))] rfl:Arr 3 (W .i64))
def F_crack_none :Option (Arr 3 (W .i64)):=(T_crack_none).eval
def T_crack_trap (s:TSlot) (cause:W .i64) (val:W .u32):Tree (Sl 168 (TUop)):=
 .opt (F_crack_none) fun r1=>
 .ret (Sl.lit 168 [(TUop.mk (TInst.mk (W.of .i64 0) (W.of .i64 0) (W.of .i64 0) (W.of .i64 0) (W.of .i64 0)) s (W.of .i64 7) (W.of .i64 0) true r1 (W.of .i64 (-1)) cause val)] rfl:Sl 168 (TUop))
def F_crack_trap (s:TSlot) (cause:W .i64) (val:W .u32):Option (Sl 168 (TUop)):=(T_crack_trap s cause val).eval
def T_bits_Field (x:W .u32) (hi lo:W .i64):Tree (W .u32):=
 .opt (F_bits_mask hi lo) fun r1=>
 .opt (W.shr? (W.and x r1.1) r1.2) fun z2=>
 .ret z2
def F_bits_Field (x:W .u32) (hi lo:W .i64):Option (W .u32):=(T_bits_Field x hi lo).eval
def T_inst_number (op:W .i64) (w:W .u32):Tree (W .i64):=
 .ite (W.eq op (W.of .i64 33)) (.opt (F_bits_Zext w (W.of .i64 18)) fun r1=>
 .ret (W.conv (.i64) r1))
 (.opt (F_inst_width op) fun r2=>
 .opt (F_bits_Sext w r2) fun r3=>
 .ret (W.conv (.i64) (W.conv (.i32) r3)))
def F_inst_number (op:W .i64) (w:W .u32):Option (W .i64):=(T_inst_number op w).eval
def T_inst_Dec (w:W .u32):Tree (TInst×W .i64):=
 .opt (F_bits_Field w (W.of .i64 31) (W.of .i64 26)) fun r1=>
 .ite (W.eq (W.conv (.i64) r1) (W.of .i64 0)) (.ret ((TInst.mk (W.of .i64 0) (W.of .i64 0) (W.of .i64 0) (W.of .i64 0) (W.of .i64 0)),(W.of .i64 9)))
 (.opt (F_inst_has (W.conv (.i64) r1) (W.of .i64 1)) fun r2=>
 .ite r2 (.opt (F_bits_Field w (W.of .i64 25) (W.of .i64 22)) fun r3=>
 .opt (F_inst_has (W.conv (.i64) r1) (W.of .i64 2)) fun r4=>
 .ite r4 (.opt (F_bits_Field w (W.of .i64 21) (W.of .i64 18)) fun r5=>
 .opt (F_inst_has (W.conv (.i64) r1) (W.of .i64 4)) fun r6=>
 .ite r6 (.opt (F_bits_Field w (W.of .i64 17) (W.of .i64 14)) fun r7=>
 .opt (F_inst_has (W.conv (.i64) r1) (W.of .i64 8)) fun r8=>
 .ite r8 (.opt (F_inst_number (W.conv (.i64) r1) w) fun r9=>
 .opt (F_inst_Enc (TInst.mk (W.conv (.i64) r1) (W.conv (.i64) r3) (W.conv (.i64) r5) (W.conv (.i64) r7) r9)) fun r10=>
 .ite (W.ne r10.2 (W.of .i64 0)) (.ret ((TInst.mk (W.of .i64 0) (W.of .i64 0) (W.of .i64 0) (W.of .i64 0) (W.of .i64 0)),(W.of .i64 2)))
 (.ite (W.ne r10.1 w) (.ret ((TInst.mk (W.of .i64 0) (W.of .i64 0) (W.of .i64 0) (W.of .i64 0) (W.of .i64 0)),(W.of .i64 2)))
 (.ret ((TInst.mk (W.conv (.i64) r1) (W.conv (.i64) r3) (W.conv (.i64) r5) (W.conv (.i64) r7) r9),(W.of .i64 0)))))
 (.opt (F_inst_Enc (TInst.mk (W.conv (.i64) r1) (W.conv (.i64) r3) (W.conv (.i64) r5) (W.conv (.i64) r7) (W.of .i64 0))) fun r11=>
 .ite (W.ne r11.2 (W.of .i64 0)) (.ret ((TInst.mk (W.of .i64 0) (W.of .i64 0) (W.of .i64 0) (W.of .i64 0) (W.of .i64 0)),(W.of .i64 2)))
 (.ite (W.ne r11.1 w) (.ret ((TInst.mk (W.of .i64 0) (W.of .i64 0) (W.of .i64 0) (W.of .i64 0) (W.of .i64 0)),(W.of .i64 2)))
 (.ret ((TInst.mk (W.conv (.i64) r1) (W.conv (.i64) r3) (W.conv (.i64) r5) (W.conv (.i64) r7) (W.of .i64 0)),(W.of .i64 0))))))
 (.opt (F_inst_has (W.conv (.i64) r1) (W.of .i64 8)) fun r12=>
 .ite r12 (.opt (F_inst_number (W.conv (.i64) r1) w) fun r13=>
 .opt (F_inst_Enc (TInst.mk (W.conv (.i64) r1) (W.conv (.i64) r3) (W.conv (.i64) r5) (W.of .i64 0) r13)) fun r14=>
 .ite (W.ne r14.2 (W.of .i64 0)) (.ret ((TInst.mk (W.of .i64 0) (W.of .i64 0) (W.of .i64 0) (W.of .i64 0) (W.of .i64 0)),(W.of .i64 2)))
 (.ite (W.ne r14.1 w) (.ret ((TInst.mk (W.of .i64 0) (W.of .i64 0) (W.of .i64 0) (W.of .i64 0) (W.of .i64 0)),(W.of .i64 2)))
 (.ret ((TInst.mk (W.conv (.i64) r1) (W.conv (.i64) r3) (W.conv (.i64) r5) (W.of .i64 0) r13),(W.of .i64 0)))))
 (.opt (F_inst_Enc (TInst.mk (W.conv (.i64) r1) (W.conv (.i64) r3) (W.conv (.i64) r5) (W.of .i64 0) (W.of .i64 0))) fun r15=>
 .ite (W.ne r15.2 (W.of .i64 0)) (.ret ((TInst.mk (W.of .i64 0) (W.of .i64 0) (W.of .i64 0) (W.of .i64 0) (W.of .i64 0)),(W.of .i64 2)))
 (.ite (W.ne r15.1 w) (.ret ((TInst.mk (W.of .i64 0) (W.of .i64 0) (W.of .i64 0) (W.of .i64 0) (W.of .i64 0)),(W.of .i64 2)))
 (.ret ((TInst.mk (W.conv (.i64) r1) (W.conv (.i64) r3) (W.conv (.i64) r5) (W.of .i64 0) (W.of .i64 0)),(W.of .i64 0)))))))
 (.opt (F_inst_has (W.conv (.i64) r1) (W.of .i64 4)) fun r16=>
 .ite r16 (.opt (F_bits_Field w (W.of .i64 17) (W.of .i64 14)) fun r17=>
 .opt (F_inst_has (W.conv (.i64) r1) (W.of .i64 8)) fun r18=>
 .ite r18 (.opt (F_inst_number (W.conv (.i64) r1) w) fun r19=>
 .opt (F_inst_Enc (TInst.mk (W.conv (.i64) r1) (W.conv (.i64) r3) (W.of .i64 0) (W.conv (.i64) r17) r19)) fun r20=>
 .ite (W.ne r20.2 (W.of .i64 0)) (.ret ((TInst.mk (W.of .i64 0) (W.of .i64 0) (W.of .i64 0) (W.of .i64 0) (W.of .i64 0)),(W.of .i64 2)))
 (.ite (W.ne r20.1 w) (.ret ((TInst.mk (W.of .i64 0) (W.of .i64 0) (W.of .i64 0) (W.of .i64 0) (W.of .i64 0)),(W.of .i64 2)))
 (.ret ((TInst.mk (W.conv (.i64) r1) (W.conv (.i64) r3) (W.of .i64 0) (W.conv (.i64) r17) r19),(W.of .i64 0)))))
 (.opt (F_inst_Enc (TInst.mk (W.conv (.i64) r1) (W.conv (.i64) r3) (W.of .i64 0) (W.conv (.i64) r17) (W.of .i64 0))) fun r21=>
 .ite (W.ne r21.2 (W.of .i64 0)) (.ret ((TInst.mk (W.of .i64 0) (W.of .i64 0) (W.of .i64 0) (W.of .i64 0) (W.of .i64 0)),(W.of .i64 2)))
 (.ite (W.ne r21.1 w) (.ret ((TInst.mk (W.of .i64 0) (W.of .i64 0) (W.of .i64 0) (W.of .i64 0) (W.of .i64 0)),(W.of .i64 2)))
 (.ret ((TInst.mk (W.conv (.i64) r1) (W.conv (.i64) r3) (W.of .i64 0) (W.conv (.i64) r17) (W.of .i64 0)),(W.of .i64 0))))))
 (.opt (F_inst_has (W.conv (.i64) r1) (W.of .i64 8)) fun r22=>
 .ite r22 (.opt (F_inst_number (W.conv (.i64) r1) w) fun r23=>
 .opt (F_inst_Enc (TInst.mk (W.conv (.i64) r1) (W.conv (.i64) r3) (W.of .i64 0) (W.of .i64 0) r23)) fun r24=>
 .ite (W.ne r24.2 (W.of .i64 0)) (.ret ((TInst.mk (W.of .i64 0) (W.of .i64 0) (W.of .i64 0) (W.of .i64 0) (W.of .i64 0)),(W.of .i64 2)))
 (.ite (W.ne r24.1 w) (.ret ((TInst.mk (W.of .i64 0) (W.of .i64 0) (W.of .i64 0) (W.of .i64 0) (W.of .i64 0)),(W.of .i64 2)))
 (.ret ((TInst.mk (W.conv (.i64) r1) (W.conv (.i64) r3) (W.of .i64 0) (W.of .i64 0) r23),(W.of .i64 0)))))
 (.opt (F_inst_Enc (TInst.mk (W.conv (.i64) r1) (W.conv (.i64) r3) (W.of .i64 0) (W.of .i64 0) (W.of .i64 0))) fun r25=>
 .ite (W.ne r25.2 (W.of .i64 0)) (.ret ((TInst.mk (W.of .i64 0) (W.of .i64 0) (W.of .i64 0) (W.of .i64 0) (W.of .i64 0)),(W.of .i64 2)))
 (.ite (W.ne r25.1 w) (.ret ((TInst.mk (W.of .i64 0) (W.of .i64 0) (W.of .i64 0) (W.of .i64 0) (W.of .i64 0)),(W.of .i64 2)))
 (.ret ((TInst.mk (W.conv (.i64) r1) (W.conv (.i64) r3) (W.of .i64 0) (W.of .i64 0) (W.of .i64 0)),(W.of .i64 0))))))))
 (.opt (F_inst_has (W.conv (.i64) r1) (W.of .i64 2)) fun r26=>
 .ite r26 (.opt (F_bits_Field w (W.of .i64 21) (W.of .i64 18)) fun r27=>
 .opt (F_inst_has (W.conv (.i64) r1) (W.of .i64 4)) fun r28=>
 .ite r28 (.opt (F_bits_Field w (W.of .i64 17) (W.of .i64 14)) fun r29=>
 .opt (F_inst_has (W.conv (.i64) r1) (W.of .i64 8)) fun r30=>
 .ite r30 (.opt (F_inst_number (W.conv (.i64) r1) w) fun r31=>
 .opt (F_inst_Enc (TInst.mk (W.conv (.i64) r1) (W.of .i64 0) (W.conv (.i64) r27) (W.conv (.i64) r29) r31)) fun r32=>
 .ite (W.ne r32.2 (W.of .i64 0)) (.ret ((TInst.mk (W.of .i64 0) (W.of .i64 0) (W.of .i64 0) (W.of .i64 0) (W.of .i64 0)),(W.of .i64 2)))
 (.ite (W.ne r32.1 w) (.ret ((TInst.mk (W.of .i64 0) (W.of .i64 0) (W.of .i64 0) (W.of .i64 0) (W.of .i64 0)),(W.of .i64 2)))
 (.ret ((TInst.mk (W.conv (.i64) r1) (W.of .i64 0) (W.conv (.i64) r27) (W.conv (.i64) r29) r31),(W.of .i64 0)))))
 (.opt (F_inst_Enc (TInst.mk (W.conv (.i64) r1) (W.of .i64 0) (W.conv (.i64) r27) (W.conv (.i64) r29) (W.of .i64 0))) fun r33=>
 .ite (W.ne r33.2 (W.of .i64 0)) (.ret ((TInst.mk (W.of .i64 0) (W.of .i64 0) (W.of .i64 0) (W.of .i64 0) (W.of .i64 0)),(W.of .i64 2)))
 (.ite (W.ne r33.1 w) (.ret ((TInst.mk (W.of .i64 0) (W.of .i64 0) (W.of .i64 0) (W.of .i64 0) (W.of .i64 0)),(W.of .i64 2)))
 (.ret ((TInst.mk (W.conv (.i64) r1) (W.of .i64 0) (W.conv (.i64) r27) (W.conv (.i64) r29) (W.of .i64 0)),(W.of .i64 0))))))
 (.opt (F_inst_has (W.conv (.i64) r1) (W.of .i64 8)) fun r34=>
 .ite r34 (.opt (F_inst_number (W.conv (.i64) r1) w) fun r35=>
 .opt (F_inst_Enc (TInst.mk (W.conv (.i64) r1) (W.of .i64 0) (W.conv (.i64) r27) (W.of .i64 0) r35)) fun r36=>
 .ite (W.ne r36.2 (W.of .i64 0)) (.ret ((TInst.mk (W.of .i64 0) (W.of .i64 0) (W.of .i64 0) (W.of .i64 0) (W.of .i64 0)),(W.of .i64 2)))
 (.ite (W.ne r36.1 w) (.ret ((TInst.mk (W.of .i64 0) (W.of .i64 0) (W.of .i64 0) (W.of .i64 0) (W.of .i64 0)),(W.of .i64 2)))
 (.ret ((TInst.mk (W.conv (.i64) r1) (W.of .i64 0) (W.conv (.i64) r27) (W.of .i64 0) r35),(W.of .i64 0)))))
 (.opt (F_inst_Enc (TInst.mk (W.conv (.i64) r1) (W.of .i64 0) (W.conv (.i64) r27) (W.of .i64 0) (W.of .i64 0))) fun r37=>
 .ite (W.ne r37.2 (W.of .i64 0)) (.ret ((TInst.mk (W.of .i64 0) (W.of .i64 0) (W.of .i64 0) (W.of .i64 0) (W.of .i64 0)),(W.of .i64 2)))
 (.ite (W.ne r37.1 w) (.ret ((TInst.mk (W.of .i64 0) (W.of .i64 0) (W.of .i64 0) (W.of .i64 0) (W.of .i64 0)),(W.of .i64 2)))
 (.ret ((TInst.mk (W.conv (.i64) r1) (W.of .i64 0) (W.conv (.i64) r27) (W.of .i64 0) (W.of .i64 0)),(W.of .i64 0)))))))
 (.opt (F_inst_has (W.conv (.i64) r1) (W.of .i64 4)) fun r38=>
 .ite r38 (.opt (F_bits_Field w (W.of .i64 17) (W.of .i64 14)) fun r39=>
 .opt (F_inst_has (W.conv (.i64) r1) (W.of .i64 8)) fun r40=>
 .ite r40 (.opt (F_inst_number (W.conv (.i64) r1) w) fun r41=>
 .opt (F_inst_Enc (TInst.mk (W.conv (.i64) r1) (W.of .i64 0) (W.of .i64 0) (W.conv (.i64) r39) r41)) fun r42=>
 .ite (W.ne r42.2 (W.of .i64 0)) (.ret ((TInst.mk (W.of .i64 0) (W.of .i64 0) (W.of .i64 0) (W.of .i64 0) (W.of .i64 0)),(W.of .i64 2)))
 (.ite (W.ne r42.1 w) (.ret ((TInst.mk (W.of .i64 0) (W.of .i64 0) (W.of .i64 0) (W.of .i64 0) (W.of .i64 0)),(W.of .i64 2)))
 (.ret ((TInst.mk (W.conv (.i64) r1) (W.of .i64 0) (W.of .i64 0) (W.conv (.i64) r39) r41),(W.of .i64 0)))))
 (.opt (F_inst_Enc (TInst.mk (W.conv (.i64) r1) (W.of .i64 0) (W.of .i64 0) (W.conv (.i64) r39) (W.of .i64 0))) fun r43=>
 .ite (W.ne r43.2 (W.of .i64 0)) (.ret ((TInst.mk (W.of .i64 0) (W.of .i64 0) (W.of .i64 0) (W.of .i64 0) (W.of .i64 0)),(W.of .i64 2)))
 (.ite (W.ne r43.1 w) (.ret ((TInst.mk (W.of .i64 0) (W.of .i64 0) (W.of .i64 0) (W.of .i64 0) (W.of .i64 0)),(W.of .i64 2)))
 (.ret ((TInst.mk (W.conv (.i64) r1) (W.of .i64 0) (W.of .i64 0) (W.conv (.i64) r39) (W.of .i64 0)),(W.of .i64 0))))))
 (.opt (F_inst_has (W.conv (.i64) r1) (W.of .i64 8)) fun r44=>
 .ite r44 (.opt (F_inst_number (W.conv (.i64) r1) w) fun r45=>
 .opt (F_inst_Enc (TInst.mk (W.conv (.i64) r1) (W.of .i64 0) (W.of .i64 0) (W.of .i64 0) r45)) fun r46=>
 .ite (W.ne r46.2 (W.of .i64 0)) (.ret ((TInst.mk (W.of .i64 0) (W.of .i64 0) (W.of .i64 0) (W.of .i64 0) (W.of .i64 0)),(W.of .i64 2)))
 (.ite (W.ne r46.1 w) (.ret ((TInst.mk (W.of .i64 0) (W.of .i64 0) (W.of .i64 0) (W.of .i64 0) (W.of .i64 0)),(W.of .i64 2)))
 (.ret ((TInst.mk (W.conv (.i64) r1) (W.of .i64 0) (W.of .i64 0) (W.of .i64 0) r45),(W.of .i64 0)))))
 (.opt (F_inst_Enc (TInst.mk (W.conv (.i64) r1) (W.of .i64 0) (W.of .i64 0) (W.of .i64 0) (W.of .i64 0))) fun r47=>
 .ite (W.ne r47.2 (W.of .i64 0)) (.ret ((TInst.mk (W.of .i64 0) (W.of .i64 0) (W.of .i64 0) (W.of .i64 0) (W.of .i64 0)),(W.of .i64 2)))
 (.ite (W.ne r47.1 w) (.ret ((TInst.mk (W.of .i64 0) (W.of .i64 0) (W.of .i64 0) (W.of .i64 0) (W.of .i64 0)),(W.of .i64 2)))
 (.ret ((TInst.mk (W.conv (.i64) r1) (W.of .i64 0) (W.of .i64 0) (W.of .i64 0) (W.of .i64 0)),(W.of .i64 0)))))))))
def F_inst_Dec (w:W .u32):Option (TInst×W .i64):=(T_inst_Dec w).eval
def T_crack_reg (r:W .i64):Tree (W .i64):=
 .ite (W.eq r (W.of .i64 0)) (.ret (W.of .i64 (-1)))
 (.ret r)
def F_crack_reg (r:W .i64):Option (W .i64):=(T_crack_reg r).eval
def T_crack_sources (i:TInst):Tree (Arr 3 (W .i64)):=
 .opt (F_crack_none) fun r1=>
 .opt (F_crack_Serial i.Op) fun r2=>
 .ite r2 (.ret r1)
 (.opt (F_inst_Form i.Op) fun r3=>
 .ite (W.eq r3 (W.of .i64 1)) (.opt (F_crack_reg i.Ra) fun r4=>
 .opt (F_crack_reg i.Rb) fun r5=>
 .ite (W.eq i.Op (W.of .i64 24)) (.opt (F_crack_reg i.Rd) fun r6=>
 .ret (Arr.set (Arr.set (Arr.set r1 0 r4) 1 r5) 2 r6))
 (.ret (Arr.set (Arr.set r1 0 r4) 1 r5)))
 (.ite (W.eq r3 (W.of .i64 3)) (.opt (F_crack_reg i.Ra) fun r7=>
 .opt (F_crack_reg i.Rb) fun r8=>
 .ite (W.eq i.Op (W.of .i64 24)) (.opt (F_crack_reg i.Rd) fun r9=>
 .ret (Arr.set (Arr.set (Arr.set r1 0 r7) 1 r8) 2 r9))
 (.ret (Arr.set (Arr.set r1 0 r7) 1 r8)))
 (.ite (W.eq r3 (W.of .i64 4)) (.opt (F_crack_reg i.Ra) fun r10=>
 .opt (F_crack_reg i.Rb) fun r11=>
 .ite (W.eq i.Op (W.of .i64 24)) (.opt (F_crack_reg i.Rd) fun r12=>
 .ret (Arr.set (Arr.set (Arr.set r1 0 r10) 1 r11) 2 r12))
 (.ret (Arr.set (Arr.set r1 0 r10) 1 r11)))
 (.ite (W.eq r3 (W.of .i64 2)) (.opt (F_crack_reg i.Ra) fun r13=>
 .ite (W.eq i.Op (W.of .i64 24)) (.opt (F_crack_reg i.Rd) fun r14=>
 .ret (Arr.set (Arr.set r1 0 r13) 2 r14))
 (.ret (Arr.set r1 0 r13)))
 (.ite (W.eq r3 (W.of .i64 11)) (.opt (F_crack_reg i.Ra) fun r15=>
 .ite (W.eq i.Op (W.of .i64 24)) (.opt (F_crack_reg i.Rd) fun r16=>
 .ret (Arr.set (Arr.set r1 0 r15) 2 r16))
 (.ret (Arr.set r1 0 r15)))
 (.ite (W.eq i.Op (W.of .i64 24)) (.opt (F_crack_reg i.Rd) fun r17=>
 .ret (Arr.set r1 2 r17))
 (.ret r1)))))))
def F_crack_sources (i:TInst):Option (Arr 3 (W .i64)):=(T_crack_sources i).eval
def T_crack_target (i:TInst):Tree (W .i64):=
 .opt (F_inst_Form i.Op) fun r1=>
 .ite (W.eq r1 (W.of .i64 1)) (.opt (F_crack_reg i.Rd) fun r2=>
 .ret r2)
 (.ite (W.eq r1 (W.of .i64 2)) (.opt (F_crack_reg i.Rd) fun r3=>
 .ret r3)
 (.ite (W.eq r1 (W.of .i64 5)) (.opt (F_crack_reg i.Rd) fun r4=>
 .ret r4)
 (.ite (W.eq r1 (W.of .i64 6)) (.opt (F_crack_reg i.Rd) fun r5=>
 .ret r5)
 (.ite (W.eq r1 (W.of .i64 7)) (.opt (F_crack_reg i.Rd) fun r6=>
 .ret r6)
 (.ite (W.eq r1 (W.of .i64 11)) (.opt (F_crack_reg i.Rd) fun r7=>
 .ret r7)
 (.ret (W.of .i64 (-1))))))))
def F_crack_target (i:TInst):Option (W .i64):=(T_crack_target i).eval
def T_crack_part (s:TSlot) (i:TInst) (n_2:W .i64) (last:Bool):Tree (TUop):=
 .opt (F_crack_Unit i.Op) fun r1=>
 .opt (F_crack_sources i) fun r2=>
 .opt (F_crack_target i) fun r3=>
 .ret (TUop.mk i s r1 n_2 last r2 r3 (W.of .i64 0) (W.of .u32 0))
def F_crack_part (s:TSlot) (i:TInst) (n_2:W .i64) (last:Bool):Option (TUop):=(T_crack_part s i n_2 last).eval
def T_crack_Uops (s:TSlot):Tree (Sl 168 (TUop)):=
 .ite (W.ne s.Cause (W.of .i64 0)) (.opt (F_crack_trap s s.Cause s.Tval) fun r1=>
 .ret r1)
 (.opt (F_inst_Dec s.Word) fun r2=>
 .ite (W.ne r2.2 (W.of .i64 0)) (.opt (F_crack_trap s (W.of .i64 2) s.Word) fun r3=>
 .ret r3)
 (.ite (W.ne r2.1.Op (W.of .i64 39)) (.opt (F_crack_part s r2.1 (W.of .i64 0) true) fun r4=>
 .ret (Sl.lit 168 [r4] rfl:Sl 168 (TUop)))
 (.ite (W.eq r2.1.Ra (W.of .i64 0)) (.opt (F_crack_part s (TInst.mk (W.of .i64 38) r2.1.Rd r2.1.Ra (W.of .i64 0) (W.of .i64 0)) (W.of .i64 0) true) fun r5=>
 .ret (Sl.lit 168 [r5] rfl:Sl 168 (TUop)))
 (.ite (W.eq r2.1.Ra r2.1.Rd) (.opt (F_crack_part s (TInst.mk (W.of .i64 38) r2.1.Rd r2.1.Ra (W.of .i64 0) (W.of .i64 0)) (W.of .i64 0) true) fun r6=>
 .ret (Sl.lit 168 [r6] rfl:Sl 168 (TUop)))
 (.opt (F_crack_part s (TInst.mk (W.of .i64 38) r2.1.Rd r2.1.Ra (W.of .i64 0) (W.of .i64 0)) (W.of .i64 0) false) fun r7=>
 .opt (F_crack_part s (TInst.mk (W.of .i64 25) r2.1.Ra r2.1.Ra (W.of .i64 0) r2.1.Imm) (W.of .i64 1) true) fun r8=>
 .ret (Sl.lit 168 [r7,r8] rfl:Sl 168 (TUop)))))))
def F_crack_Uops (s:TSlot):Option (Sl 168 (TUop)):=(T_crack_Uops s).eval
def T_csr_Kernel (a:TArch):Tree (Bool):=
 .ret (W.ne (W.and (Arr.get a.C 0) (W.of .u32 1)) (W.of .u32 0))
def F_csr_Kernel (a:TArch):Option (Bool):=(T_csr_Kernel a).eval
def T_trap_sources :Tree (Arr 3 (TSource)):=
 .ret (Arr.lit 3 [(TSource.mk (W.of .u32 1) (W.of .i64 16)),(TSource.mk (W.of .u32 2) (W.of .i64 17)),(TSource.mk (W.of .u32 4) (W.of .i64 18))] rfl:Arr 3 (TSource))
def F_trap_sources :Option (Arr 3 (TSource)):=(T_trap_sources).eval
def B_trap_Pending_13 (open_3:W .u32) (t_22:Arr 3 (TSource)) (t_23:W .i64):Tree (Rnd (W .u32×Arr 3 (TSource)×W .i64×Unit) ((W .i64×Unit)⊕(Unit×Unit))):=
 .ite (W.lt t_23 (W.of .i64 3)) (.opt (idx? 3 t_23) fun j3=>
 .ite (W.ne (W.and open_3 (Arr.get t_22 j3).line) (W.of .u32 0)) (.ret (.out (.inl ((Arr.get t_22 j3).cause,()))))
 (.ret (.next (open_3,t_22,(W.add t_23 (W.of .i64 1)),()))))
 (.ret (.out (.inr ((),()))))
def L_trap_Pending_13 (a:W .u32×Arr 3 (TSource)×W .i64×Unit):Option ((W .i64×Unit)⊕(Unit×Unit)):=iter (fun a:W .u32×Arr 3 (TSource)×W .i64×Unit=>(B_trap_Pending_13 a.1 a.2.1 a.2.2.1).eval) fuel a
def T_trap_Pending (a:TArch):Tree (W .i64):=
 .opt (F_csr_Kernel a) fun r1=>
 .ite r1 (.ite (W.eq (W.and (Arr.get a.C 0) (W.of .u32 2)) (W.of .u32 0)) (.ret (W.of .i64 0))
 (.opt (F_trap_sources) fun r2=>
 .opt (L_trap_Pending_13 (((W.and (Arr.get a.C 10) (Arr.get a.C 9)),r2,(W.of .i64 0),()))) fun o4=>
 .sum o4 (fun p5=>
 .ret p5.1)
 (fun o6=>
 .ret (W.of .i64 0))))
 (.opt (F_trap_sources) fun r7=>
 .opt (L_trap_Pending_13 (((W.and (Arr.get a.C 10) (Arr.get a.C 9)),r7,(W.of .i64 0),()))) fun o8=>
 .sum o8 (fun p9=>
 .ret p9.1)
 (fun o10=>
 .ret (W.of .i64 0)))
def F_trap_Pending (a:TArch):Option (W .i64):=(T_trap_Pending a).eval
def T_csr_Masked (n_0:W .i64):Tree (W .u32):=
 .ite (W.lt n_0 (W.of .i64 0)) (.ret (W.of .u32 0))
 (.ite (W.ge n_0 (W.of .i64 12)) (.ret (W.of .u32 0))
 (.opt (idx? 12 n_0) fun j1=>
 .ret (Arr.get (Arr.lit 12 [(W.of .u32 63),(W.of .u32 31),(W.of .u32 4294967295),(W.of .u32 4294967295),(W.of .u32 4294967295),(W.of .u32 4294967232),(W.of .u32 4294967295),(W.of .u32 4294967295),(W.of .u32 4294967295),(W.of .u32 7),(W.of .u32 7),(W.of .u32 4294967295)] rfl:Arr 12 (W .u32)) j1)))
def F_csr_Masked (n_0:W .i64):Option (W .u32):=(T_csr_Masked n_0).eval
def T_trap_moved (s from_1 to_2:W .u32):Tree (W .u32):=
 .ite (W.ne (W.and s from_1) (W.of .u32 0)) (.ret (W.or s to_2))
 (.ret (W.andNot s to_2))
def F_trap_moved (s from_1 to_2:W .u32):Option (W .u32):=(T_trap_moved s from_1 to_2).eval
def T_trap_Take (a:TArch) (cause:W .i64) (val epc:W .u32):Tree (TArch):=
 .opt (F_csr_Masked (W.of .i64 1)) fun r1=>
 .opt (F_trap_moved (Arr.get (Arr.set (Arr.set (Arr.set a.C 1 (W.and (W.conv (.u32) cause) r1)) 2 val) 3 epc) 0) (W.of .u32 1) (W.of .u32 4)) fun r2=>
 .opt (F_trap_moved r2 (W.of .u32 2) (W.of .u32 8)) fun r3=>
 .ret ({ a with C:=(Arr.set (Arr.set (Arr.set (Arr.set a.C 1 (W.and (W.conv (.u32) cause) r1)) 2 val) 3 epc) 0 (W.andNot (W.or r3 (W.of .u32 1)) (W.of .u32 2))),PC:=(Arr.get (Arr.set (Arr.set (Arr.set (Arr.set a.C 1 (W.and (W.conv (.u32) cause) r1)) 2 val) 3 epc) 0 (W.andNot (W.or r3 (W.of .u32 1)) (W.of .u32 2))) 4) }:TArch)
def F_trap_Take (a:TArch) (cause:W .i64) (val epc:W .u32):Option (TArch):=(T_trap_Take a cause val epc).eval
def T_step_traps (m:TMach) (word:W .u32) (cause:W .i64) (val:W .u32):Tree (TMach×TEvent×Bool):=
 .opt (F_trap_Take m.A cause val m.A.PC) fun r1=>
 .ret (({ m with A:=r1 }:TMach),(TEvent.mk m.A.PC word (W.of .i64 (-1)) (W.of .u32 0) (W.of .i64 (-1)) (W.of .u32 0) (W.of .i64 0) (W.of .u32 0) (W.of .u32 0) cause val r1.PC),true)
def F_step_traps (m:TMach) (word:W .u32) (cause:W .i64) (val:W .u32):Option (TMach×TEvent×Bool):=(T_step_traps m word cause val).eval
def T_trap_Stops (a:TArch) (pc:W .u32):Tree (Bool):=
 .opt (F_csr_Kernel a) fun r1=>
 .ite (!r1) (.ite (W.eq (W.and (Arr.get a.C 11) (W.of .u32 1)) (W.of .u32 1)) (.ite (W.eq (Arr.get a.C 11) (W.or pc (W.of .u32 1))) (.ret (W.eq (W.and pc (W.of .u32 1)) (W.of .u32 0)))
 (.ret false))
 (.ret false))
 (.ret false)
def F_trap_Stops (a:TArch) (pc:W .u32):Option (Bool):=(T_trap_Stops a pc).eval
def T_bits_Aligned (addr:W .u32) (size:W .i64):Tree (Bool):=
 .ite (W.eq size (W.of .i64 1)) (.ret (W.eq (W.and addr (W.conv (.u32) (W.sub size (W.of .i64 1)))) (W.of .u32 0)))
 (.ite (W.eq size (W.of .i64 2)) (.ret (W.eq (W.and addr (W.conv (.u32) (W.sub size (W.of .i64 1)))) (W.of .u32 0)))
 (.ite (W.eq size (W.of .i64 4)) (.ret (W.eq (W.and addr (W.conv (.u32) (W.sub size (W.of .i64 1)))) (W.of .u32 0)))
 (.ret false)))
def F_bits_Aligned (addr:W .u32) (size:W .i64):Option (Bool):=(T_bits_Aligned addr size).eval
def T_walk_Paged (a:TArch):Tree (Bool):=
 .ite (W.ne (W.and (Arr.get a.C 0) (W.of .u32 16)) (W.of .u32 0)) (.opt (F_csr_Kernel a) fun r1=>
 .ret (!r1))
 (.ret false)
def F_walk_Paged (a:TArch):Option (Bool):=(T_walk_Paged a).eval
def T_walk_Fault (access:W .i64):Tree (W .i64):=
 .ite (W.eq access (W.of .i64 1)) (.ret (W.of .i64 1))
 (.ite (W.eq access (W.of .i64 2)) (.ret (W.of .i64 4))
 (.ite (W.eq access (W.of .i64 3)) (.ret (W.of .i64 6))
 (.ret (W.of .i64 9))))
def F_walk_Fault (access:W .i64):Option (W .i64):=(T_walk_Fault access).eval
def T_pte_Index (va:W .u32) (level:W .i64):Tree (W .i64):=
 .ite (W.eq level (W.of .i64 0)) (.opt (F_bits_Field va (W.of .i64 13) (W.of .i64 10)) fun r1=>
 .ret (W.conv (.i64) r1))
 (.ite (W.eq level (W.of .i64 1)) (.opt (F_bits_Field va (W.of .i64 9) (W.of .i64 6)) fun r2=>
 .ret (W.conv (.i64) r2))
 (.ret (W.of .i64 0)))
def F_pte_Index (va:W .u32) (level:W .i64):Option (W .i64):=(T_pte_Index va level).eval
def T_mem_Check (m:Sl 1 (W .u8)) (addr:W .u32) (size:W .i64):Tree (W .i64):=
 .ite (W.ne size (W.of .i64 1)) (.ite (W.ne size (W.of .i64 2)) (.ite (W.ne size (W.of .i64 4)) (.ret (W.of .i64 9))
 (.ite (W.gt (W.add (W.conv (.u64) addr) (W.conv (.u64) size)) (W.conv (.u64) (Sl.len m))) (.ret (W.of .i64 9))
 (.ret (W.of .i64 0))))
 (.ite (W.gt (W.add (W.conv (.u64) addr) (W.conv (.u64) size)) (W.conv (.u64) (Sl.len m))) (.ret (W.of .i64 9))
 (.ret (W.of .i64 0))))
 (.ite (W.gt (W.add (W.conv (.u64) addr) (W.conv (.u64) size)) (W.conv (.u64) (Sl.len m))) (.ret (W.of .i64 9))
 (.ret (W.of .i64 0)))
def F_mem_Check (m:Sl 1 (W .u8)) (addr:W .u32) (size:W .i64):Option (W .i64):=(T_mem_Check m addr size).eval
def B_bits_Of_7 (v:W .u32) (t_10:Sl 1 (W .u8)) (t_11 t_12:W .i64):Tree (Rnd (W .u32×Sl 1 (W .u8)×W .i64×W .i64×Unit) (W .u32×Unit)):=
 .ite (W.lt t_12 t_11) (.opt (Sl.get? t_10 t_12) fun y3=>
 .opt (W.shl? (W.conv (.u32) y3) (W.mul (W.of .i64 8) t_12)) fun z4=>
 .ret (.next ((W.or v z4),t_10,t_11,(W.add t_12 (W.of .i64 1)),())))
 (.ret (.out (v,())))
def L_bits_Of_7 (a:W .u32×Sl 1 (W .u8)×W .i64×W .i64×Unit):Option (W .u32×Unit):=iter (fun a:W .u32×Sl 1 (W .u8)×W .i64×W .i64×Unit=>(B_bits_Of_7 a.1 a.2.1 a.2.2.1 a.2.2.2.1).eval) fuel a
def T_bits_Of (b:Sl 1 (W .u8)):Tree (W .u32):=
 .opt (nat? (W.min (Sl.len b) (W.of .i64 4))) fun n1=>
 .opt (Sl.sub? b 0 n1) fun l2=>
 .opt (L_bits_Of_7 (((W.of .u32 0),l2,(Sl.len l2),(W.of .i64 0),()))) fun o5=>
 .ret o5.1
def F_bits_Of (b:Sl 1 (W .u8)):Option (W .u32):=(T_bits_Of b).eval
def T_mem_Read (m:Sl 1 (W .u8)) (addr:W .u32) (size:W .i64):Tree (W .u32×W .i64):=
 .opt (F_mem_Check m addr size) fun r1=>
 .ite (W.ne r1 (W.of .i64 0)) (.ret ((W.of .u32 0),r1))
 (.opt (nat? addr) fun n2=>
 .opt (nat? (W.add (W.conv (.i64) addr) size)) fun n3=>
 .opt (Sl.sub? m n2 n3) fun l4=>
 .opt (F_bits_Of l4) fun r5=>
 .ret (r5,(W.of .i64 0)))
def F_mem_Read (m:Sl 1 (W .u8)) (addr:W .u32) (size:W .i64):Option (W .u32×W .i64):=(T_mem_Read m addr size).eval
def T_pte_Of (w:W .u32):Tree (TPte):=
 .opt (F_bits_Field w (W.of .i64 15) (W.of .i64 8)) fun r1=>
 .ret (TPte.mk (W.and w (W.of .u32 127)) (W.conv (.i64) r1))
def F_pte_Of (w:W .u32):Option (TPte):=(T_pte_Of w).eval
def T_walk_walker_entry (w:TWalker) (at_1:W .u32):Tree (TPte×Bool×TWalker):=
 .opt (F_mem_Read w.shadow at_1 (W.of .i64 4)) fun r1=>
 .ite (W.ne r1.2 (W.of .i64 0)) (.ret ((TPte.mk (W.of .u32 0) (W.of .i64 0)),false,w))
 (.opt (Sl.app? w.read (Sl.lit 4 [at_1] rfl:Sl 4 (W .u32))) fun l2=>
 .opt (F_pte_Of r1.1) fun r3=>
 .ret (r3,true,({ w with read:=l2 }:TWalker)))
def F_walk_walker_entry (w:TWalker) (at_1:W .u32):Option (TPte×Bool×TWalker):=(T_walk_walker_entry w at_1).eval
def T_pte_Leaf (p:TPte):Tree (Bool):=
 .ret (W.ne (W.and p.Bits (W.of .u32 14)) (W.of .u32 0))
def F_pte_Leaf (p:TPte):Option (Bool):=(T_pte_Leaf p).eval
def T_walk_Walk (shadow:Sl 1 (W .u8)) (root va:W .u32):Tree (TPte×Sl 4 (W .u32)×Bool):=
 .ite (W.ge va (W.of .u32 16384)) (.ret ((TPte.mk (W.of .u32 0) (W.of .i64 0)),(Sl.nil:Sl 4 (W .u32)),false))
 (.opt (F_pte_Index va (W.of .i64 0)) fun r1=>
 .opt (F_walk_walker_entry (TWalker.mk shadow (Sl.nil:Sl 4 (W .u32))) (W.add root (W.mul (W.of .u32 4) (W.conv (.u32) r1)))) fun r2=>
 .ite (!r2.2.1) (.ret ((TPte.mk (W.of .u32 0) (W.of .i64 0)),r2.2.2.read,false))
 (.ite (W.eq (W.and r2.1.Bits (W.of .u32 1)) (W.of .u32 0)) (.ret ((TPte.mk (W.of .u32 0) (W.of .i64 0)),r2.2.2.read,false))
 (.opt (F_pte_Leaf r2.1) fun r3=>
 .ite r3 (.ret ((TPte.mk (W.of .u32 0) (W.of .i64 0)),r2.2.2.read,false))
 (.opt (F_pte_Index va (W.of .i64 1)) fun r4=>
 .opt (F_walk_walker_entry r2.2.2 (W.add (W.conv (.u32) (W.mul (W.of .i64 64) r2.1.Page)) (W.mul (W.of .u32 4) (W.conv (.u32) r4)))) fun r5=>
 .ite (!r5.2.1) (.ret ((TPte.mk (W.of .u32 0) (W.of .i64 0)),r5.2.2.read,false))
 (.ite (W.eq (W.and r5.1.Bits (W.of .u32 1)) (W.of .u32 0)) (.ret ((TPte.mk (W.of .u32 0) (W.of .i64 0)),r5.2.2.read,false))
 (.opt (F_pte_Leaf r5.1) fun r6=>
 .ite (!r6) (.ret ((TPte.mk (W.of .u32 0) (W.of .i64 0)),r5.2.2.read,false))
 (.ret (r5.1,r5.2.2.read,true))))))))
def F_walk_Walk (shadow:Sl 1 (W .u8)) (root va:W .u32):Option (TPte×Sl 4 (W .u32)×Bool):=(T_walk_Walk shadow root va).eval
def T_pte_Allows (p:TPte) (access:W .i64) (kernel:Bool):Tree (Bool):=
 .ite (!kernel) (.ite (W.eq access (W.of .i64 1)) (.ret (W.eq (W.and p.Bits (W.of .u32 57)) (W.of .u32 57)))
 (.ite (W.eq access (W.of .i64 2)) (.ret (W.eq (W.and p.Bits (W.of .u32 51)) (W.of .u32 51)))
 (.ite (W.eq access (W.of .i64 3)) (.ret (W.eq (W.and p.Bits (W.of .u32 117)) (W.of .u32 117)))
 (.ret false))))
 (.ite (W.eq access (W.of .i64 1)) (.ret (W.eq (W.and p.Bits (W.of .u32 41)) (W.of .u32 41)))
 (.ite (W.eq access (W.of .i64 2)) (.ret (W.eq (W.and p.Bits (W.of .u32 35)) (W.of .u32 35)))
 (.ite (W.eq access (W.of .i64 3)) (.ret (W.eq (W.and p.Bits (W.of .u32 101)) (W.of .u32 101)))
 (.ret false))))
def F_pte_Allows (p:TPte) (access:W .i64) (kernel:Bool):Option (Bool):=(T_pte_Allows p access kernel).eval
def T_pte_page (p:TPte):Tree (W .u32):=
 .ret (W.and (W.conv (.u32) p.Page) (W.of .u32 255))
def F_pte_page (p:TPte):Option (W .u32):=(T_pte_page p).eval
def T_pte_Addr (p:TPte) (va:W .u32):Tree (W .u32):=
 .opt (F_pte_page p) fun r1=>
 .ret (W.add (W.mul r1 (W.of .u32 64)) (W.rem va (W.of .u32 64)))
def F_pte_Addr (p:TPte) (va:W .u32):Option (W .u32):=(T_pte_Addr p va).eval
def T_walk_Trans (a:TArch) (shadow:Sl 1 (W .u8)) (va:W .u32) (access:W .i64):Tree (W .u32×W .i64):=
 .opt (F_walk_Paged a) fun r1=>
 .ite (!r1) (.ret (va,(W.of .i64 0)))
 (.opt (F_walk_Fault access) fun r2=>
 .ite (W.eq r2 (W.of .i64 9)) (.ret ((W.of .u32 0),r2))
 (.opt (F_walk_Walk shadow (Arr.get a.C 5) va) fun r3=>
 .ite (!r3.2.2) (.ret ((W.of .u32 0),r2))
 (.opt (F_pte_Allows r3.1 access false) fun r4=>
 .ite (!r4) (.ret ((W.of .u32 0),r2))
 (.opt (F_pte_Addr r3.1 va) fun r5=>
 .ret (r5,(W.of .i64 0))))))
def F_walk_Trans (a:TArch) (shadow:Sl 1 (W .u8)) (va:W .u32) (access:W .i64):Option (W .u32×W .i64):=(T_walk_Trans a shadow va access).eval
def T_step_reach (m:TMach) (in_1:Sl 1 (W .u8)) (va:W .u32) (size access:W .i64):Tree (W .u32×W .i64):=
 .opt (F_bits_Aligned va size) fun r1=>
 .ite (!r1) (.ret ((W.of .u32 0),(W.of .i64 5)))
 (.opt (F_walk_Trans m.A m.Shadow va access) fun r2=>
 .ite (W.eq r2.2 (W.of .i64 0)) (.opt (F_mem_Check in_1 r2.1 size) fun r3=>
 .ite (W.ne r3 (W.of .i64 0)) (.ret ((W.of .u32 0),r3))
 (.ret (r2.1,(W.of .i64 0))))
 (.ite (W.ne r2.2 (W.of .i64 0)) (.ret ((W.of .u32 0),r2.2))
 (.ret (r2.1,(W.of .i64 0)))))
def F_step_reach (m:TMach) (in_1:Sl 1 (W .u8)) (va:W .u32) (size access:W .i64):Option (W .u32×W .i64):=(T_step_reach m in_1 va size access).eval
def T_step_Fetch (m:TMach):Tree (W .u32×W .i64):=
 .opt (F_step_reach m m.Shadow m.A.PC (W.of .i64 4) (W.of .i64 1)) fun r1=>
 .ite (W.ne r1.2 (W.of .i64 0)) (.ret ((W.of .u32 0),r1.2))
 (.opt (F_mem_Read m.Shadow r1.1 (W.of .i64 4)) fun r2=>
 .ret (r2.1,r2.2))
def F_step_Fetch (m:TMach):Option (W .u32×W .i64):=(T_step_Fetch m).eval
def T_inst_Priv (op:W .i64):Tree (Bool):=
 .ite (W.eq op (W.of .i64 55)) (.ret true)
 (.ite (W.eq op (W.of .i64 57)) (.ret true)
 (.ite (W.eq op (W.of .i64 61)) (.ret true)
 (.ret (W.eq op (W.of .i64 59)))))
def F_inst_Priv (op:W .i64):Option (Bool):=(T_inst_Priv op).eval
def T_step_work_put (w:TWork) (r:W .i64) (v:W .u32):Tree (TWork):=
 .ite (W.ne r (W.of .i64 0)) (.opt (idx? 16 r) fun j1=>
 .ret ({ w with m:=({ w.m with A:=({ w.m.A with R:=(Arr.set w.m.A.R j1 v) }:TArch) }:TMach),ev:=({ w.ev with Rd:=r,Val:=v }:TEvent) }:TWork))
 (.ret w)
def F_step_work_put (w:TWork) (r:W .i64) (v:W .u32):Option (TWork):=(T_step_work_put w r v).eval
def B_step_work_reckon_3 (w:TWork) (a b:W .u32) (i:TInst) (t_17:Bool):Tree (TWork×W .u32×W .u32×TInst×Unit):=
 .ite t_17 (.ret (w,a,(W.conv (.u32) i.Imm),i,()))
 (.ret (w,a,b,i,()))
def L_step_work_reckon_3 (a:TWork×W .u32×W .u32×TInst×Bool×Unit):Option (TWork×W .u32×W .u32×TInst×Unit):=(B_step_work_reckon_3 a.1 a.2.1 a.2.2.1 a.2.2.2.1 a.2.2.2.2.1).eval
def B_step_work_reckon_17 (w:TWork) (a b:W .u32) (i:TInst) (v:W .u32) (t_55:Bool):Tree (TWork×TInst×W .u32×Unit):=
 .ite t_55 (.opt (idx? 16 i.Rd) fun j5=>
 .opt (F_alu_Cmov (Arr.get w.m.A.R j5) a b) fun r6=>
 .ret (w,i,r6,()))
 (.ret (w,i,v,()))
def L_step_work_reckon_17 (a:TWork×W .u32×W .u32×TInst×W .u32×Bool×Unit):Option (TWork×TInst×W .u32×Unit):=(B_step_work_reckon_17 a.1 a.2.1 a.2.2.1 a.2.2.2.1 a.2.2.2.2.1 a.2.2.2.2.2.1).eval
def B_step_work_reckon_19 (w:TWork) (i:TInst) (v:W .u32):Tree (TWork×Unit):=
 .opt (F_step_work_put w i.Rd v) fun r8=>
 .ret (r8,())
def L_step_work_reckon_19 (a:TWork×TInst×W .u32×Unit):Option (TWork×Unit):=(B_step_work_reckon_19 a.1 a.2.1 a.2.2.1).eval
def B_step_work_reckon_15 (w:TWork) (a b:W .u32) (i:TInst) (v:W .u32) (ok:Bool):Tree (TWork×Unit):=
 .ite (!ok) (.opt (L_step_work_reckon_17 ((w,a,b,i,v,(W.eq i.Op (W.of .i64 24)),()))) fun o7=>
 .opt (L_step_work_reckon_19 ((o7.1,o7.2.1,o7.2.2.1,()))) fun o9=>
 .ret (o9.1,()))
 (.opt (L_step_work_reckon_17 ((w,a,b,i,v,false,()))) fun o10=>
 .opt (L_step_work_reckon_19 ((o10.1,o10.2.1,o10.2.2.1,()))) fun o11=>
 .ret (o11.1,()))
def L_step_work_reckon_15 (a:TWork×W .u32×W .u32×TInst×W .u32×Bool×Unit):Option (TWork×Unit):=(B_step_work_reckon_15 a.1 a.2.1 a.2.2.1 a.2.2.2.1 a.2.2.2.2.1 a.2.2.2.2.2.1).eval
def B_step_work_reckon_11 (w:TWork) (a b:W .u32) (i:TInst) (v:W .u32) (ok:Bool):Tree (TWork×Unit):=
 .ite (!ok) (.opt (F_div_Do i.Op a b) fun r4=>
 .opt (L_step_work_reckon_15 ((w,a,b,i,r4.1,r4.2,()))) fun o12=>
 .ret (o12.1,()))
 (.opt (L_step_work_reckon_15 ((w,a,b,i,v,ok,()))) fun o13=>
 .ret (o13.1,()))
def L_step_work_reckon_11 (a:TWork×W .u32×W .u32×TInst×W .u32×Bool×Unit):Option (TWork×Unit):=(B_step_work_reckon_11 a.1 a.2.1 a.2.2.1 a.2.2.2.1 a.2.2.2.2.1 a.2.2.2.2.2.1).eval
def B_step_work_reckon_5 (w:TWork) (a b:W .u32) (i:TInst):Tree (TWork×Unit):=
 .opt (F_alu_Do i.Op a b) fun r2=>
 .ite (!r2.2) (.opt (F_mul_Do i.Op a b) fun r3=>
 .opt (L_step_work_reckon_11 ((w,a,b,i,r3.1,r3.2,()))) fun o14=>
 .ret (o14.1,()))
 (.opt (L_step_work_reckon_11 ((w,a,b,i,r2.1,r2.2,()))) fun o15=>
 .ret (o15.1,()))
def L_step_work_reckon_5 (a:TWork×W .u32×W .u32×TInst×Unit):Option (TWork×Unit):=(B_step_work_reckon_5 a.1 a.2.1 a.2.2.1 a.2.2.2.1).eval
def T_step_work_reckon (w:TWork) (i:TInst) (a b:W .u32):Tree (TWork):=
 .ite (W.ge i.Op (W.of .i64 25)) (.opt (L_step_work_reckon_3 ((w,a,b,i,(W.le i.Op (W.of .i64 33)),()))) fun o1=>
 .opt (L_step_work_reckon_5 ((o1.1,o1.2.1,o1.2.2.1,o1.2.2.2.1,()))) fun o16=>
 .ret o16.1)
 (.opt (L_step_work_reckon_3 ((w,a,b,i,false,()))) fun o17=>
 .opt (L_step_work_reckon_5 ((o17.1,o17.2.1,o17.2.2.1,o17.2.2.2.1,()))) fun o18=>
 .ret o18.1)
def F_step_work_reckon (w:TWork) (i:TInst) (a b:W .u32):Option (TWork):=(T_step_work_reckon w i a b).eval
def T_step_sizeOf (op:W .i64):Tree (W .i64):=
 .ite (W.eq op (W.of .i64 34)) (.ret (W.of .i64 1))
 (.ite (W.eq op (W.of .i64 35)) (.ret (W.of .i64 1))
 (.ite (W.eq op (W.of .i64 40)) (.ret (W.of .i64 1))
 (.ite (W.eq op (W.of .i64 36)) (.ret (W.of .i64 2))
 (.ite (W.eq op (W.of .i64 37)) (.ret (W.of .i64 2))
 (.ite (W.eq op (W.of .i64 41)) (.ret (W.of .i64 2))
 (.ret (W.of .i64 4)))))))
def F_step_sizeOf (op:W .i64):Option (W .i64):=(T_step_sizeOf op).eval
def T_step_work_fails (w:TWork) (cause:W .i64) (val:W .u32):Tree (TWork):=
 .ret ({ w with cause:=cause,val:=val }:TWork)
def F_step_work_fails (w:TWork) (cause:W .i64) (val:W .u32):Option (TWork):=(T_step_work_fails w cause val).eval
def T_step_work_loads (w:TWork) (i:TInst) (a:W .u32):Tree (TWork):=
 .opt (F_step_sizeOf i.Op) fun r1=>
 .ite (W.eq i.Op (W.of .i64 39)) (.opt (F_step_reach w.m w.m.Mem a r1 (W.of .i64 2)) fun r2=>
 .ite (W.ne r2.2 (W.of .i64 0)) (.opt (F_step_work_fails w r2.2 a) fun r3=>
 .ret r3)
 (.opt (F_mem_Read w.m.Mem r2.1 r1) fun r4=>
 .ite (W.eq i.Op (W.of .i64 34)) (.opt (F_bits_Sext r4.1 (W.mul (W.of .i64 8) r1)) fun r5=>
 .opt (F_step_work_put w i.Rd r5) fun r6=>
 .ret r6)
 (.ite (W.eq i.Op (W.of .i64 36)) (.opt (F_bits_Sext r4.1 (W.mul (W.of .i64 8) r1)) fun r7=>
 .opt (F_step_work_put w i.Rd r7) fun r8=>
 .ret r8)
 (.ite (W.eq i.Op (W.of .i64 39)) (.ite (W.ne i.Ra (W.of .i64 0)) (.ite (W.ne i.Ra i.Rd) (.opt (idx? 16 i.Ra) fun j9=>
 .opt (idx? 16 i.Ra) fun j10=>
 .opt (F_step_work_put ({ w with m:=({ w.m with A:=({ w.m.A with R:=(Arr.set w.m.A.R j9 (W.add a (W.conv (.u32) i.Imm))) }:TArch) }:TMach),ev:=({ w.ev with Rd2:=i.Ra,Val2:=(Arr.get (Arr.set w.m.A.R j9 (W.add a (W.conv (.u32) i.Imm))) j10) }:TEvent) }:TWork) i.Rd r4.1) fun r11=>
 .ret r11)
 (.opt (F_step_work_put w i.Rd r4.1) fun r12=>
 .ret r12))
 (.opt (F_step_work_put w i.Rd r4.1) fun r13=>
 .ret r13))
 (.opt (F_step_work_put w i.Rd r4.1) fun r14=>
 .ret r14)))))
 (.opt (F_step_reach w.m w.m.Mem (W.add a (W.conv (.u32) i.Imm)) r1 (W.of .i64 2)) fun r15=>
 .ite (W.ne r15.2 (W.of .i64 0)) (.opt (F_step_work_fails w r15.2 (W.add a (W.conv (.u32) i.Imm))) fun r16=>
 .ret r16)
 (.opt (F_mem_Read w.m.Mem r15.1 r1) fun r17=>
 .ite (W.eq i.Op (W.of .i64 34)) (.opt (F_bits_Sext r17.1 (W.mul (W.of .i64 8) r1)) fun r18=>
 .opt (F_step_work_put w i.Rd r18) fun r19=>
 .ret r19)
 (.ite (W.eq i.Op (W.of .i64 36)) (.opt (F_bits_Sext r17.1 (W.mul (W.of .i64 8) r1)) fun r20=>
 .opt (F_step_work_put w i.Rd r20) fun r21=>
 .ret r21)
 (.ite (W.eq i.Op (W.of .i64 39)) (.ite (W.ne i.Ra (W.of .i64 0)) (.ite (W.ne i.Ra i.Rd) (.opt (idx? 16 i.Ra) fun j22=>
 .opt (idx? 16 i.Ra) fun j23=>
 .opt (F_step_work_put ({ w with m:=({ w.m with A:=({ w.m.A with R:=(Arr.set w.m.A.R j22 (W.add a (W.conv (.u32) i.Imm))) }:TArch) }:TMach),ev:=({ w.ev with Rd2:=i.Ra,Val2:=(Arr.get (Arr.set w.m.A.R j22 (W.add a (W.conv (.u32) i.Imm))) j23) }:TEvent) }:TWork) i.Rd r17.1) fun r24=>
 .ret r24)
 (.opt (F_step_work_put w i.Rd r17.1) fun r25=>
 .ret r25))
 (.opt (F_step_work_put w i.Rd r17.1) fun r26=>
 .ret r26))
 (.opt (F_step_work_put w i.Rd r17.1) fun r27=>
 .ret r27)))))
def F_step_work_loads (w:TWork) (i:TInst) (a:W .u32):Option (TWork):=(T_step_work_loads w i a).eval
def F_slices_Clone_byte (s:Sl 1 (W .u8)):Option (Sl 1 (W .u8)):=some s
def B_bits_Bytes_7 (v:W .u32) (out:Sl 1 (W .u8)) (t_11 t_12:W .i64):Tree (Rnd (W .u32×Sl 1 (W .u8)×W .i64×W .i64×Unit) (Sl 1 (W .u8)×Unit)):=
 .ite (W.lt t_12 t_11) (.opt (W.shr? v (W.mul (W.of .i64 8) t_12)) fun z3=>
 .opt (idx? (List.length out.l) t_12) fun j4=>
 .ret (.next (v,(Sl.set out j4 (W.conv (.u8) z3)),t_11,(W.add t_12 (W.of .i64 1)),())))
 (.ret (.out (out,())))
def L_bits_Bytes_7 (a:W .u32×Sl 1 (W .u8)×W .i64×W .i64×Unit):Option (Sl 1 (W .u8)×Unit):=iter (fun a:W .u32×Sl 1 (W .u8)×W .i64×W .i64×Unit=>(B_bits_Bytes_7 a.1 a.2.1 a.2.2.1 a.2.2.2.1).eval) fuel a
def T_bits_Bytes (v:W .u32) (size:W .i64):Tree (Sl 1 (W .u8)):=
 .opt (F_bits_clamp size (W.of .i64 0) (W.of .i64 4)) fun r1=>
 .opt (Sl.make? 1 (W.of .u8 0) r1 r1) fun l2=>
 .opt (L_bits_Bytes_7 ((v,l2,(Sl.len l2),(W.of .i64 0),()))) fun o5=>
 .ret o5.1
def F_bits_Bytes (v:W .u32) (size:W .i64):Option (Sl 1 (W .u8)):=(T_bits_Bytes v size).eval
def T_mem_Write (m:Sl 1 (W .u8)) (addr:W .u32) (size:W .i64) (v:W .u32):Tree (Sl 1 (W .u8)×W .i64):=
 .opt (F_mem_Check m addr size) fun r1=>
 .ite (W.ne r1 (W.of .i64 0)) (.ret ((Sl.nil:Sl 1 (W .u8)),r1))
 (.opt (F_slices_Clone_byte m) fun r2=>
 .opt (nat? addr) fun n3=>
 .opt (vw? (List.length r2.l) (some n3) (none)) fun j4=>
 .opt (F_bits_Bytes v size) fun r5=>
 .ret ((Sl.copy r2 n3 r5),(W.of .i64 0)))
def F_mem_Write (m:Sl 1 (W .u8)) (addr:W .u32) (size:W .i64) (v:W .u32):Option (Sl 1 (W .u8)×W .i64):=(T_mem_Write m addr size v).eval
def T_step_work_stores (w:TWork) (pa:W .u32) (size:W .i64) (v:W .u32):Tree (TWork):=
 .opt (F_mem_Write w.m.Mem pa size v) fun r1=>
 .ite (W.eq r1.2 (W.of .i64 0)) (.opt (F_bits_Zext v (W.mul (W.of .i64 8) size)) fun r2=>
 .ret ({ w with m:=({ w.m with Mem:=r1.1 }:TMach),ev:=({ w.ev with Size:=size,Addr:=pa,Data:=r2 }:TEvent) }:TWork))
 (.opt (F_bits_Zext v (W.mul (W.of .i64 8) size)) fun r3=>
 .ret ({ w with ev:=({ w.ev with Size:=size,Addr:=pa,Data:=r3 }:TEvent) }:TWork))
def F_step_work_stores (w:TWork) (pa:W .u32) (size:W .i64) (v:W .u32):Option (TWork):=(T_step_work_stores w pa size v).eval
def T_step_work_keeps (w:TWork) (i:TInst) (a b:W .u32):Tree (TWork):=
 .opt (F_step_sizeOf i.Op) fun r1=>
 .opt (F_step_reach w.m w.m.Mem (W.add a (W.conv (.u32) i.Imm)) r1 (W.of .i64 3)) fun r2=>
 .ite (W.ne r2.2 (W.of .i64 0)) (.opt (F_step_work_fails w r2.2 (W.add a (W.conv (.u32) i.Imm))) fun r3=>
 .ret r3)
 (.opt (F_step_work_stores w r2.1 r1 b) fun r4=>
 .ret r4)
def F_step_work_keeps (w:TWork) (i:TInst) (a b:W .u32):Option (TWork):=(T_step_work_keeps w i a b).eval
def T_step_work_goes (w:TWork) (i:TInst) (a b:W .u32):Tree (TWork):=
 .ite (W.eq i.Op (W.of .i64 49)) (.opt (F_step_work_put ({ w with next_:=(W.add w.ev.PC (W.mul (W.conv (.u32) i.Imm) (W.of .u32 4))) }:TWork) i.Rd (W.add w.ev.PC (W.of .u32 4))) fun r1=>
 .ret r1)
 (.ite (W.eq i.Op (W.of .i64 50)) (.opt (F_step_work_put ({ w with next_:=(W.andNot (W.add a (W.conv (.u32) i.Imm)) (W.of .u32 3)) }:TWork) i.Rd (W.add w.ev.PC (W.of .u32 4))) fun r2=>
 .ret r2)
 (.opt (F_alu_Taken i.Op a b) fun r3=>
 .ite r3 (.ret ({ w with next_:=(W.add w.ev.PC (W.mul (W.conv (.u32) i.Imm) (W.of .u32 4))) }:TWork))
 (.ret w)))
def F_step_work_goes (w:TWork) (i:TInst) (a b:W .u32):Option (TWork):=(T_step_work_goes w i a b).eval
def T_step_work_atOnce (w:TWork) (i:TInst) (a b:W .u32):Tree (TWork):=
 .opt (F_step_reach w.m w.m.Mem a (W.of .i64 4) (W.of .i64 3)) fun r1=>
 .ite (W.ne r1.2 (W.of .i64 0)) (.opt (F_step_work_fails w r1.2 a) fun r2=>
 .ret r2)
 (.opt (F_mem_Read w.m.Mem r1.1 (W.of .i64 4)) fun r3=>
 .ite (W.eq i.Op (W.of .i64 52)) (.opt (F_step_work_stores w r1.1 (W.of .i64 4) (W.add r3.1 b)) fun r4=>
 .opt (F_step_work_put r4 i.Rd r3.1) fun r5=>
 .ret r5)
 (.ite (W.eq i.Op (W.of .i64 51)) (.opt (F_step_work_stores w r1.1 (W.of .i64 4) b) fun r6=>
 .opt (F_step_work_put r6 i.Rd r3.1) fun r7=>
 .ret r7)
 (.opt (idx? 16 i.Rd) fun j8=>
 .ite (W.eq r3.1 (Arr.get w.m.A.R j8)) (.opt (F_step_work_stores w r1.1 (W.of .i64 4) b) fun r9=>
 .opt (F_step_work_put r9 i.Rd r3.1) fun r10=>
 .ret r10)
 (.opt (F_step_work_put w i.Rd r3.1) fun r11=>
 .ret r11))))
def F_step_work_atOnce (w:TWork) (i:TInst) (a b:W .u32):Option (TWork):=(T_step_work_atOnce w i a b).eval
def T_trap_Return (a:TArch):Tree (TArch×W .i64):=
 .opt (F_csr_Kernel a) fun r1=>
 .ite (!r1) (.ret ((TArch.mk (W.of .u32 0) (Arr.rep 16 (W.of .u32 0):Arr 16 (W .u32)) (Arr.rep 12 (W.of .u32 0):Arr 12 (W .u32)) false),(W.of .i64 8)))
 (.opt (F_trap_moved (Arr.get a.C 0) (W.of .u32 4) (W.of .u32 1)) fun r2=>
 .opt (F_trap_moved r2 (W.of .u32 8) (W.of .u32 2)) fun r3=>
 .ret (({ a with C:=(Arr.set a.C 0 r3),PC:=(Arr.get (Arr.set a.C 0 r3) 3) }:TArch),(W.of .i64 0)))
def F_trap_Return (a:TArch):Option (TArch×W .i64):=(T_trap_Return a).eval
def T_csr_may (a:TArch) (n_1:W .i64) (free:Bool):Tree (W .i64):=
 .opt (F_csr_Kernel a) fun r1=>
 .ite (!r1) (.ite (!free) (.ret (W.of .i64 8))
 (.ite (W.lt n_1 (W.of .i64 0)) (.ret (W.of .i64 2))
 (.ite (W.ge n_1 (W.of .i64 12)) (.ret (W.of .i64 2))
 (.ret (W.of .i64 0)))))
 (.ite (W.lt n_1 (W.of .i64 0)) (.ret (W.of .i64 2))
 (.ite (W.ge n_1 (W.of .i64 12)) (.ret (W.of .i64 2))
 (.ret (W.of .i64 0))))
def F_csr_may (a:TArch) (n_1:W .i64) (free:Bool):Option (W .i64):=(T_csr_may a n_1 free).eval
def T_csr_Read (a:TArch) (n_1:W .i64):Tree (W .u32×W .i64):=
 .opt (F_csr_may a n_1 (W.eq n_1 (W.of .i64 7))) fun r1=>
 .ite (W.ne r1 (W.of .i64 0)) (.ret ((W.of .u32 0),r1))
 (.opt (idx? 12 n_1) fun j2=>
 .ret ((Arr.get a.C j2),(W.of .i64 0)))
def F_csr_Read (a:TArch) (n_1:W .i64):Option (W .u32×W .i64):=(T_csr_Read a n_1).eval
def T_csr_Write (a:TArch) (n_1:W .i64) (v:W .u32):Tree (TArch×W .i64):=
 .opt (F_csr_may a n_1 false) fun r1=>
 .ite (W.ne r1 (W.of .i64 0)) (.ret ((TArch.mk (W.of .u32 0) (Arr.rep 16 (W.of .u32 0):Arr 16 (W .u32)) (Arr.rep 12 (W.of .u32 0):Arr 12 (W .u32)) false),r1))
 (.opt (F_csr_Masked n_1) fun r2=>
 .opt (idx? 12 n_1) fun j3=>
 .ret (({ a with C:=(Arr.set a.C j3 (W.and v r2)) }:TArch),(W.of .i64 0)))
def F_csr_Write (a:TArch) (n_1:W .i64) (v:W .u32):Option (TArch×W .i64):=(T_csr_Write a n_1 v).eval
def T_step_work_system (w:TWork) (i:TInst) (a:W .u32):Tree (TWork):=
 .ite (W.eq i.Op (W.of .i64 54)) (.opt (F_step_work_fails w (W.of .i64 7) (W.of .u32 0)) fun r1=>
 .ret r1)
 (.ite (W.eq i.Op (W.of .i64 55)) (.opt (F_trap_Return w.m.A) fun r2=>
 .ite (W.ne r2.2 (W.of .i64 0)) (.opt (F_step_work_fails w r2.2 w.ev.Word) fun r3=>
 .ret r3)
 (.ret ({ w with m:=({ w.m with A:=r2.1 }:TMach),next_:=r2.1.PC }:TWork)))
 (.ite (W.eq i.Op (W.of .i64 56)) (.opt (F_csr_Read w.m.A i.Imm) fun r4=>
 .ite (W.ne r4.2 (W.of .i64 0)) (.opt (F_step_work_fails w r4.2 w.ev.Word) fun r5=>
 .ret r5)
 (.opt (F_step_work_put w i.Rd r4.1) fun r6=>
 .ret r6))
 (.ite (W.eq i.Op (W.of .i64 57)) (.opt (F_csr_Write w.m.A i.Imm a) fun r7=>
 .ite (W.ne r7.2 (W.of .i64 0)) (.opt (F_step_work_fails w r7.2 w.ev.Word) fun r8=>
 .ret r8)
 (.ret ({ w with m:=({ w.m with A:=r7.1 }:TMach) }:TWork)))
 (.ite (W.eq i.Op (W.of .i64 59)) (.ret ({ w with m:=({ w.m with Shadow:=w.m.Mem }:TMach) }:TWork))
 (.ite (W.eq i.Op (W.of .i64 60)) (.opt (nat? (Sl.len w.m.Out)) fun n9=>
 .opt (nat? (Sl.len w.m.Out)) fun n10=>
 .opt (Sl.sub3? w.m.Out 0 n9 n10) fun l11=>
 .opt (Sl.app? l11 (Sl.lit 4 [a] rfl:Sl 4 (W .u32))) fun l12=>
 .ret ({ w with m:=({ w.m with Out:=l12 }:TMach),ev:=({ w.ev with Data:=a }:TEvent) }:TWork))
 (.ite (W.eq i.Op (W.of .i64 61)) (.ret ({ w with m:=({ w.m with A:=({ w.m.A with Halt:=true }:TArch) }:TMach) }:TWork))
 (.ite (W.eq i.Op (W.of .i64 62)) (.ret ({ w with ev:=({ w.ev with Data:=a }:TEvent) }:TWork))
 (.ret w))))))))
def F_step_work_system (w:TWork) (i:TInst) (a:W .u32):Option (TWork):=(T_step_work_system w i a).eval
def T_step_does (m:TMach) (word:W .u32) (i:TInst):Tree (TWork):=
 .opt (idx? 16 i.Ra) fun j1=>
 .opt (idx? 16 i.Rb) fun j2=>
 .ite (W.le i.Op (W.of .i64 33)) (.opt (F_step_work_reckon (TWork.mk m (TEvent.mk m.A.PC word (W.of .i64 (-1)) (W.of .u32 0) (W.of .i64 (-1)) (W.of .u32 0) (W.of .i64 0) (W.of .u32 0) (W.of .u32 0) (W.of .i64 0) (W.of .u32 0) (W.of .u32 0)) (W.add m.A.PC (W.of .u32 4)) (W.of .i64 0) (W.of .u32 0)) i (Arr.get m.A.R j1) (Arr.get m.A.R j2)) fun r3=>
 .ret r3)
 (.ite (W.le i.Op (W.of .i64 39)) (.opt (F_step_work_loads (TWork.mk m (TEvent.mk m.A.PC word (W.of .i64 (-1)) (W.of .u32 0) (W.of .i64 (-1)) (W.of .u32 0) (W.of .i64 0) (W.of .u32 0) (W.of .u32 0) (W.of .i64 0) (W.of .u32 0) (W.of .u32 0)) (W.add m.A.PC (W.of .u32 4)) (W.of .i64 0) (W.of .u32 0)) i (Arr.get m.A.R j1)) fun r4=>
 .ret r4)
 (.ite (W.le i.Op (W.of .i64 42)) (.opt (F_step_work_keeps (TWork.mk m (TEvent.mk m.A.PC word (W.of .i64 (-1)) (W.of .u32 0) (W.of .i64 (-1)) (W.of .u32 0) (W.of .i64 0) (W.of .u32 0) (W.of .u32 0) (W.of .i64 0) (W.of .u32 0) (W.of .u32 0)) (W.add m.A.PC (W.of .u32 4)) (W.of .i64 0) (W.of .u32 0)) i (Arr.get m.A.R j1) (Arr.get m.A.R j2)) fun r5=>
 .ret r5)
 (.ite (W.le i.Op (W.of .i64 50)) (.opt (F_step_work_goes (TWork.mk m (TEvent.mk m.A.PC word (W.of .i64 (-1)) (W.of .u32 0) (W.of .i64 (-1)) (W.of .u32 0) (W.of .i64 0) (W.of .u32 0) (W.of .u32 0) (W.of .i64 0) (W.of .u32 0) (W.of .u32 0)) (W.add m.A.PC (W.of .u32 4)) (W.of .i64 0) (W.of .u32 0)) i (Arr.get m.A.R j1) (Arr.get m.A.R j2)) fun r6=>
 .ret r6)
 (.ite (W.le i.Op (W.of .i64 53)) (.opt (F_step_work_atOnce (TWork.mk m (TEvent.mk m.A.PC word (W.of .i64 (-1)) (W.of .u32 0) (W.of .i64 (-1)) (W.of .u32 0) (W.of .i64 0) (W.of .u32 0) (W.of .u32 0) (W.of .i64 0) (W.of .u32 0) (W.of .u32 0)) (W.add m.A.PC (W.of .u32 4)) (W.of .i64 0) (W.of .u32 0)) i (Arr.get m.A.R j1) (Arr.get m.A.R j2)) fun r7=>
 .ret r7)
 (.opt (F_step_work_system (TWork.mk m (TEvent.mk m.A.PC word (W.of .i64 (-1)) (W.of .u32 0) (W.of .i64 (-1)) (W.of .u32 0) (W.of .i64 0) (W.of .u32 0) (W.of .u32 0) (W.of .i64 0) (W.of .u32 0) (W.of .u32 0)) (W.add m.A.PC (W.of .u32 4)) (W.of .i64 0) (W.of .u32 0)) i (Arr.get m.A.R j1)) fun r8=>
 .ret r8)))))
def F_step_does (m:TMach) (word:W .u32) (i:TInst):Option (TWork):=(T_step_does m word i).eval
def T_csr_Count (a:TArch):Tree (TArch):=
 .ite (W.ne (Arr.get (Arr.set a.C 7 (W.add (Arr.get a.C 7) (W.of .u32 1))) 8) (W.of .u32 0)) (.ite (W.ge (Arr.get (Arr.set a.C 7 (W.add (Arr.get a.C 7) (W.of .u32 1))) 7) (Arr.get (Arr.set a.C 7 (W.add (Arr.get a.C 7) (W.of .u32 1))) 8)) (.ret ({ a with C:=(Arr.set (Arr.set a.C 7 (W.add (Arr.get a.C 7) (W.of .u32 1))) 10 (W.or (Arr.get (Arr.set a.C 7 (W.add (Arr.get a.C 7) (W.of .u32 1))) 10) (W.of .u32 4))) }:TArch))
 (.ret ({ a with C:=(Arr.set a.C 7 (W.add (Arr.get a.C 7) (W.of .u32 1))) }:TArch)))
 (.ret ({ a with C:=(Arr.set a.C 7 (W.add (Arr.get a.C 7) (W.of .u32 1))) }:TArch))
def F_csr_Count (a:TArch):Option (TArch):=(T_csr_Count a).eval
def T_trap_Single (a:TArch):Tree (Bool):=
 .opt (F_csr_Kernel a) fun r1=>
 .ite (!r1) (.ret (W.ne (W.and (Arr.get a.C 0) (W.of .u32 32)) (W.of .u32 0)))
 (.ret false)
def F_trap_Single (a:TArch):Option (Bool):=(T_trap_Single a).eval
def T_step_Step (m:TMach):Tree (TMach×TEvent×Bool):=
 .ite m.A.Halt (.ret (m,(TEvent.mk (W.of .u32 0) (W.of .u32 0) (W.of .i64 0) (W.of .u32 0) (W.of .i64 0) (W.of .u32 0) (W.of .i64 0) (W.of .u32 0) (W.of .u32 0) (W.of .i64 0) (W.of .u32 0) (W.of .u32 0)),false))
 (.opt (F_trap_Pending m.A) fun r1=>
 .ite (W.ne r1 (W.of .i64 0)) (.opt (F_step_traps m (W.of .u32 0) r1 (W.of .u32 0)) fun r2=>
 .ret (r2.1,r2.2.1,r2.2.2))
 (.opt (F_trap_Stops m.A m.A.PC) fun r3=>
 .ite r3 (.opt (F_step_traps m (W.of .u32 0) (W.of .i64 3) m.A.PC) fun r4=>
 .ret (r4.1,r4.2.1,r4.2.2))
 (.opt (F_step_Fetch m) fun r5=>
 .ite (W.ne r5.2 (W.of .i64 0)) (.opt (F_step_traps m (W.of .u32 0) r5.2 m.A.PC) fun r6=>
 .ret (r6.1,r6.2.1,r6.2.2))
 (.opt (F_inst_Dec r5.1) fun r7=>
 .ite (W.ne r7.2 (W.of .i64 0)) (.opt (F_step_traps m r5.1 (W.of .i64 2) r5.1) fun r8=>
 .ret (r8.1,r8.2.1,r8.2.2))
 (.opt (F_inst_Priv r7.1.Op) fun r9=>
 .ite r9 (.opt (F_csr_Kernel m.A) fun r10=>
 .ite (!r10) (.opt (F_step_traps m r5.1 (W.of .i64 8) r5.1) fun r11=>
 .ret (r11.1,r11.2.1,r11.2.2))
 (.opt (F_step_does m r5.1 r7.1) fun r12=>
 .ite (W.ne r12.cause (W.of .i64 0)) (.opt (F_step_traps m r5.1 r12.cause r12.val) fun r13=>
 .ret (r13.1,r13.2.1,r13.2.2))
 (.opt (F_csr_Count ({ r12.m.A with PC:=r12.next_ }:TArch)) fun r14=>
 .opt (F_trap_Single m.A) fun r15=>
 .ite r15 (.ite (!r14.Halt) (.opt (F_trap_Take r14 (W.of .i64 10) (W.of .u32 0) r12.next_) fun r16=>
 .ret (({ r12.m with A:=r16 }:TMach),({ r12.ev with Cause:=(W.of .i64 10),Next:=r16.PC }:TEvent),true))
 (.ret (({ r12.m with A:=r14 }:TMach),({ r12.ev with Next:=r14.PC }:TEvent),true)))
 (.ret (({ r12.m with A:=r14 }:TMach),({ r12.ev with Next:=r14.PC }:TEvent),true)))))
 (.opt (F_step_does m r5.1 r7.1) fun r17=>
 .ite (W.ne r17.cause (W.of .i64 0)) (.opt (F_step_traps m r5.1 r17.cause r17.val) fun r18=>
 .ret (r18.1,r18.2.1,r18.2.2))
 (.opt (F_csr_Count ({ r17.m.A with PC:=r17.next_ }:TArch)) fun r19=>
 .opt (F_trap_Single m.A) fun r20=>
 .ite r20 (.ite (!r19.Halt) (.opt (F_trap_Take r19 (W.of .i64 10) (W.of .u32 0) r17.next_) fun r21=>
 .ret (({ r17.m with A:=r21 }:TMach),({ r17.ev with Cause:=(W.of .i64 10),Next:=r21.PC }:TEvent),true))
 (.ret (({ r17.m with A:=r19 }:TMach),({ r17.ev with Next:=r19.PC }:TEvent),true)))
 (.ret (({ r17.m with A:=r19 }:TMach),({ r17.ev with Next:=r19.PC }:TEvent),true)))))))))
def F_step_Step (m:TMach):Option (TMach×TEvent×Bool):=(T_step_Step m).eval
def B_law32_ExecPlain_33 (regs:Arr 16 (W .u32)) (m:TMach) (l_13:Sl 168 (TUop)) (in_14:Arr 3 (W .u32)) (k:W .i64):Tree (Rnd (Arr 16 (W .u32)×TMach×Sl 168 (TUop)×Arr 3 (W .u32)×W .i64×Unit) (TMach×Sl 168 (TUop)×Arr 3 (W .u32)×Unit)):=
 .ite (W.lt k (W.of .i64 3)) (.opt (Sl.get? l_13 (W.of .i64 0)) fun y8=>
 .opt (idx? 3 k) fun j9=>
 .ite (W.gt (Arr.get y8.Src j9) (W.of .i64 0)) (.opt (Sl.get? l_13 (W.of .i64 0)) fun y10=>
 .opt (idx? 3 k) fun j11=>
 .ite (W.lt (Arr.get y10.Src j11) (W.of .i64 16)) (.opt (Sl.get? l_13 (W.of .i64 0)) fun y12=>
 .opt (idx? 3 k) fun j13=>
 .opt (idx? 16 (Arr.get y12.Src j13)) fun j14=>
 .opt (idx? 3 k) fun j15=>
 .ret (.next (regs,m,l_13,(Arr.set in_14 j15 (Arr.get regs j14)),(W.add k (W.of .i64 1)),())))
 (.ret (.next (regs,m,l_13,in_14,(W.add k (W.of .i64 1)),()))))
 (.ret (.next (regs,m,l_13,in_14,(W.add k (W.of .i64 1)),()))))
 (.ret (.out (m,l_13,in_14,())))
def L_law32_ExecPlain_33 (a:Arr 16 (W .u32)×TMach×Sl 168 (TUop)×Arr 3 (W .u32)×W .i64×Unit):Option (TMach×Sl 168 (TUop)×Arr 3 (W .u32)×Unit):=iter (fun a:Arr 16 (W .u32)×TMach×Sl 168 (TUop)×Arr 3 (W .u32)×W .i64×Unit=>(B_law32_ExecPlain_33 a.1 a.2.1 a.2.2.1 a.2.2.2.1 a.2.2.2.2.1).eval) fuel a
def T_law32_ExecPlain (i:TInst) (regs:Arr 16 (W .u32)) (at_2:W .u8):Tree (Bool):=
 .opt (F_inst_Enc i) fun r1=>
 .opt (F_crack_Unit i.Op) fun r2=>
 .ite (W.ne r1.2 (W.of .i64 0)) (.opt (F_law32_awake) fun r3=>
 .ret r3)
 (.ite (W.ne r2 (W.of .i64 1)) (.ite (W.ne r2 (W.of .i64 2)) (.ite (W.ne r2 (W.of .i64 3)) (.ite (W.ne r2 (W.of .i64 4)) (.opt (F_law32_awake) fun r4=>
 .ret r4)
 (.opt (F_law32_word r1.1) fun r5=>
 .opt (F_step_New (TImage.mk (W.mul (W.conv (.u32) (W.rem at_2 (W.of .u8 16))) (W.of .u32 4)) (Sl.lit 32 [(TSeg.mk (W.mul (W.conv (.u32) (W.rem at_2 (W.of .u8 16))) (W.of .u32 4)) r5)] rfl:Sl 32 (TSeg))) (W.of .i64 64)) fun r6=>
 .opt (F_crack_Uops (TSlot.mk (W.mul (W.conv (.u32) (W.rem at_2 (W.of .u8 16))) (W.of .u32 4)) r1.1 (W.of .i64 0) (W.of .u32 0) (TGuess.mk false (W.of .u32 0) (TSave.mk (W.of .u32 0) (W.of .i64 0) (W.of .u32 0))))) fun r7=>
 .ite (W.ne r6.2 (W.of .i64 0)) (.ret false)
 (.ite (W.ne (Sl.len r7) (W.of .i64 1)) (.ret false)
 (.opt (L_law32_ExecPlain_33 (((Arr.set regs 0 (W.of .u32 0)),({ r6.1 with A:=({ r6.1.A with R:=(Arr.set regs 0 (W.of .u32 0)) }:TArch) }:TMach),r7,(Arr.lit 3 [(W.of .u32 0),(W.of .u32 0),(W.of .u32 0)] rfl:Arr 3 (W .u32)),(W.of .i64 0),()))) fun o16=>
 .opt (Sl.get? o16.2.1 (W.of .i64 0)) fun y17=>
 .opt (F_exec_Do y17 o16.2.2.1) fun r18=>
 .opt (F_step_Step o16.1) fun r19=>
 .ite (!r19.2.2) (.ret false)
 (.ite (W.ne r18.2.2.1 (W.of .i64 0)) (.ret false)
 (.ite (W.ne r19.2.1.Cause (W.of .i64 0)) (.ret false)
 (.ite (W.ne r19.1.A.PC r18.2.1) (.ret false)
 (.opt (Sl.get? o16.2.1 (W.of .i64 0)) fun y20=>
 .ite (W.gt y20.Dst (W.of .i64 0)) (.opt (Sl.get? o16.2.1 (W.of .i64 0)) fun y21=>
 .ite (W.ge y21.Dst (W.of .i64 16)) (.ret false)
 (.opt (Sl.get? o16.2.1 (W.of .i64 0)) fun y22=>
 .opt (idx? 16 y22.Dst) fun j23=>
 .ite (W.ne (Arr.get r19.1.A.R j23) r18.1) (.ret false)
 (.opt (Sl.get? o16.2.1 (W.of .i64 0)) fun y24=>
 .ite (beqB (W.gt y24.Dst (W.of .i64 0)) (W.gt r19.2.1.Rd (W.of .i64 0))) (.opt (F_law32_awake) fun r25=>
 .ret r25)
 (.ret false))))
 (.opt (Sl.get? o16.2.1 (W.of .i64 0)) fun y26=>
 .ite (beqB (W.gt y26.Dst (W.of .i64 0)) (W.gt r19.2.1.Rd (W.of .i64 0))) (.opt (F_law32_awake) fun r27=>
 .ret r27)
 (.ret false))))))))))
 (.opt (F_law32_word r1.1) fun r28=>
 .opt (F_step_New (TImage.mk (W.mul (W.conv (.u32) (W.rem at_2 (W.of .u8 16))) (W.of .u32 4)) (Sl.lit 32 [(TSeg.mk (W.mul (W.conv (.u32) (W.rem at_2 (W.of .u8 16))) (W.of .u32 4)) r28)] rfl:Sl 32 (TSeg))) (W.of .i64 64)) fun r29=>
 .opt (F_crack_Uops (TSlot.mk (W.mul (W.conv (.u32) (W.rem at_2 (W.of .u8 16))) (W.of .u32 4)) r1.1 (W.of .i64 0) (W.of .u32 0) (TGuess.mk false (W.of .u32 0) (TSave.mk (W.of .u32 0) (W.of .i64 0) (W.of .u32 0))))) fun r30=>
 .ite (W.ne r29.2 (W.of .i64 0)) (.ret false)
 (.ite (W.ne (Sl.len r30) (W.of .i64 1)) (.ret false)
 (.opt (L_law32_ExecPlain_33 (((Arr.set regs 0 (W.of .u32 0)),({ r29.1 with A:=({ r29.1.A with R:=(Arr.set regs 0 (W.of .u32 0)) }:TArch) }:TMach),r30,(Arr.lit 3 [(W.of .u32 0),(W.of .u32 0),(W.of .u32 0)] rfl:Arr 3 (W .u32)),(W.of .i64 0),()))) fun o31=>
 .opt (Sl.get? o31.2.1 (W.of .i64 0)) fun y32=>
 .opt (F_exec_Do y32 o31.2.2.1) fun r33=>
 .opt (F_step_Step o31.1) fun r34=>
 .ite (!r34.2.2) (.ret false)
 (.ite (W.ne r33.2.2.1 (W.of .i64 0)) (.ret false)
 (.ite (W.ne r34.2.1.Cause (W.of .i64 0)) (.ret false)
 (.ite (W.ne r34.1.A.PC r33.2.1) (.ret false)
 (.opt (Sl.get? o31.2.1 (W.of .i64 0)) fun y35=>
 .ite (W.gt y35.Dst (W.of .i64 0)) (.opt (Sl.get? o31.2.1 (W.of .i64 0)) fun y36=>
 .ite (W.ge y36.Dst (W.of .i64 16)) (.ret false)
 (.opt (Sl.get? o31.2.1 (W.of .i64 0)) fun y37=>
 .opt (idx? 16 y37.Dst) fun j38=>
 .ite (W.ne (Arr.get r34.1.A.R j38) r33.1) (.ret false)
 (.opt (Sl.get? o31.2.1 (W.of .i64 0)) fun y39=>
 .ite (beqB (W.gt y39.Dst (W.of .i64 0)) (W.gt r34.2.1.Rd (W.of .i64 0))) (.opt (F_law32_awake) fun r40=>
 .ret r40)
 (.ret false))))
 (.opt (Sl.get? o31.2.1 (W.of .i64 0)) fun y41=>
 .ite (beqB (W.gt y41.Dst (W.of .i64 0)) (W.gt r34.2.1.Rd (W.of .i64 0))) (.opt (F_law32_awake) fun r42=>
 .ret r42)
 (.ret false))))))))))
 (.opt (F_law32_word r1.1) fun r43=>
 .opt (F_step_New (TImage.mk (W.mul (W.conv (.u32) (W.rem at_2 (W.of .u8 16))) (W.of .u32 4)) (Sl.lit 32 [(TSeg.mk (W.mul (W.conv (.u32) (W.rem at_2 (W.of .u8 16))) (W.of .u32 4)) r43)] rfl:Sl 32 (TSeg))) (W.of .i64 64)) fun r44=>
 .opt (F_crack_Uops (TSlot.mk (W.mul (W.conv (.u32) (W.rem at_2 (W.of .u8 16))) (W.of .u32 4)) r1.1 (W.of .i64 0) (W.of .u32 0) (TGuess.mk false (W.of .u32 0) (TSave.mk (W.of .u32 0) (W.of .i64 0) (W.of .u32 0))))) fun r45=>
 .ite (W.ne r44.2 (W.of .i64 0)) (.ret false)
 (.ite (W.ne (Sl.len r45) (W.of .i64 1)) (.ret false)
 (.opt (L_law32_ExecPlain_33 (((Arr.set regs 0 (W.of .u32 0)),({ r44.1 with A:=({ r44.1.A with R:=(Arr.set regs 0 (W.of .u32 0)) }:TArch) }:TMach),r45,(Arr.lit 3 [(W.of .u32 0),(W.of .u32 0),(W.of .u32 0)] rfl:Arr 3 (W .u32)),(W.of .i64 0),()))) fun o46=>
 .opt (Sl.get? o46.2.1 (W.of .i64 0)) fun y47=>
 .opt (F_exec_Do y47 o46.2.2.1) fun r48=>
 .opt (F_step_Step o46.1) fun r49=>
 .ite (!r49.2.2) (.ret false)
 (.ite (W.ne r48.2.2.1 (W.of .i64 0)) (.ret false)
 (.ite (W.ne r49.2.1.Cause (W.of .i64 0)) (.ret false)
 (.ite (W.ne r49.1.A.PC r48.2.1) (.ret false)
 (.opt (Sl.get? o46.2.1 (W.of .i64 0)) fun y50=>
 .ite (W.gt y50.Dst (W.of .i64 0)) (.opt (Sl.get? o46.2.1 (W.of .i64 0)) fun y51=>
 .ite (W.ge y51.Dst (W.of .i64 16)) (.ret false)
 (.opt (Sl.get? o46.2.1 (W.of .i64 0)) fun y52=>
 .opt (idx? 16 y52.Dst) fun j53=>
 .ite (W.ne (Arr.get r49.1.A.R j53) r48.1) (.ret false)
 (.opt (Sl.get? o46.2.1 (W.of .i64 0)) fun y54=>
 .ite (beqB (W.gt y54.Dst (W.of .i64 0)) (W.gt r49.2.1.Rd (W.of .i64 0))) (.opt (F_law32_awake) fun r55=>
 .ret r55)
 (.ret false))))
 (.opt (Sl.get? o46.2.1 (W.of .i64 0)) fun y56=>
 .ite (beqB (W.gt y56.Dst (W.of .i64 0)) (W.gt r49.2.1.Rd (W.of .i64 0))) (.opt (F_law32_awake) fun r57=>
 .ret r57)
 (.ret false))))))))))
 (.opt (F_law32_word r1.1) fun r58=>
 .opt (F_step_New (TImage.mk (W.mul (W.conv (.u32) (W.rem at_2 (W.of .u8 16))) (W.of .u32 4)) (Sl.lit 32 [(TSeg.mk (W.mul (W.conv (.u32) (W.rem at_2 (W.of .u8 16))) (W.of .u32 4)) r58)] rfl:Sl 32 (TSeg))) (W.of .i64 64)) fun r59=>
 .opt (F_crack_Uops (TSlot.mk (W.mul (W.conv (.u32) (W.rem at_2 (W.of .u8 16))) (W.of .u32 4)) r1.1 (W.of .i64 0) (W.of .u32 0) (TGuess.mk false (W.of .u32 0) (TSave.mk (W.of .u32 0) (W.of .i64 0) (W.of .u32 0))))) fun r60=>
 .ite (W.ne r59.2 (W.of .i64 0)) (.ret false)
 (.ite (W.ne (Sl.len r60) (W.of .i64 1)) (.ret false)
 (.opt (L_law32_ExecPlain_33 (((Arr.set regs 0 (W.of .u32 0)),({ r59.1 with A:=({ r59.1.A with R:=(Arr.set regs 0 (W.of .u32 0)) }:TArch) }:TMach),r60,(Arr.lit 3 [(W.of .u32 0),(W.of .u32 0),(W.of .u32 0)] rfl:Arr 3 (W .u32)),(W.of .i64 0),()))) fun o61=>
 .opt (Sl.get? o61.2.1 (W.of .i64 0)) fun y62=>
 .opt (F_exec_Do y62 o61.2.2.1) fun r63=>
 .opt (F_step_Step o61.1) fun r64=>
 .ite (!r64.2.2) (.ret false)
 (.ite (W.ne r63.2.2.1 (W.of .i64 0)) (.ret false)
 (.ite (W.ne r64.2.1.Cause (W.of .i64 0)) (.ret false)
 (.ite (W.ne r64.1.A.PC r63.2.1) (.ret false)
 (.opt (Sl.get? o61.2.1 (W.of .i64 0)) fun y65=>
 .ite (W.gt y65.Dst (W.of .i64 0)) (.opt (Sl.get? o61.2.1 (W.of .i64 0)) fun y66=>
 .ite (W.ge y66.Dst (W.of .i64 16)) (.ret false)
 (.opt (Sl.get? o61.2.1 (W.of .i64 0)) fun y67=>
 .opt (idx? 16 y67.Dst) fun j68=>
 .ite (W.ne (Arr.get r64.1.A.R j68) r63.1) (.ret false)
 (.opt (Sl.get? o61.2.1 (W.of .i64 0)) fun y69=>
 .ite (beqB (W.gt y69.Dst (W.of .i64 0)) (W.gt r64.2.1.Rd (W.of .i64 0))) (.opt (F_law32_awake) fun r70=>
 .ret r70)
 (.ret false))))
 (.opt (Sl.get? o61.2.1 (W.of .i64 0)) fun y71=>
 .ite (beqB (W.gt y71.Dst (W.of .i64 0)) (W.gt r64.2.1.Rd (W.of .i64 0))) (.opt (F_law32_awake) fun r72=>
 .ret r72)
 (.ret false))))))))))
def F_law32_ExecPlain (i:TInst) (regs:Arr 16 (W .u32)) (at_2:W .u8):Option (Bool):=(T_law32_ExecPlain i regs at_2).eval
end
end Go.Proofs.YtijckobfnmkjdaaGreatDoor
