/- YtkddkpmijhionaaGreatDoorTrees2: the document's functions as decision trees: plain definitions, of no function of this seat's program. No statement of the seat is proved here. -/
import Derived.Test.YtkddkpmijhionaaGreatDoorTrees
set_option linter.unusedSimpArgs false
set_option linter.unusedVariables false
set_option maxRecDepth 100000
namespace Go.Proofs.YtkddkpmijhionaaGreatDoor
open Go Go.A2
noncomputable section
def T_ref24_none (s:TSlot):Tree (TUop):=
 .ret (TUop.mk (TInst.mk (W.of .i64 0) (W.of .i64 0) (W.of .i64 0) (W.of .i64 0) (W.of .i64 0)) s (W.of .i64 7) (W.of .i64 0) true (Arr.lit 3 [(W.of .i64 (-1)),(W.of .i64 (-1)),(W.of .i64 (-1))] rfl:Arr 3 (W .i64)) (W.of .i64 (-1)) (W.of .i64 0) (W.of .u32 0))
def F_ref24_none (s:TSlot):Option (TUop):=(T_ref24_none s).eval
def B_ref06_Form_3 (op:W .i64) (t_3:Bool):Tree (W .i64×Bool×Unit):=
 .ite t_3 (.ret (op,true,()))
 (.ret (op,(W.eq op (W.of .i64 24)),()))
def L_ref06_Form_3 (a:W .i64×Bool×Unit):Option (W .i64×Bool×Unit):=(B_ref06_Form_3 a.1 a.2.1).eval
def B_ref06_Form_15 (op:W .i64) (t_19:Bool):Tree (W .i64×Bool×Unit):=
 .ite t_19 (.ret (op,true,()))
 (.ret (op,(W.eq op (W.of .i64 50)),()))
def L_ref06_Form_15 (a:W .i64×Bool×Unit):Option (W .i64×Bool×Unit):=(B_ref06_Form_15 a.1 a.2.1).eval
def B_ref06_Form_13 (op:W .i64) (t_19:Bool):Tree (W .i64×Bool×Unit):=
 .ite t_19 (.ret (op,true,()))
 (.ite (W.ge op (W.of .i64 34)) (.opt (L_ref06_Form_15 ((op,(W.le op (W.of .i64 39)),()))) fun o2=>
 .ret (o2.1,o2.2.1,()))
 (.opt (L_ref06_Form_15 ((op,false,()))) fun o3=>
 .ret (o3.1,o3.2.1,())))
def L_ref06_Form_13 (a:W .i64×Bool×Unit):Option (W .i64×Bool×Unit):=(B_ref06_Form_13 a.1 a.2.1).eval
def B_ref06_Form_63 (t_71:Bool):Tree ((W .i64×Unit)⊕(Unit×Unit)):=
 .ite t_71 (.ret (.inl ((W.of .i64 10),())))
 (.ret (.inr ((),())))
def L_ref06_Form_63 (a:Bool×Unit):Option ((W .i64×Unit)⊕(Unit×Unit)):=(B_ref06_Form_63 a.1).eval
def B_ref06_Form_49 (op:W .i64) (t_66:Bool):Tree ((W .i64×Unit)⊕(Unit×Unit)):=
 .ite t_66 (.ret (.inl ((W.of .i64 9),())))
 (.ite (W.eq op (W.of .i64 54)) (.opt (L_ref06_Form_63 ((true,()))) fun o5=>
 .sum o5 (fun p6=>
 .ret (.inl (p6.1,())))
 (fun o7=>
 .ret (.inr ((),()))))
 (.ite (W.eq op (W.of .i64 55)) (.opt (L_ref06_Form_63 ((true,()))) fun o8=>
 .sum o8 (fun p9=>
 .ret (.inl (p9.1,())))
 (fun o10=>
 .ret (.inr ((),()))))
 (.ite (W.eq op (W.of .i64 58)) (.opt (L_ref06_Form_63 ((true,()))) fun o11=>
 .sum o11 (fun p12=>
 .ret (.inl (p12.1,())))
 (fun o13=>
 .ret (.inr ((),()))))
 (.ite (W.eq op (W.of .i64 59)) (.opt (L_ref06_Form_63 ((true,()))) fun o14=>
 .sum o14 (fun p15=>
 .ret (.inl (p15.1,())))
 (fun o16=>
 .ret (.inr ((),()))))
 (.ite (W.eq op (W.of .i64 61)) (.opt (L_ref06_Form_63 ((true,()))) fun o17=>
 .sum o17 (fun p18=>
 .ret (.inl (p18.1,())))
 (fun o19=>
 .ret (.inr ((),()))))
 (.opt (L_ref06_Form_63 (((W.eq op (W.of .i64 63)),()))) fun o20=>
 .sum o20 (fun p21=>
 .ret (.inl (p21.1,())))
 (fun o22=>
 .ret (.inr ((),())))))))))
def L_ref06_Form_49 (a:W .i64×Bool×Unit):Option ((W .i64×Unit)⊕(Unit×Unit)):=(B_ref06_Form_49 a.1 a.2.1).eval
def B_ref06_Form_35 (op:W .i64) (t_53:Bool):Tree ((W .i64×Unit)⊕(Unit×Unit)):=
 .ite t_53 (.ret (.inl ((W.of .i64 6),())))
 (.ite (W.eq op (W.of .i64 56)) (.ret (.inl ((W.of .i64 7),())))
 (.ite (W.eq op (W.of .i64 57)) (.ret (.inl ((W.of .i64 8),())))
 (.ite (W.eq op (W.of .i64 60)) (.opt (L_ref06_Form_49 ((op,true,()))) fun o23=>
 .sum o23 (fun p24=>
 .ret (.inl (p24.1,())))
 (fun o25=>
 .ret (.inr ((),()))))
 (.opt (L_ref06_Form_49 ((op,(W.eq op (W.of .i64 62)),()))) fun o26=>
 .sum o26 (fun p27=>
 .ret (.inl (p27.1,())))
 (fun o28=>
 .ret (.inr ((),())))))))
def L_ref06_Form_35 (a:W .i64×Bool×Unit):Option ((W .i64×Unit)⊕(Unit×Unit)):=(B_ref06_Form_35 a.1 a.2.1).eval
def B_ref06_Form_31 (op:W .i64) (t_46:Bool):Tree ((W .i64×Unit)⊕(Unit×Unit)):=
 .ite t_46 (.ret (.inl ((W.of .i64 4),())))
 (.ite (W.ge op (W.of .i64 51)) (.opt (L_ref06_Form_35 ((op,(W.le op (W.of .i64 53)),()))) fun o29=>
 .sum o29 (fun p30=>
 .ret (.inl (p30.1,())))
 (fun o31=>
 .ret (.inr ((),()))))
 (.opt (L_ref06_Form_35 ((op,false,()))) fun o32=>
 .sum o32 (fun p33=>
 .ret (.inl (p33.1,())))
 (fun o34=>
 .ret (.inr ((),())))))
def L_ref06_Form_31 (a:W .i64×Bool×Unit):Option ((W .i64×Unit)⊕(Unit×Unit)):=(B_ref06_Form_31 a.1 a.2.1).eval
def B_ref06_Form_27 (op:W .i64) (t_39:Bool):Tree ((W .i64×Unit)⊕(Unit×Unit)):=
 .ite t_39 (.ret (.inl ((W.of .i64 3),())))
 (.ite (W.ge op (W.of .i64 43)) (.opt (L_ref06_Form_31 ((op,(W.le op (W.of .i64 48)),()))) fun o35=>
 .sum o35 (fun p36=>
 .ret (.inl (p36.1,())))
 (fun o37=>
 .ret (.inr ((),()))))
 (.opt (L_ref06_Form_31 ((op,false,()))) fun o38=>
 .sum o38 (fun p39=>
 .ret (.inl (p39.1,())))
 (fun o40=>
 .ret (.inr ((),())))))
def L_ref06_Form_27 (a:W .i64×Bool×Unit):Option ((W .i64×Unit)⊕(Unit×Unit)):=(B_ref06_Form_27 a.1 a.2.1).eval
def B_ref06_Form_23 (op:W .i64) (t_34:Bool):Tree ((W .i64×Unit)⊕(Unit×Unit)):=
 .ite t_34 (.ret (.inl ((W.of .i64 5),())))
 (.ite (W.ge op (W.of .i64 40)) (.opt (L_ref06_Form_27 ((op,(W.le op (W.of .i64 42)),()))) fun o41=>
 .sum o41 (fun p42=>
 .ret (.inl (p42.1,())))
 (fun o43=>
 .ret (.inr ((),()))))
 (.opt (L_ref06_Form_27 ((op,false,()))) fun o44=>
 .sum o44 (fun p45=>
 .ret (.inl (p45.1,())))
 (fun o46=>
 .ret (.inr ((),())))))
def L_ref06_Form_23 (a:W .i64×Bool×Unit):Option ((W .i64×Unit)⊕(Unit×Unit)):=(B_ref06_Form_23 a.1 a.2.1).eval
def B_ref06_Form_17 (op:W .i64) (t_19:Bool):Tree ((W .i64×Unit)⊕(Unit×Unit)):=
 .ite t_19 (.ret (.inl ((W.of .i64 2),())))
 (.ite (W.eq op (W.of .i64 33)) (.opt (L_ref06_Form_23 ((op,true,()))) fun o47=>
 .sum o47 (fun p48=>
 .ret (.inl (p48.1,())))
 (fun o49=>
 .ret (.inr ((),()))))
 (.opt (L_ref06_Form_23 ((op,(W.eq op (W.of .i64 49)),()))) fun o50=>
 .sum o50 (fun p51=>
 .ret (.inl (p51.1,())))
 (fun o52=>
 .ret (.inr ((),())))))
def L_ref06_Form_17 (a:W .i64×Bool×Unit):Option ((W .i64×Unit)⊕(Unit×Unit)):=(B_ref06_Form_17 a.1 a.2.1).eval
def B_ref06_Form_9 (op:W .i64) (t_12:Bool):Tree ((W .i64×Unit)⊕(Unit×Unit)):=
 .ite t_12 (.ret (.inl ((W.of .i64 11),())))
 (.ite (W.ge op (W.of .i64 25)) (.opt (L_ref06_Form_13 ((op,(W.le op (W.of .i64 32)),()))) fun o4=>
 .opt (L_ref06_Form_17 ((o4.1,o4.2.1,()))) fun o53=>
 .sum o53 (fun p54=>
 .ret (.inl (p54.1,())))
 (fun o55=>
 .ret (.inr ((),()))))
 (.opt (L_ref06_Form_13 ((op,false,()))) fun o56=>
 .opt (L_ref06_Form_17 ((o56.1,o56.2.1,()))) fun o57=>
 .sum o57 (fun p58=>
 .ret (.inl (p58.1,())))
 (fun o59=>
 .ret (.inr ((),())))))
def L_ref06_Form_9 (a:W .i64×Bool×Unit):Option ((W .i64×Unit)⊕(Unit×Unit)):=(B_ref06_Form_9 a.1 a.2.1).eval
def B_ref06_Form_5 (op:W .i64) (t_3:Bool):Tree ((W .i64×Unit)⊕(Unit×Unit)):=
 .ite t_3 (.ret (.inl ((W.of .i64 1),())))
 (.ite (W.ge op (W.of .i64 21)) (.opt (L_ref06_Form_9 ((op,(W.le op (W.of .i64 23)),()))) fun o60=>
 .sum o60 (fun p61=>
 .ret (.inl (p61.1,())))
 (fun o62=>
 .ret (.inr ((),()))))
 (.opt (L_ref06_Form_9 ((op,false,()))) fun o63=>
 .sum o63 (fun p64=>
 .ret (.inl (p64.1,())))
 (fun o65=>
 .ret (.inr ((),())))))
def L_ref06_Form_5 (a:W .i64×Bool×Unit):Option ((W .i64×Unit)⊕(Unit×Unit)):=(B_ref06_Form_5 a.1 a.2.1).eval
def B_ref06_Form_67 :Tree (W .i64×Unit):=
 .ret ((W.of .i64 0),())
def L_ref06_Form_67 (a:Unit):Option (W .i64×Unit):=(B_ref06_Form_67).eval
def T_ref06_Form (op:W .i64):Tree (W .i64):=
 .ite (W.ge op (W.of .i64 1)) (.opt (L_ref06_Form_3 ((op,(W.le op (W.of .i64 20)),()))) fun o1=>
 .opt (L_ref06_Form_5 ((o1.1,o1.2.1,()))) fun o66=>
 .sum o66 (fun p67=>
 .ret p67.1)
 (fun o68=>
 .opt (L_ref06_Form_67 (())) fun o69=>
 .ret o69.1))
 (.opt (L_ref06_Form_3 ((op,false,()))) fun o70=>
 .opt (L_ref06_Form_5 ((o70.1,o70.2.1,()))) fun o71=>
 .sum o71 (fun p72=>
 .ret p72.1)
 (fun o73=>
 .opt (L_ref06_Form_67 (())) fun o74=>
 .ret o74.1))
def F_ref06_Form (op:W .i64):Option (W .i64):=(T_ref06_Form op).eval
def T_ref06_Has (form field:W .i64):Tree (Bool):=
 .ite (W.eq field (W.of .i64 1)) (.ite (W.eq form (W.of .i64 1)) (.ret true)
 (.ite (W.eq form (W.of .i64 2)) (.ret true)
 (.ite (W.eq form (W.of .i64 5)) (.ret true)
 (.ite (W.eq form (W.of .i64 6)) (.ret true)
 (.ite (W.eq form (W.of .i64 7)) (.ret true)
 (.ret (W.eq form (W.of .i64 11))))))))
 (.ite (W.eq field (W.of .i64 2)) (.ite (W.eq form (W.of .i64 1)) (.ret true)
 (.ite (W.eq form (W.of .i64 2)) (.ret true)
 (.ite (W.eq form (W.of .i64 3)) (.ret true)
 (.ite (W.eq form (W.of .i64 4)) (.ret true)
 (.ite (W.eq form (W.of .i64 6)) (.ret true)
 (.ite (W.eq form (W.of .i64 8)) (.ret true)
 (.ite (W.eq form (W.of .i64 9)) (.ret true)
 (.ret (W.eq form (W.of .i64 11))))))))))
 (.ite (W.eq field (W.of .i64 3)) (.ite (W.eq form (W.of .i64 1)) (.ret true)
 (.ite (W.eq form (W.of .i64 3)) (.ret true)
 (.ite (W.eq form (W.of .i64 4)) (.ret true)
 (.ret (W.eq form (W.of .i64 6))))))
 (.ite (W.eq form (W.of .i64 2)) (.ret true)
 (.ite (W.eq form (W.of .i64 3)) (.ret true)
 (.ite (W.eq form (W.of .i64 4)) (.ret true)
 (.ite (W.eq form (W.of .i64 5)) (.ret true)
 (.ite (W.eq form (W.of .i64 7)) (.ret true)
 (.ret (W.eq form (W.of .i64 8))))))))))
def F_ref06_Has (form field:W .i64):Option (Bool):=(T_ref06_Has form field).eval
def T_ref06_reg (has:Bool) (n_1:W .i64):Tree (Bool):=
 .ite (W.eq n_1 (W.of .i64 0)) (.ret true)
 (.ite has (.ite (W.gt n_1 (W.of .i64 0)) (.ret (W.lt n_1 (W.of .i64 16)))
 (.ret false))
 (.ret false))
def F_ref06_reg (has:Bool) (n_1:W .i64):Option (Bool):=(T_ref06_reg has n_1).eval
def T_ref06_imm (op n_1:W .i64):Tree (Bool):=
 .ite (W.ge op (W.of .i64 30)) (.ite (W.le op (W.of .i64 32)) (.ite (W.ge n_1 (W.of .i64 0)) (.ret (W.le n_1 (W.of .i64 31)))
 (.ret false))
 (.ite (W.eq op (W.of .i64 33)) (.ite (W.ge n_1 (W.of .i64 0)) (.ret (W.le n_1 (W.of .i64 262143)))
 (.ret false))
 (.ite (W.eq op (W.of .i64 49)) (.ite (W.ge n_1 (W.of .i64 (-131072))) (.ret (W.le n_1 (W.of .i64 131071)))
 (.ret false))
 (.ite (W.ge n_1 (W.of .i64 (-8192))) (.ret (W.le n_1 (W.of .i64 8191)))
 (.ret false)))))
 (.ite (W.eq op (W.of .i64 33)) (.ite (W.ge n_1 (W.of .i64 0)) (.ret (W.le n_1 (W.of .i64 262143)))
 (.ret false))
 (.ite (W.eq op (W.of .i64 49)) (.ite (W.ge n_1 (W.of .i64 (-131072))) (.ret (W.le n_1 (W.of .i64 131071)))
 (.ret false))
 (.ite (W.ge n_1 (W.of .i64 (-8192))) (.ret (W.le n_1 (W.of .i64 8191)))
 (.ret false))))
def F_ref06_imm (op n_1:W .i64):Option (Bool):=(T_ref06_imm op n_1).eval
def T_ref06_Right (i:TInst):Tree (W .i64):=
 .opt (F_ref06_Form i.Op) fun r1=>
 .ite (W.eq r1 (W.of .i64 0)) (.ret (W.of .i64 9))
 (.opt (F_ref06_Has r1 (W.of .i64 1)) fun r2=>
 .opt (F_ref06_reg r2 i.Rd) fun r3=>
 .ite (!r3) (.ret (W.of .i64 1))
 (.opt (F_ref06_Has r1 (W.of .i64 2)) fun r4=>
 .opt (F_ref06_reg r4 i.Ra) fun r5=>
 .ite (!r5) (.ret (W.of .i64 1))
 (.opt (F_ref06_Has r1 (W.of .i64 3)) fun r6=>
 .opt (F_ref06_reg r6 i.Rb) fun r7=>
 .ite (!r7) (.ret (W.of .i64 1))
 (.opt (F_ref06_Has r1 (W.of .i64 4)) fun r8=>
 .ite (!r8) (.ite (W.ne i.Imm (W.of .i64 0)) (.ret (W.of .i64 1))
 (.opt (F_ref06_Has r1 (W.of .i64 4)) fun r9=>
 .ite r9 (.opt (F_ref06_imm i.Op i.Imm) fun r10=>
 .ite (!r10) (.ret (W.of .i64 3))
 (.ret (W.of .i64 0)))
 (.ret (W.of .i64 0))))
 (.opt (F_ref06_Has r1 (W.of .i64 4)) fun r11=>
 .ite r11 (.opt (F_ref06_imm i.Op i.Imm) fun r12=>
 .ite (!r12) (.ret (W.of .i64 3))
 (.ret (W.of .i64 0)))
 (.ret (W.of .i64 0)))))))
def F_ref06_Right (i:TInst):Option (W .i64):=(T_ref06_Right i).eval
def T_ref06_Dec (w:W .u32):Tree (TInst×W .i64):=
 .opt (F_ref06_Form (W.conv (.i64) (W.quo w (W.of .u32 67108864)))) fun r1=>
 .ite (W.eq r1 (W.of .i64 0)) (.ret ((TInst.mk (W.of .i64 0) (W.of .i64 0) (W.of .i64 0) (W.of .i64 0) (W.of .i64 0)),(W.of .i64 9)))
 (.ite (W.eq r1 (W.of .i64 5)) (.ite (W.eq (W.conv (.i64) (W.quo w (W.of .u32 67108864))) (W.of .i64 49)) (.ite (W.ge (W.conv (.i64) (W.rem w (W.of .u32 262144))) (W.of .i64 131072)) (.opt (F_ref06_Right (TInst.mk (W.conv (.i64) (W.quo w (W.of .u32 67108864))) (W.conv (.i64) (W.rem (W.quo w (W.of .u32 4194304)) (W.of .u32 16))) (W.conv (.i64) (W.rem (W.quo w (W.of .u32 262144)) (W.of .u32 16))) (W.of .i64 0) (W.sub (W.conv (.i64) (W.rem w (W.of .u32 262144))) (W.of .i64 262144)))) fun r2=>
 .ite (W.ne r2 (W.of .i64 0)) (.ret ((TInst.mk (W.of .i64 0) (W.of .i64 0) (W.of .i64 0) (W.of .i64 0) (W.of .i64 0)),(W.of .i64 2)))
 (.ret ((TInst.mk (W.conv (.i64) (W.quo w (W.of .u32 67108864))) (W.conv (.i64) (W.rem (W.quo w (W.of .u32 4194304)) (W.of .u32 16))) (W.conv (.i64) (W.rem (W.quo w (W.of .u32 262144)) (W.of .u32 16))) (W.of .i64 0) (W.sub (W.conv (.i64) (W.rem w (W.of .u32 262144))) (W.of .i64 262144))),(W.of .i64 0))))
 (.opt (F_ref06_Right (TInst.mk (W.conv (.i64) (W.quo w (W.of .u32 67108864))) (W.conv (.i64) (W.rem (W.quo w (W.of .u32 4194304)) (W.of .u32 16))) (W.conv (.i64) (W.rem (W.quo w (W.of .u32 262144)) (W.of .u32 16))) (W.of .i64 0) (W.conv (.i64) (W.rem w (W.of .u32 262144))))) fun r3=>
 .ite (W.ne r3 (W.of .i64 0)) (.ret ((TInst.mk (W.of .i64 0) (W.of .i64 0) (W.of .i64 0) (W.of .i64 0) (W.of .i64 0)),(W.of .i64 2)))
 (.ret ((TInst.mk (W.conv (.i64) (W.quo w (W.of .u32 67108864))) (W.conv (.i64) (W.rem (W.quo w (W.of .u32 4194304)) (W.of .u32 16))) (W.conv (.i64) (W.rem (W.quo w (W.of .u32 262144)) (W.of .u32 16))) (W.of .i64 0) (W.conv (.i64) (W.rem w (W.of .u32 262144)))),(W.of .i64 0)))))
 (.opt (F_ref06_Right (TInst.mk (W.conv (.i64) (W.quo w (W.of .u32 67108864))) (W.conv (.i64) (W.rem (W.quo w (W.of .u32 4194304)) (W.of .u32 16))) (W.conv (.i64) (W.rem (W.quo w (W.of .u32 262144)) (W.of .u32 16))) (W.of .i64 0) (W.conv (.i64) (W.rem w (W.of .u32 262144))))) fun r4=>
 .ite (W.ne r4 (W.of .i64 0)) (.ret ((TInst.mk (W.of .i64 0) (W.of .i64 0) (W.of .i64 0) (W.of .i64 0) (W.of .i64 0)),(W.of .i64 2)))
 (.ret ((TInst.mk (W.conv (.i64) (W.quo w (W.of .u32 67108864))) (W.conv (.i64) (W.rem (W.quo w (W.of .u32 4194304)) (W.of .u32 16))) (W.conv (.i64) (W.rem (W.quo w (W.of .u32 262144)) (W.of .u32 16))) (W.of .i64 0) (W.conv (.i64) (W.rem w (W.of .u32 262144)))),(W.of .i64 0)))))
 (.ite (W.ge (W.conv (.i64) (W.rem w (W.of .u32 16384))) (W.of .i64 8192)) (.opt (F_ref06_Right (TInst.mk (W.conv (.i64) (W.quo w (W.of .u32 67108864))) (W.conv (.i64) (W.rem (W.quo w (W.of .u32 4194304)) (W.of .u32 16))) (W.conv (.i64) (W.rem (W.quo w (W.of .u32 262144)) (W.of .u32 16))) (W.conv (.i64) (W.rem (W.quo w (W.of .u32 16384)) (W.of .u32 16))) (W.sub (W.conv (.i64) (W.rem w (W.of .u32 16384))) (W.of .i64 16384)))) fun r5=>
 .ite (W.ne r5 (W.of .i64 0)) (.ret ((TInst.mk (W.of .i64 0) (W.of .i64 0) (W.of .i64 0) (W.of .i64 0) (W.of .i64 0)),(W.of .i64 2)))
 (.ret ((TInst.mk (W.conv (.i64) (W.quo w (W.of .u32 67108864))) (W.conv (.i64) (W.rem (W.quo w (W.of .u32 4194304)) (W.of .u32 16))) (W.conv (.i64) (W.rem (W.quo w (W.of .u32 262144)) (W.of .u32 16))) (W.conv (.i64) (W.rem (W.quo w (W.of .u32 16384)) (W.of .u32 16))) (W.sub (W.conv (.i64) (W.rem w (W.of .u32 16384))) (W.of .i64 16384))),(W.of .i64 0))))
 (.opt (F_ref06_Right (TInst.mk (W.conv (.i64) (W.quo w (W.of .u32 67108864))) (W.conv (.i64) (W.rem (W.quo w (W.of .u32 4194304)) (W.of .u32 16))) (W.conv (.i64) (W.rem (W.quo w (W.of .u32 262144)) (W.of .u32 16))) (W.conv (.i64) (W.rem (W.quo w (W.of .u32 16384)) (W.of .u32 16))) (W.conv (.i64) (W.rem w (W.of .u32 16384))))) fun r6=>
 .ite (W.ne r6 (W.of .i64 0)) (.ret ((TInst.mk (W.of .i64 0) (W.of .i64 0) (W.of .i64 0) (W.of .i64 0) (W.of .i64 0)),(W.of .i64 2)))
 (.ret ((TInst.mk (W.conv (.i64) (W.quo w (W.of .u32 67108864))) (W.conv (.i64) (W.rem (W.quo w (W.of .u32 4194304)) (W.of .u32 16))) (W.conv (.i64) (W.rem (W.quo w (W.of .u32 262144)) (W.of .u32 16))) (W.conv (.i64) (W.rem (W.quo w (W.of .u32 16384)) (W.of .u32 16))) (W.conv (.i64) (W.rem w (W.of .u32 16384)))),(W.of .i64 0))))))
def F_ref06_Dec (w:W .u32):Option (TInst×W .i64):=(T_ref06_Dec w).eval
def T_ref24_Unit (op:W .i64):Tree (W .i64):=
 .ite (W.lt op (W.of .i64 1)) (.ret (W.of .i64 0))
 (.ite (W.gt op (W.of .i64 63)) (.ret (W.of .i64 0))
 (.ite (W.ge op (W.of .i64 11)) (.ite (W.le op (W.of .i64 13)) (.ret (W.of .i64 2))
 (.ite (W.ge op (W.of .i64 14)) (.ite (W.le op (W.of .i64 17)) (.ret (W.of .i64 3))
 (.ite (W.ge op (W.of .i64 34)) (.ite (W.le op (W.of .i64 39)) (.ret (W.of .i64 5))
 (.ite (W.ge op (W.of .i64 40)) (.ite (W.le op (W.of .i64 42)) (.ret (W.of .i64 6))
 (.ite (W.ge op (W.of .i64 43)) (.ite (W.le op (W.of .i64 50)) (.ret (W.of .i64 4))
 (.ite (W.ge op (W.of .i64 51)) (.ite (W.le op (W.of .i64 62)) (.ret (W.of .i64 7))
 (.ret (W.of .i64 1)))
 (.ret (W.of .i64 1))))
 (.ite (W.ge op (W.of .i64 51)) (.ite (W.le op (W.of .i64 62)) (.ret (W.of .i64 7))
 (.ret (W.of .i64 1)))
 (.ret (W.of .i64 1)))))
 (.ite (W.ge op (W.of .i64 43)) (.ite (W.le op (W.of .i64 50)) (.ret (W.of .i64 4))
 (.ite (W.ge op (W.of .i64 51)) (.ite (W.le op (W.of .i64 62)) (.ret (W.of .i64 7))
 (.ret (W.of .i64 1)))
 (.ret (W.of .i64 1))))
 (.ite (W.ge op (W.of .i64 51)) (.ite (W.le op (W.of .i64 62)) (.ret (W.of .i64 7))
 (.ret (W.of .i64 1)))
 (.ret (W.of .i64 1))))))
 (.ite (W.ge op (W.of .i64 40)) (.ite (W.le op (W.of .i64 42)) (.ret (W.of .i64 6))
 (.ite (W.ge op (W.of .i64 43)) (.ite (W.le op (W.of .i64 50)) (.ret (W.of .i64 4))
 (.ite (W.ge op (W.of .i64 51)) (.ite (W.le op (W.of .i64 62)) (.ret (W.of .i64 7))
 (.ret (W.of .i64 1)))
 (.ret (W.of .i64 1))))
 (.ite (W.ge op (W.of .i64 51)) (.ite (W.le op (W.of .i64 62)) (.ret (W.of .i64 7))
 (.ret (W.of .i64 1)))
 (.ret (W.of .i64 1)))))
 (.ite (W.ge op (W.of .i64 43)) (.ite (W.le op (W.of .i64 50)) (.ret (W.of .i64 4))
 (.ite (W.ge op (W.of .i64 51)) (.ite (W.le op (W.of .i64 62)) (.ret (W.of .i64 7))
 (.ret (W.of .i64 1)))
 (.ret (W.of .i64 1))))
 (.ite (W.ge op (W.of .i64 51)) (.ite (W.le op (W.of .i64 62)) (.ret (W.of .i64 7))
 (.ret (W.of .i64 1)))
 (.ret (W.of .i64 1)))))))
 (.ite (W.ge op (W.of .i64 34)) (.ite (W.le op (W.of .i64 39)) (.ret (W.of .i64 5))
 (.ite (W.ge op (W.of .i64 40)) (.ite (W.le op (W.of .i64 42)) (.ret (W.of .i64 6))
 (.ite (W.ge op (W.of .i64 43)) (.ite (W.le op (W.of .i64 50)) (.ret (W.of .i64 4))
 (.ite (W.ge op (W.of .i64 51)) (.ite (W.le op (W.of .i64 62)) (.ret (W.of .i64 7))
 (.ret (W.of .i64 1)))
 (.ret (W.of .i64 1))))
 (.ite (W.ge op (W.of .i64 51)) (.ite (W.le op (W.of .i64 62)) (.ret (W.of .i64 7))
 (.ret (W.of .i64 1)))
 (.ret (W.of .i64 1)))))
 (.ite (W.ge op (W.of .i64 43)) (.ite (W.le op (W.of .i64 50)) (.ret (W.of .i64 4))
 (.ite (W.ge op (W.of .i64 51)) (.ite (W.le op (W.of .i64 62)) (.ret (W.of .i64 7))
 (.ret (W.of .i64 1)))
 (.ret (W.of .i64 1))))
 (.ite (W.ge op (W.of .i64 51)) (.ite (W.le op (W.of .i64 62)) (.ret (W.of .i64 7))
 (.ret (W.of .i64 1)))
 (.ret (W.of .i64 1))))))
 (.ite (W.ge op (W.of .i64 40)) (.ite (W.le op (W.of .i64 42)) (.ret (W.of .i64 6))
 (.ite (W.ge op (W.of .i64 43)) (.ite (W.le op (W.of .i64 50)) (.ret (W.of .i64 4))
 (.ite (W.ge op (W.of .i64 51)) (.ite (W.le op (W.of .i64 62)) (.ret (W.of .i64 7))
 (.ret (W.of .i64 1)))
 (.ret (W.of .i64 1))))
 (.ite (W.ge op (W.of .i64 51)) (.ite (W.le op (W.of .i64 62)) (.ret (W.of .i64 7))
 (.ret (W.of .i64 1)))
 (.ret (W.of .i64 1)))))
 (.ite (W.ge op (W.of .i64 43)) (.ite (W.le op (W.of .i64 50)) (.ret (W.of .i64 4))
 (.ite (W.ge op (W.of .i64 51)) (.ite (W.le op (W.of .i64 62)) (.ret (W.of .i64 7))
 (.ret (W.of .i64 1)))
 (.ret (W.of .i64 1))))
 (.ite (W.ge op (W.of .i64 51)) (.ite (W.le op (W.of .i64 62)) (.ret (W.of .i64 7))
 (.ret (W.of .i64 1)))
 (.ret (W.of .i64 1))))))))
 (.ite (W.ge op (W.of .i64 14)) (.ite (W.le op (W.of .i64 17)) (.ret (W.of .i64 3))
 (.ite (W.ge op (W.of .i64 34)) (.ite (W.le op (W.of .i64 39)) (.ret (W.of .i64 5))
 (.ite (W.ge op (W.of .i64 40)) (.ite (W.le op (W.of .i64 42)) (.ret (W.of .i64 6))
 (.ite (W.ge op (W.of .i64 43)) (.ite (W.le op (W.of .i64 50)) (.ret (W.of .i64 4))
 (.ite (W.ge op (W.of .i64 51)) (.ite (W.le op (W.of .i64 62)) (.ret (W.of .i64 7))
 (.ret (W.of .i64 1)))
 (.ret (W.of .i64 1))))
 (.ite (W.ge op (W.of .i64 51)) (.ite (W.le op (W.of .i64 62)) (.ret (W.of .i64 7))
 (.ret (W.of .i64 1)))
 (.ret (W.of .i64 1)))))
 (.ite (W.ge op (W.of .i64 43)) (.ite (W.le op (W.of .i64 50)) (.ret (W.of .i64 4))
 (.ite (W.ge op (W.of .i64 51)) (.ite (W.le op (W.of .i64 62)) (.ret (W.of .i64 7))
 (.ret (W.of .i64 1)))
 (.ret (W.of .i64 1))))
 (.ite (W.ge op (W.of .i64 51)) (.ite (W.le op (W.of .i64 62)) (.ret (W.of .i64 7))
 (.ret (W.of .i64 1)))
 (.ret (W.of .i64 1))))))
 (.ite (W.ge op (W.of .i64 40)) (.ite (W.le op (W.of .i64 42)) (.ret (W.of .i64 6))
 (.ite (W.ge op (W.of .i64 43)) (.ite (W.le op (W.of .i64 50)) (.ret (W.of .i64 4))
 (.ite (W.ge op (W.of .i64 51)) (.ite (W.le op (W.of .i64 62)) (.ret (W.of .i64 7))
 (.ret (W.of .i64 1)))
 (.ret (W.of .i64 1))))
 (.ite (W.ge op (W.of .i64 51)) (.ite (W.le op (W.of .i64 62)) (.ret (W.of .i64 7))
 (.ret (W.of .i64 1)))
 (.ret (W.of .i64 1)))))
 (.ite (W.ge op (W.of .i64 43)) (.ite (W.le op (W.of .i64 50)) (.ret (W.of .i64 4))
 (.ite (W.ge op (W.of .i64 51)) (.ite (W.le op (W.of .i64 62)) (.ret (W.of .i64 7))
 (.ret (W.of .i64 1)))
 (.ret (W.of .i64 1))))
 (.ite (W.ge op (W.of .i64 51)) (.ite (W.le op (W.of .i64 62)) (.ret (W.of .i64 7))
 (.ret (W.of .i64 1)))
 (.ret (W.of .i64 1)))))))
 (.ite (W.ge op (W.of .i64 34)) (.ite (W.le op (W.of .i64 39)) (.ret (W.of .i64 5))
 (.ite (W.ge op (W.of .i64 40)) (.ite (W.le op (W.of .i64 42)) (.ret (W.of .i64 6))
 (.ite (W.ge op (W.of .i64 43)) (.ite (W.le op (W.of .i64 50)) (.ret (W.of .i64 4))
 (.ite (W.ge op (W.of .i64 51)) (.ite (W.le op (W.of .i64 62)) (.ret (W.of .i64 7))
 (.ret (W.of .i64 1)))
 (.ret (W.of .i64 1))))
 (.ite (W.ge op (W.of .i64 51)) (.ite (W.le op (W.of .i64 62)) (.ret (W.of .i64 7))
 (.ret (W.of .i64 1)))
 (.ret (W.of .i64 1)))))
 (.ite (W.ge op (W.of .i64 43)) (.ite (W.le op (W.of .i64 50)) (.ret (W.of .i64 4))
 (.ite (W.ge op (W.of .i64 51)) (.ite (W.le op (W.of .i64 62)) (.ret (W.of .i64 7))
 (.ret (W.of .i64 1)))
 (.ret (W.of .i64 1))))
 (.ite (W.ge op (W.of .i64 51)) (.ite (W.le op (W.of .i64 62)) (.ret (W.of .i64 7))
 (.ret (W.of .i64 1)))
 (.ret (W.of .i64 1))))))
 (.ite (W.ge op (W.of .i64 40)) (.ite (W.le op (W.of .i64 42)) (.ret (W.of .i64 6))
 (.ite (W.ge op (W.of .i64 43)) (.ite (W.le op (W.of .i64 50)) (.ret (W.of .i64 4))
 (.ite (W.ge op (W.of .i64 51)) (.ite (W.le op (W.of .i64 62)) (.ret (W.of .i64 7))
 (.ret (W.of .i64 1)))
 (.ret (W.of .i64 1))))
 (.ite (W.ge op (W.of .i64 51)) (.ite (W.le op (W.of .i64 62)) (.ret (W.of .i64 7))
 (.ret (W.of .i64 1)))
 (.ret (W.of .i64 1)))))
 (.ite (W.ge op (W.of .i64 43)) (.ite (W.le op (W.of .i64 50)) (.ret (W.of .i64 4))
 (.ite (W.ge op (W.of .i64 51)) (.ite (W.le op (W.of .i64 62)) (.ret (W.of .i64 7))
 (.ret (W.of .i64 1)))
 (.ret (W.of .i64 1))))
 (.ite (W.ge op (W.of .i64 51)) (.ite (W.le op (W.of .i64 62)) (.ret (W.of .i64 7))
 (.ret (W.of .i64 1)))
 (.ret (W.of .i64 1)))))))))
def F_ref24_Unit (op:W .i64):Option (W .i64):=(T_ref24_Unit op).eval
def T_ref24_Serial (op:W .i64):Tree (Bool):=
 .ite (W.ge op (W.of .i64 51)) (.ret (W.le op (W.of .i64 62)))
 (.ret false)
def F_ref24_Serial (op:W .i64):Option (Bool):=(T_ref24_Serial op).eval
def T_ref24_reg (r:W .i64) (is:Bool):Tree (W .i64):=
 .ite (W.eq r (W.of .i64 0)) (.ret (W.of .i64 (-1)))
 (.ite (!is) (.ret (W.of .i64 (-1)))
 (.ret r))
def F_ref24_reg (r:W .i64) (is:Bool):Option (W .i64):=(T_ref24_reg r is).eval
def T_ref24_one (s:TSlot) (i:TInst):Tree (TUop):=
 .opt (F_ref06_Form i.Op) fun r1=>
 .opt (F_ref24_none s) fun r2=>
 .opt (F_ref24_Unit i.Op) fun r3=>
 .ite (W.eq r1 (W.of .i64 1)) (.opt (F_ref24_Serial i.Op) fun r4=>
 .ite (!r4) (.opt (F_ref24_reg i.Ra true) fun r5=>
 .opt (F_ref24_reg i.Rb true) fun r6=>
 .opt (F_ref24_reg i.Rd (W.eq i.Op (W.of .i64 24))) fun r7=>
 .ite (W.eq r1 (W.of .i64 1)) (.opt (F_ref24_reg i.Rd true) fun r8=>
 .ret ({ r2 with Inst:=i,Unit:=r3,Src:=(Arr.set (Arr.set (Arr.set r2.Src 0 r5) 1 r6) 2 r7),Dst:=r8 }:TUop))
 (.ite (W.eq r1 (W.of .i64 2)) (.opt (F_ref24_reg i.Rd true) fun r9=>
 .ret ({ r2 with Inst:=i,Unit:=r3,Src:=(Arr.set (Arr.set (Arr.set r2.Src 0 r5) 1 r6) 2 r7),Dst:=r9 }:TUop))
 (.ite (W.eq r1 (W.of .i64 5)) (.opt (F_ref24_reg i.Rd true) fun r10=>
 .ret ({ r2 with Inst:=i,Unit:=r3,Src:=(Arr.set (Arr.set (Arr.set r2.Src 0 r5) 1 r6) 2 r7),Dst:=r10 }:TUop))
 (.ite (W.eq r1 (W.of .i64 6)) (.opt (F_ref24_reg i.Rd true) fun r11=>
 .ret ({ r2 with Inst:=i,Unit:=r3,Src:=(Arr.set (Arr.set (Arr.set r2.Src 0 r5) 1 r6) 2 r7),Dst:=r11 }:TUop))
 (.ite (W.eq r1 (W.of .i64 7)) (.opt (F_ref24_reg i.Rd true) fun r12=>
 .ret ({ r2 with Inst:=i,Unit:=r3,Src:=(Arr.set (Arr.set (Arr.set r2.Src 0 r5) 1 r6) 2 r7),Dst:=r12 }:TUop))
 (.opt (F_ref24_reg i.Rd (W.eq r1 (W.of .i64 11))) fun r13=>
 .ret ({ r2 with Inst:=i,Unit:=r3,Src:=(Arr.set (Arr.set (Arr.set r2.Src 0 r5) 1 r6) 2 r7),Dst:=r13 }:TUop)))))))
 (.ite (W.eq r1 (W.of .i64 1)) (.opt (F_ref24_reg i.Rd true) fun r14=>
 .ret ({ r2 with Inst:=i,Unit:=r3,Dst:=r14 }:TUop))
 (.ite (W.eq r1 (W.of .i64 2)) (.opt (F_ref24_reg i.Rd true) fun r15=>
 .ret ({ r2 with Inst:=i,Unit:=r3,Dst:=r15 }:TUop))
 (.ite (W.eq r1 (W.of .i64 5)) (.opt (F_ref24_reg i.Rd true) fun r16=>
 .ret ({ r2 with Inst:=i,Unit:=r3,Dst:=r16 }:TUop))
 (.ite (W.eq r1 (W.of .i64 6)) (.opt (F_ref24_reg i.Rd true) fun r17=>
 .ret ({ r2 with Inst:=i,Unit:=r3,Dst:=r17 }:TUop))
 (.ite (W.eq r1 (W.of .i64 7)) (.opt (F_ref24_reg i.Rd true) fun r18=>
 .ret ({ r2 with Inst:=i,Unit:=r3,Dst:=r18 }:TUop))
 (.opt (F_ref24_reg i.Rd (W.eq r1 (W.of .i64 11))) fun r19=>
 .ret ({ r2 with Inst:=i,Unit:=r3,Dst:=r19 }:TUop))))))))
 (.ite (W.eq r1 (W.of .i64 3)) (.opt (F_ref24_Serial i.Op) fun r20=>
 .ite (!r20) (.opt (F_ref24_reg i.Ra true) fun r21=>
 .opt (F_ref24_reg i.Rb true) fun r22=>
 .opt (F_ref24_reg i.Rd (W.eq i.Op (W.of .i64 24))) fun r23=>
 .ite (W.eq r1 (W.of .i64 1)) (.opt (F_ref24_reg i.Rd true) fun r24=>
 .ret ({ r2 with Inst:=i,Unit:=r3,Src:=(Arr.set (Arr.set (Arr.set r2.Src 0 r21) 1 r22) 2 r23),Dst:=r24 }:TUop))
 (.ite (W.eq r1 (W.of .i64 2)) (.opt (F_ref24_reg i.Rd true) fun r25=>
 .ret ({ r2 with Inst:=i,Unit:=r3,Src:=(Arr.set (Arr.set (Arr.set r2.Src 0 r21) 1 r22) 2 r23),Dst:=r25 }:TUop))
 (.ite (W.eq r1 (W.of .i64 5)) (.opt (F_ref24_reg i.Rd true) fun r26=>
 .ret ({ r2 with Inst:=i,Unit:=r3,Src:=(Arr.set (Arr.set (Arr.set r2.Src 0 r21) 1 r22) 2 r23),Dst:=r26 }:TUop))
 (.ite (W.eq r1 (W.of .i64 6)) (.opt (F_ref24_reg i.Rd true) fun r27=>
 .ret ({ r2 with Inst:=i,Unit:=r3,Src:=(Arr.set (Arr.set (Arr.set r2.Src 0 r21) 1 r22) 2 r23),Dst:=r27 }:TUop))
 (.ite (W.eq r1 (W.of .i64 7)) (.opt (F_ref24_reg i.Rd true) fun r28=>
 .ret ({ r2 with Inst:=i,Unit:=r3,Src:=(Arr.set (Arr.set (Arr.set r2.Src 0 r21) 1 r22) 2 r23),Dst:=r28 }:TUop))
 (.opt (F_ref24_reg i.Rd (W.eq r1 (W.of .i64 11))) fun r29=>
 .ret ({ r2 with Inst:=i,Unit:=r3,Src:=(Arr.set (Arr.set (Arr.set r2.Src 0 r21) 1 r22) 2 r23),Dst:=r29 }:TUop)))))))
 (.ite (W.eq r1 (W.of .i64 1)) (.opt (F_ref24_reg i.Rd true) fun r30=>
 .ret ({ r2 with Inst:=i,Unit:=r3,Dst:=r30 }:TUop))
 (.ite (W.eq r1 (W.of .i64 2)) (.opt (F_ref24_reg i.Rd true) fun r31=>
 .ret ({ r2 with Inst:=i,Unit:=r3,Dst:=r31 }:TUop))
 (.ite (W.eq r1 (W.of .i64 5)) (.opt (F_ref24_reg i.Rd true) fun r32=>
 .ret ({ r2 with Inst:=i,Unit:=r3,Dst:=r32 }:TUop))
 (.ite (W.eq r1 (W.of .i64 6)) (.opt (F_ref24_reg i.Rd true) fun r33=>
 .ret ({ r2 with Inst:=i,Unit:=r3,Dst:=r33 }:TUop))
 (.ite (W.eq r1 (W.of .i64 7)) (.opt (F_ref24_reg i.Rd true) fun r34=>
 .ret ({ r2 with Inst:=i,Unit:=r3,Dst:=r34 }:TUop))
 (.opt (F_ref24_reg i.Rd (W.eq r1 (W.of .i64 11))) fun r35=>
 .ret ({ r2 with Inst:=i,Unit:=r3,Dst:=r35 }:TUop))))))))
 (.opt (F_ref24_Serial i.Op) fun r36=>
 .ite (!r36) (.ite (W.eq r1 (W.of .i64 4)) (.opt (F_ref24_reg i.Ra true) fun r37=>
 .opt (F_ref24_reg i.Rb (W.eq r1 (W.of .i64 4))) fun r38=>
 .opt (F_ref24_reg i.Rd (W.eq i.Op (W.of .i64 24))) fun r39=>
 .ite (W.eq r1 (W.of .i64 1)) (.opt (F_ref24_reg i.Rd true) fun r40=>
 .ret ({ r2 with Inst:=i,Unit:=r3,Src:=(Arr.set (Arr.set (Arr.set r2.Src 0 r37) 1 r38) 2 r39),Dst:=r40 }:TUop))
 (.ite (W.eq r1 (W.of .i64 2)) (.opt (F_ref24_reg i.Rd true) fun r41=>
 .ret ({ r2 with Inst:=i,Unit:=r3,Src:=(Arr.set (Arr.set (Arr.set r2.Src 0 r37) 1 r38) 2 r39),Dst:=r41 }:TUop))
 (.ite (W.eq r1 (W.of .i64 5)) (.opt (F_ref24_reg i.Rd true) fun r42=>
 .ret ({ r2 with Inst:=i,Unit:=r3,Src:=(Arr.set (Arr.set (Arr.set r2.Src 0 r37) 1 r38) 2 r39),Dst:=r42 }:TUop))
 (.ite (W.eq r1 (W.of .i64 6)) (.opt (F_ref24_reg i.Rd true) fun r43=>
 .ret ({ r2 with Inst:=i,Unit:=r3,Src:=(Arr.set (Arr.set (Arr.set r2.Src 0 r37) 1 r38) 2 r39),Dst:=r43 }:TUop))
 (.ite (W.eq r1 (W.of .i64 7)) (.opt (F_ref24_reg i.Rd true) fun r44=>
 .ret ({ r2 with Inst:=i,Unit:=r3,Src:=(Arr.set (Arr.set (Arr.set r2.Src 0 r37) 1 r38) 2 r39),Dst:=r44 }:TUop))
 (.opt (F_ref24_reg i.Rd (W.eq r1 (W.of .i64 11))) fun r45=>
 .ret ({ r2 with Inst:=i,Unit:=r3,Src:=(Arr.set (Arr.set (Arr.set r2.Src 0 r37) 1 r38) 2 r39),Dst:=r45 }:TUop)))))))
 (.ite (W.eq r1 (W.of .i64 2)) (.opt (F_ref24_reg i.Ra true) fun r46=>
 .opt (F_ref24_reg i.Rb (W.eq r1 (W.of .i64 4))) fun r47=>
 .opt (F_ref24_reg i.Rd (W.eq i.Op (W.of .i64 24))) fun r48=>
 .ite (W.eq r1 (W.of .i64 1)) (.opt (F_ref24_reg i.Rd true) fun r49=>
 .ret ({ r2 with Inst:=i,Unit:=r3,Src:=(Arr.set (Arr.set (Arr.set r2.Src 0 r46) 1 r47) 2 r48),Dst:=r49 }:TUop))
 (.ite (W.eq r1 (W.of .i64 2)) (.opt (F_ref24_reg i.Rd true) fun r50=>
 .ret ({ r2 with Inst:=i,Unit:=r3,Src:=(Arr.set (Arr.set (Arr.set r2.Src 0 r46) 1 r47) 2 r48),Dst:=r50 }:TUop))
 (.ite (W.eq r1 (W.of .i64 5)) (.opt (F_ref24_reg i.Rd true) fun r51=>
 .ret ({ r2 with Inst:=i,Unit:=r3,Src:=(Arr.set (Arr.set (Arr.set r2.Src 0 r46) 1 r47) 2 r48),Dst:=r51 }:TUop))
 (.ite (W.eq r1 (W.of .i64 6)) (.opt (F_ref24_reg i.Rd true) fun r52=>
 .ret ({ r2 with Inst:=i,Unit:=r3,Src:=(Arr.set (Arr.set (Arr.set r2.Src 0 r46) 1 r47) 2 r48),Dst:=r52 }:TUop))
 (.ite (W.eq r1 (W.of .i64 7)) (.opt (F_ref24_reg i.Rd true) fun r53=>
 .ret ({ r2 with Inst:=i,Unit:=r3,Src:=(Arr.set (Arr.set (Arr.set r2.Src 0 r46) 1 r47) 2 r48),Dst:=r53 }:TUop))
 (.opt (F_ref24_reg i.Rd (W.eq r1 (W.of .i64 11))) fun r54=>
 .ret ({ r2 with Inst:=i,Unit:=r3,Src:=(Arr.set (Arr.set (Arr.set r2.Src 0 r46) 1 r47) 2 r48),Dst:=r54 }:TUop)))))))
 (.opt (F_ref24_reg i.Ra (W.eq r1 (W.of .i64 11))) fun r55=>
 .opt (F_ref24_reg i.Rb (W.eq r1 (W.of .i64 4))) fun r56=>
 .opt (F_ref24_reg i.Rd (W.eq i.Op (W.of .i64 24))) fun r57=>
 .ite (W.eq r1 (W.of .i64 1)) (.opt (F_ref24_reg i.Rd true) fun r58=>
 .ret ({ r2 with Inst:=i,Unit:=r3,Src:=(Arr.set (Arr.set (Arr.set r2.Src 0 r55) 1 r56) 2 r57),Dst:=r58 }:TUop))
 (.ite (W.eq r1 (W.of .i64 2)) (.opt (F_ref24_reg i.Rd true) fun r59=>
 .ret ({ r2 with Inst:=i,Unit:=r3,Src:=(Arr.set (Arr.set (Arr.set r2.Src 0 r55) 1 r56) 2 r57),Dst:=r59 }:TUop))
 (.ite (W.eq r1 (W.of .i64 5)) (.opt (F_ref24_reg i.Rd true) fun r60=>
 .ret ({ r2 with Inst:=i,Unit:=r3,Src:=(Arr.set (Arr.set (Arr.set r2.Src 0 r55) 1 r56) 2 r57),Dst:=r60 }:TUop))
 (.ite (W.eq r1 (W.of .i64 6)) (.opt (F_ref24_reg i.Rd true) fun r61=>
 .ret ({ r2 with Inst:=i,Unit:=r3,Src:=(Arr.set (Arr.set (Arr.set r2.Src 0 r55) 1 r56) 2 r57),Dst:=r61 }:TUop))
 (.ite (W.eq r1 (W.of .i64 7)) (.opt (F_ref24_reg i.Rd true) fun r62=>
 .ret ({ r2 with Inst:=i,Unit:=r3,Src:=(Arr.set (Arr.set (Arr.set r2.Src 0 r55) 1 r56) 2 r57),Dst:=r62 }:TUop))
 (.opt (F_ref24_reg i.Rd (W.eq r1 (W.of .i64 11))) fun r63=>
 .ret ({ r2 with Inst:=i,Unit:=r3,Src:=(Arr.set (Arr.set (Arr.set r2.Src 0 r55) 1 r56) 2 r57),Dst:=r63 }:TUop)))))))))
 (.ite (W.eq r1 (W.of .i64 1)) (.opt (F_ref24_reg i.Rd true) fun r64=>
 .ret ({ r2 with Inst:=i,Unit:=r3,Dst:=r64 }:TUop))
 (.ite (W.eq r1 (W.of .i64 2)) (.opt (F_ref24_reg i.Rd true) fun r65=>
 .ret ({ r2 with Inst:=i,Unit:=r3,Dst:=r65 }:TUop))
 (.ite (W.eq r1 (W.of .i64 5)) (.opt (F_ref24_reg i.Rd true) fun r66=>
 .ret ({ r2 with Inst:=i,Unit:=r3,Dst:=r66 }:TUop))
 (.ite (W.eq r1 (W.of .i64 6)) (.opt (F_ref24_reg i.Rd true) fun r67=>
 .ret ({ r2 with Inst:=i,Unit:=r3,Dst:=r67 }:TUop))
 (.ite (W.eq r1 (W.of .i64 7)) (.opt (F_ref24_reg i.Rd true) fun r68=>
 .ret ({ r2 with Inst:=i,Unit:=r3,Dst:=r68 }:TUop))
 (.opt (F_ref24_reg i.Rd (W.eq r1 (W.of .i64 11))) fun r69=>
 .ret ({ r2 with Inst:=i,Unit:=r3,Dst:=r69 }:TUop)))))))))
def F_ref24_one (s:TSlot) (i:TInst):Option (TUop):=(T_ref24_one s i).eval
def T_ref24_Uops (s:TSlot):Tree (Sl 168 (TUop)):=
 .opt (F_ref24_none s) fun r1=>
 .ite (W.ne s.Cause (W.of .i64 0)) (.ret (Sl.lit 168 [({ r1 with Cause:=s.Cause,Tval:=s.Tval }:TUop)] rfl:Sl 168 (TUop)))
 (.opt (F_ref06_Dec s.Word) fun r2=>
 .ite (W.ne r2.2 (W.of .i64 0)) (.ret (Sl.lit 168 [({ r1 with Cause:=(W.of .i64 2),Tval:=s.Word }:TUop)] rfl:Sl 168 (TUop)))
 (.ite (W.ne r2.1.Op (W.of .i64 39)) (.opt (F_ref24_one s r2.1) fun r3=>
 .ret (Sl.lit 168 [r3] rfl:Sl 168 (TUop)))
 (.opt (F_ref24_one s (TInst.mk (W.of .i64 38) r2.1.Rd r2.1.Ra (W.of .i64 0) (W.of .i64 0))) fun r4=>
 .ite (W.eq r2.1.Ra (W.of .i64 0)) (.ret (Sl.lit 168 [r4] rfl:Sl 168 (TUop)))
 (.ite (W.eq r2.1.Ra r2.1.Rd) (.ret (Sl.lit 168 [r4] rfl:Sl 168 (TUop)))
 (.opt (F_ref24_one s (TInst.mk (W.of .i64 25) r2.1.Ra r2.1.Ra (W.of .i64 0) r2.1.Imm)) fun r5=>
 .ret (Sl.lit 168 [({ r4 with Last:=false }:TUop),({ r5 with Part:=(W.of .i64 1) }:TUop)] rfl:Sl 168 (TUop)))))))
def F_ref24_Uops (s:TSlot):Option (Sl 168 (TUop)):=(T_ref24_Uops s).eval
def B_ref45_count_7 (l_0:Sl 168 (TUop)) (unit n_5 i:W .i64):Tree (Rnd (Sl 168 (TUop)×W .i64×W .i64×W .i64×Unit) (W .i64×Unit)):=
 .ite (W.lt i (Sl.len l_0)) (.opt (Sl.get? l_0 i) fun y1=>
 .ite (W.eq y1.Unit unit) (.ret (.next (l_0,unit,(W.add n_5 (W.of .i64 1)),(W.add i (W.of .i64 1)),())))
 (.ite (W.eq unit (W.of .i64 0)) (.opt (Sl.get? l_0 i) fun y2=>
 .ite (W.ne y2.Unit (W.of .i64 7)) (.ret (.next (l_0,unit,(W.add n_5 (W.of .i64 1)),(W.add i (W.of .i64 1)),())))
 (.ret (.next (l_0,unit,n_5,(W.add i (W.of .i64 1)),()))))
 (.ret (.next (l_0,unit,n_5,(W.add i (W.of .i64 1)),())))))
 (.ret (.out (n_5,())))
def L_ref45_count_7 (a:Sl 168 (TUop)×W .i64×W .i64×W .i64×Unit):Option (W .i64×Unit):=iter (fun a:Sl 168 (TUop)×W .i64×W .i64×W .i64×Unit=>(B_ref45_count_7 a.1 a.2.1 a.2.2.1 a.2.2.2.1).eval) fuel a
def T_ref45_count (l_0:Sl 168 (TUop)) (unit:W .i64):Tree (W .i64):=
 .opt (L_ref45_count_7 ((l_0,unit,(W.of .i64 0),(W.of .i64 0),()))) fun o3=>
 .ret o3.1
def F_ref45_count (l_0:Sl 168 (TUop)) (unit:W .i64):Option (W .i64):=(T_ref45_count l_0 unit).eval
def B_ref45_writers_7 (l_0:Sl 168 (TUop)) (n_3 i:W .i64):Tree (Rnd (Sl 168 (TUop)×W .i64×W .i64×Unit) (W .i64×Unit)):=
 .ite (W.lt i (Sl.len l_0)) (.opt (Sl.get? l_0 i) fun y1=>
 .ite (W.ge y1.Dst (W.of .i64 1)) (.opt (Sl.get? l_0 i) fun y2=>
 .ite (W.le y2.Dst (W.of .i64 15)) (.ret (.next (l_0,(W.add n_3 (W.of .i64 1)),(W.add i (W.of .i64 1)),())))
 (.ret (.next (l_0,n_3,(W.add i (W.of .i64 1)),()))))
 (.ret (.next (l_0,n_3,(W.add i (W.of .i64 1)),()))))
 (.ret (.out (n_3,())))
def L_ref45_writers_7 (a:Sl 168 (TUop)×W .i64×W .i64×Unit):Option (W .i64×Unit):=iter (fun a:Sl 168 (TUop)×W .i64×W .i64×Unit=>(B_ref45_writers_7 a.1 a.2.1 a.2.2.1).eval) fuel a
def T_ref45_writers (l_0:Sl 168 (TUop)):Tree (W .i64):=
 .opt (L_ref45_writers_7 ((l_0,(W.of .i64 0),(W.of .i64 0),()))) fun o3=>
 .ret o3.1
def F_ref45_writers (l_0:Sl 168 (TUop)):Option (W .i64):=(T_ref45_writers l_0).eval
def T_ref25_Is (f:TFree):Tree (Bool):=
 .ite (W.gt (Sl.len f.Ring) (W.of .i64 96)) (.ret false)
 (.ite (W.lt f.N (W.of .i64 0)) (.ret false)
 (.ite (W.gt f.N (Sl.len f.Ring)) (.ret false)
 (.ite (W.ge f.Head (W.of .i64 0)) (.ite (W.lt f.Head (Sl.len f.Ring)) (.ret true)
 (.ite (W.eq (Sl.len f.Ring) (W.of .i64 0)) (.ret (W.eq f.Head (W.of .i64 0)))
 (.ret false)))
 (.ite (W.eq (Sl.len f.Ring) (W.of .i64 0)) (.ret (W.eq f.Head (W.of .i64 0)))
 (.ret false)))))
def F_ref25_Is (f:TFree):Option (Bool):=(T_ref25_Is f).eval
def B_ref25_List_13 (f:TFree) (out:Sl 8 (W .i64)) (i:W .i64):Tree (Rnd (TFree×Sl 8 (W .i64)×W .i64×Unit) (Sl 8 (W .i64)×Unit)):=
 .ite (W.lt i f.N) (.opt (W.rem? (W.add f.Head i) (Sl.len f.Ring)) fun z2=>
 .opt (Sl.get? f.Ring z2) fun y3=>
 .opt (Sl.app? out (Sl.lit 8 [y3] rfl:Sl 8 (W .i64))) fun l4=>
 .ret (.next (f,l4,(W.add i (W.of .i64 1)),())))
 (.ret (.out (out,())))
def L_ref25_List_13 (a:TFree×Sl 8 (W .i64)×W .i64×Unit):Option (Sl 8 (W .i64)×Unit):=iter (fun a:TFree×Sl 8 (W .i64)×W .i64×Unit=>(B_ref25_List_13 a.1 a.2.1 a.2.2.1).eval) fuel a
def T_ref25_List (f:TFree):Tree (Sl 8 (W .i64)):=
 .opt (F_ref25_Is f) fun r1=>
 .ite (!r1) (.ret (Sl.lit 8 [] rfl:Sl 8 (W .i64)))
 (.opt (L_ref25_List_13 ((f,(Sl.lit 8 [] rfl:Sl 8 (W .i64)),(W.of .i64 0),()))) fun o5=>
 .ret o5.1)
def F_ref25_List (f:TFree):Option (Sl 8 (W .i64)):=(T_ref25_List f).eval
def T_ref45_Fits (c:TCore) (l_1:Sl 168 (TUop)):Tree (Bool):=
 .ite (W.gt (W.add (Sl.len c.Rob) (Sl.len l_1)) c.Conf.Rob) (.ret false)
 (.opt (F_ref45_count l_1 (W.of .i64 0)) fun r1=>
 .ite (W.gt (W.add (Sl.len c.Iq) r1) c.Conf.Iq) (.ret false)
 (.opt (F_ref45_count l_1 (W.of .i64 5)) fun r2=>
 .ite (W.gt (W.add (Sl.len c.Lq) r2) c.Conf.Lq) (.ret false)
 (.opt (F_ref45_count l_1 (W.of .i64 6)) fun r3=>
 .ite (W.gt (W.add (Sl.len c.Sq) r3) c.Conf.Sq) (.ret false)
 (.opt (F_ref45_writers l_1) fun r4=>
 .opt (F_ref25_List c.Names.Free) fun r5=>
 .ret (W.le r4 (Sl.len r5))))))
def F_ref45_Fits (c:TCore) (l_1:Sl 168 (TUop)):Option (Bool):=(T_ref45_Fits c l_1).eval
def T_ref26_Get (m:Arr 16 (W .i64)) (r:W .i64):Tree (W .i64):=
 .ite (W.lt r (W.of .i64 1)) (.ret (W.of .i64 (-1)))
 (.ite (W.gt r (W.of .i64 15)) (.ret (W.of .i64 (-1)))
 (.opt (idx? 16 r) fun j1=>
 .ret (Arr.get m j1)))
def F_ref26_Get (m:Arr 16 (W .i64)) (r:W .i64):Option (W .i64):=(T_ref26_Get m r).eval
def T_ref28_Writes (u:TUop):Tree (Bool):=
 .ite (W.ge u.Dst (W.of .i64 1)) (.ret (W.le u.Dst (W.of .i64 15)))
 (.ret false)
def F_ref28_Writes (u:TUop):Option (Bool):=(T_ref28_Writes u).eval
def T_ref25_with (f:TFree) (at_1 p:W .i64):Tree (TFree):=
 .opt (Sl.make? 8 (W.of .i64 0) (Sl.len f.Ring) (Sl.len f.Ring)) fun l1=>
 .ite (W.ge at_1 (W.of .i64 0)) (.opt (idx? (List.length (Sl.copy l1 0 f.Ring).l) at_1) fun j2=>
 .ret ({ f with Ring:=(Sl.set (Sl.copy l1 0 f.Ring) j2 p) }:TFree))
 (.ret ({ f with Ring:=(Sl.copy l1 0 f.Ring) }:TFree))
def F_ref25_with (f:TFree) (at_1 p:W .i64):Option (TFree):=(T_ref25_with f at_1 p).eval
def T_ref25_Take (f:TFree):Tree (TFree×W .i64×Bool):=
 .opt (F_ref25_Is f) fun r1=>
 .ite (!r1) (.ret (f,(W.of .i64 0),false))
 (.ite (W.eq f.N (W.of .i64 0)) (.ret (f,(W.of .i64 0),false))
 (.opt (Sl.get? f.Ring f.Head) fun y2=>
 .opt (F_ref25_with f (W.of .i64 (-1)) (W.of .i64 0)) fun r3=>
 .opt (W.rem? (W.add f.Head (W.of .i64 1)) (Sl.len f.Ring)) fun z4=>
 .ret (({ r3 with Head:=z4,N:=(W.sub r3.N (W.of .i64 1)) }:TFree),y2,true)))
def F_ref25_Take (f:TFree):Option (TFree×W .i64×Bool):=(T_ref25_Take f).eval
def T_ref26_Set (m:Arr 16 (W .i64)) (r p:W .i64):Tree (Arr 16 (W .i64)):=
 .ite (W.ge r (W.of .i64 1)) (.ite (W.le r (W.of .i64 15)) (.opt (idx? 16 r) fun j1=>
 .ret (Arr.set m j1 p))
 (.ret m))
 (.ret m)
def F_ref26_Set (m:Arr 16 (W .i64)) (r p:W .i64):Option (Arr 16 (W .i64)):=(T_ref26_Set m r p).eval
def B_ref28_One_7 (s:TNames) (u:TUop) (t_4:TNames) (t_5 r:TRen) (k:W .i64):Tree (Rnd (TNames×TUop×TNames×TRen×TRen×W .i64×Unit) (TNames×TUop×TNames×TRen×TRen×Unit)):=
 .ite (W.lt k (W.of .i64 3)) (.opt (idx? 3 k) fun j1=>
 .opt (F_ref26_Get s.Map (Arr.get u.Src j1)) fun r2=>
 .opt (idx? 3 k) fun j3=>
 .ret (.next (s,u,t_4,t_5,({ r with In:=(Arr.set r.In j3 r2) }:TRen),(W.add k (W.of .i64 1)),())))
 (.ret (.out (s,u,t_4,t_5,r,())))
def L_ref28_One_7 (a:TNames×TUop×TNames×TRen×TRen×W .i64×Unit):Option (TNames×TUop×TNames×TRen×TRen×Unit):=iter (fun a:TNames×TUop×TNames×TRen×TRen×W .i64×Unit=>(B_ref28_One_7 a.1 a.2.1 a.2.2.1 a.2.2.2.1 a.2.2.2.2.1 a.2.2.2.2.2.1).eval) fuel a
def T_ref28_One (s:TNames) (u:TUop):Tree (TNames×TRen×Bool):=
 .opt (L_ref28_One_7 ((s,u,(TNames.mk (Arr.rep 16 (W.of .i64 0):Arr 16 (W .i64)) (Arr.rep 16 (W.of .i64 0):Arr 16 (W .i64)) (TFree.mk (Sl.nil:Sl 8 (W .i64)) (W.of .i64 0) (W.of .i64 0)) (W.of .u64 0)),(TRen.mk (TUop.mk (TInst.mk (W.of .i64 0) (W.of .i64 0) (W.of .i64 0) (W.of .i64 0) (W.of .i64 0)) (TSlot.mk (W.of .u32 0) (W.of .u32 0) (W.of .i64 0) (W.of .u32 0) (TGuess.mk false (W.of .u32 0) (TSave.mk (W.of .u32 0) (W.of .i64 0) (W.of .u32 0)))) (W.of .i64 0) (W.of .i64 0) false (Arr.rep 3 (W.of .i64 0):Arr 3 (W .i64)) (W.of .i64 0) (W.of .i64 0) (W.of .u32 0)) (W.of .u64 0) (Arr.rep 3 (W.of .i64 0):Arr 3 (W .i64)) (W.of .i64 0) (W.of .i64 0)),(TRen.mk u s.Seq (Arr.rep 3 (W.of .i64 0):Arr 3 (W .i64)) (W.of .i64 (-1)) (W.of .i64 (-1))),(W.of .i64 0),()))) fun o4=>
 .opt (F_ref28_Writes o4.2.1) fun r5=>
 .ite r5 (.opt (F_ref25_Take o4.1.Free) fun r6=>
 .ite (!r6.2.2) (.ret (o4.1,(TRen.mk (TUop.mk (TInst.mk (W.of .i64 0) (W.of .i64 0) (W.of .i64 0) (W.of .i64 0) (W.of .i64 0)) (TSlot.mk (W.of .u32 0) (W.of .u32 0) (W.of .i64 0) (W.of .u32 0) (TGuess.mk false (W.of .u32 0) (TSave.mk (W.of .u32 0) (W.of .i64 0) (W.of .u32 0)))) (W.of .i64 0) (W.of .i64 0) false (Arr.rep 3 (W.of .i64 0):Arr 3 (W .i64)) (W.of .i64 0) (W.of .i64 0) (W.of .u32 0)) (W.of .u64 0) (Arr.rep 3 (W.of .i64 0):Arr 3 (W .i64)) (W.of .i64 0) (W.of .i64 0)),false))
 (.opt (F_ref26_Get o4.1.Map o4.2.1.Dst) fun r7=>
 .opt (F_ref26_Set o4.1.Map o4.2.1.Dst r6.2.1) fun r8=>
 .ret (({ o4.1 with Free:=r6.1,Map:=r8,Seq:=(W.add o4.1.Seq (W.of .u64 1)) }:TNames),({ o4.2.2.2.2.1 with Out:=r6.2.1,Old:=r7 }:TRen),true)))
 (.ret (({ o4.1 with Seq:=(W.add o4.1.Seq (W.of .u64 1)) }:TNames),o4.2.2.2.2.1,true))
def F_ref28_One (s:TNames) (u:TUop):Option (TNames×TRen×Bool):=(T_ref28_One s u).eval
def T_ref29_Put (l_0:Sl 248 (TRob)) (r:TRen) (most:W .i64):Tree (Sl 248 (TRob)×Bool):=
 .ite (W.ge (Sl.len l_0) most) (.ret ((Sl.nil:Sl 248 (TRob)),false))
 (.opt (Sl.app? l_0 (Sl.lit 248 [(TRob.mk r false (W.of .u32 0) (W.of .u32 0) r.Uop.Cause r.Uop.Tval false)] rfl:Sl 248 (TRob))) fun l1=>
 .ret (l1,true))
def F_ref29_Put (l_0:Sl 248 (TRob)) (r:TRen) (most:W .i64):Option (Sl 248 (TRob)×Bool):=(T_ref29_Put l_0 r most).eval
def T_ref27_is (f:TPhys) (p:W .i64):Tree (Bool):=
 .ite (W.ge p (W.of .i64 0)) (.ite (W.lt p (Sl.len f.Val)) (.ret (W.lt p (Sl.len f.Ready)))
 (.ret false))
 (.ret false)
def F_ref27_is (f:TPhys) (p:W .i64):Option (Bool):=(T_ref27_is f p).eval
def T_ref27_Get (f:TPhys) (p:W .i64):Tree (W .u32×Bool):=
 .opt (F_ref27_is f p) fun r1=>
 .ite (!r1) (.ret ((W.of .u32 0),true))
 (.opt (Sl.get? f.Ready p) fun y2=>
 .ite (!y2) (.ret ((W.of .u32 0),false))
 (.opt (Sl.get? f.Val p) fun y3=>
 .ret (y3,true)))
def F_ref27_Get (f:TPhys) (p:W .i64):Option (W .u32×Bool):=(T_ref27_Get f p).eval
def T_ref30_Put (l_0:Sl 224 (TIq)) (r:TRen) (ready:Arr 3 (Bool)) (most:W .i64):Tree (Sl 224 (TIq)×Bool):=
 .ite (W.ge (Sl.len l_0) most) (.ret ((Sl.nil:Sl 224 (TIq)),false))
 (.opt (Sl.app? l_0 (Sl.lit 224 [(TIq.mk r ready)] rfl:Sl 224 (TIq))) fun l1=>
 .ret (l1,true))
def F_ref30_Put (l_0:Sl 224 (TIq)) (r:TRen) (ready:Arr 3 (Bool)) (most:W .i64):Option (Sl 224 (TIq)×Bool):=(T_ref30_Put l_0 r ready most).eval
def T_ref27_copied (f:TPhys):Tree (TPhys):=
 .ret (TPhys.mk f.Val f.Ready)
def F_ref27_copied (f:TPhys):Option (TPhys):=(T_ref27_copied f).eval
def T_ref27_Drop (f:TPhys) (p:W .i64):Tree (TPhys):=
 .opt (F_ref27_copied f) fun r1=>
 .opt (F_ref27_is f p) fun r2=>
 .ite r2 (.opt (idx? (List.length r1.Ready.l) p) fun j3=>
 .ret ({ r1 with Ready:=(Sl.set r1.Ready j3 false) }:TPhys))
 (.ret r1)
def F_ref27_Drop (f:TPhys) (p:W .i64):Option (TPhys):=(T_ref27_Drop f p).eval
def T_ref35_Put (l_0:Sl 48 (TLq)) (seq:W .u64) (pc:W .u32) (most:W .i64):Tree (Sl 48 (TLq)×Bool):=
 .ite (W.ge (Sl.len l_0) most) (.ret ((Sl.nil:Sl 48 (TLq)),false))
 (.opt (Sl.app? l_0 (Sl.lit 48 [(TLq.mk seq pc (W.of .u32 0) (W.of .i64 0) false false (W.of .u64 0) false)] rfl:Sl 48 (TLq))) fun l1=>
 .ret (l1,true))
def F_ref35_Put (l_0:Sl 48 (TLq)) (seq:W .u64) (pc:W .u32) (most:W .i64):Option (Sl 48 (TLq)×Bool):=(T_ref35_Put l_0 seq pc most).eval
def T_ref33_Put (l_0:Sl 32 (TSq)) (seq:W .u64) (most:W .i64):Tree (Sl 32 (TSq)×Bool):=
 .ite (W.ge (Sl.len l_0) most) (.ret ((Sl.nil:Sl 32 (TSq)),false))
 (.opt (Sl.app? l_0 (Sl.lit 32 [(TSq.mk seq (W.of .u32 0) (W.of .u32 0) (W.of .i64 0) false)] rfl:Sl 32 (TSq))) fun l1=>
 .ret (l1,true))
def F_ref33_Put (l_0:Sl 32 (TSq)) (seq:W .u64) (most:W .i64):Option (Sl 32 (TSq)×Bool):=(T_ref33_Put l_0 seq most).eval
def B_ref45_put_19 (c:TCore) (u:TUop) (t_4:TCore) (t_5:TNote) (r:TRen) (ready:Arr 3 (Bool)) (k:W .i64):Tree (Rnd (TCore×TUop×TCore×TNote×TRen×Arr 3 (Bool)×W .i64×Unit) (TCore×TUop×TCore×TNote×TRen×Arr 3 (Bool)×Unit)):=
 .ite (W.lt k (W.of .i64 3)) (.opt (idx? 3 k) fun j3=>
 .opt (F_ref27_Get c.Phys (Arr.get r.In j3)) fun r4=>
 .opt (idx? 3 k) fun j5=>
 .ret (.next (c,u,t_4,t_5,r,(Arr.set ready j5 r4.2),(W.add k (W.of .i64 1)),())))
 (.ret (.out (c,u,t_4,t_5,r,ready,())))
def L_ref45_put_19 (a:TCore×TUop×TCore×TNote×TRen×Arr 3 (Bool)×W .i64×Unit):Option (TCore×TUop×TCore×TNote×TRen×Arr 3 (Bool)×Unit):=iter (fun a:TCore×TUop×TCore×TNote×TRen×Arr 3 (Bool)×W .i64×Unit=>(B_ref45_put_19 a.1 a.2.1 a.2.2.1 a.2.2.2.1 a.2.2.2.2.1 a.2.2.2.2.2.1 a.2.2.2.2.2.2.1).eval) fuel a
def T_ref45_put (c:TCore) (u:TUop):Tree (TCore×TNote):=
 .opt (F_ref28_One c.Names u) fun r1=>
 .opt (F_ref29_Put c.Rob r1.2.1 c.Conf.Rob) fun r2=>
 .ite r2.2 (.ite (W.ne u.Unit (W.of .i64 7)) (.opt (L_ref45_put_19 ((({ c with Names:=r1.1,Rob:=r2.1 }:TCore),u,(TCore.mk (TConf.mk (W.of .i64 0) (W.of .i64 0) (W.of .i64 0) (W.of .i64 0) (W.of .i64 0) (W.of .i64 0) (W.of .i64 0) (W.of .i64 0) (W.of .i64 0) (W.of .i64 0) (W.of .i64 0) (W.of .i64 0) (W.of .i64 0) (W.of .i64 0) (W.of .i64 0) (W.of .i64 0) (W.of .i64 0) (W.of .i64 0) (W.of .i64 0) (W.of .i64 0) (W.of .i64 0) false) (TArch.mk (W.of .u32 0) (Arr.rep 16 (W.of .u32 0):Arr 16 (W .u32)) (Arr.rep 12 (W.of .u32 0):Arr 12 (W .u32)) false) (Sl.nil:Sl 1 (W .u8)) (Sl.nil:Sl 4 (W .u32)) (W.of .u32 0) false (TPred.mk (W.of .u32 0) (Sl.nil:Sl 1 (W .u8)) (Sl.nil:Sl 16 (TBtb)) (W.of .i64 0) (Sl.nil:Sl 4 (W .u32)) (W.of .i64 0)) (Sl.nil:Sl 24 (TTlb)) (W.of .i64 0) (Sl.nil:Sl 56 (TSlot)) (TNames.mk (Arr.rep 16 (W.of .i64 0):Arr 16 (W .i64)) (Arr.rep 16 (W.of .i64 0):Arr 16 (W .i64)) (TFree.mk (Sl.nil:Sl 8 (W .i64)) (W.of .i64 0) (W.of .i64 0)) (W.of .u64 0)) (TPhys.mk (Sl.nil:Sl 4 (W .u32)) (Sl.nil:Sl 1 (Bool))) (Sl.nil:Sl 248 (TRob)) (Sl.nil:Sl 224 (TIq)) (Sl.nil:Sl 48 (TLq)) (Sl.nil:Sl 32 (TSq)) (Sl.nil:Sl 16 (TSb)) (Sl.nil:Sl 256 (TFlight)) (Sl.nil:Sl 1 (W .u8)) (W.of .i64 0) (W.of .i64 0)),(TNote.mk (W.of .i64 0) (W.of .i64 0) (W.of .u64 0) (W.of .u32 0)),r1.2.1,(Arr.lit 3 [false,false,false] rfl:Arr 3 (Bool)),(W.of .i64 0),()))) fun o6=>
 .opt (F_ref30_Put o6.1.Iq o6.2.2.2.2.1 o6.2.2.2.2.2.1 o6.1.Conf.Iq) fun r7=>
 .ite r7.2 (.opt (F_ref27_Drop o6.1.Phys o6.2.2.2.2.1.Out) fun r8=>
 .ite (W.eq o6.2.1.Unit (W.of .i64 5)) (.opt (F_ref35_Put o6.1.Lq o6.2.2.2.2.1.Seq o6.2.1.Slot.PC o6.1.Conf.Lq) fun r9=>
 .ite r9.2 (.ite (W.eq o6.2.1.Unit (W.of .i64 6)) (.opt (F_ref33_Put o6.1.Sq o6.2.2.2.2.1.Seq o6.1.Conf.Sq) fun r10=>
 .ite r10.2 (.ret (({ o6.1 with Iq:=r7.1,Phys:=r8,Lq:=r9.1,Sq:=r10.1 }:TCore),(TNote.mk o6.1.Cycle (W.of .i64 2) o6.2.2.2.2.1.Seq o6.2.1.Slot.PC)))
 (.ret (({ o6.1 with Iq:=r7.1,Phys:=r8,Lq:=r9.1 }:TCore),(TNote.mk o6.1.Cycle (W.of .i64 2) o6.2.2.2.2.1.Seq o6.2.1.Slot.PC))))
 (.ret (({ o6.1 with Iq:=r7.1,Phys:=r8,Lq:=r9.1 }:TCore),(TNote.mk o6.1.Cycle (W.of .i64 2) o6.2.2.2.2.1.Seq o6.2.1.Slot.PC))))
 (.ite (W.eq o6.2.1.Unit (W.of .i64 6)) (.opt (F_ref33_Put o6.1.Sq o6.2.2.2.2.1.Seq o6.1.Conf.Sq) fun r11=>
 .ite r11.2 (.ret (({ o6.1 with Iq:=r7.1,Phys:=r8,Sq:=r11.1 }:TCore),(TNote.mk o6.1.Cycle (W.of .i64 2) o6.2.2.2.2.1.Seq o6.2.1.Slot.PC)))
 (.ret (({ o6.1 with Iq:=r7.1,Phys:=r8 }:TCore),(TNote.mk o6.1.Cycle (W.of .i64 2) o6.2.2.2.2.1.Seq o6.2.1.Slot.PC))))
 (.ret (({ o6.1 with Iq:=r7.1,Phys:=r8 }:TCore),(TNote.mk o6.1.Cycle (W.of .i64 2) o6.2.2.2.2.1.Seq o6.2.1.Slot.PC)))))
 (.ite (W.eq o6.2.1.Unit (W.of .i64 6)) (.opt (F_ref33_Put o6.1.Sq o6.2.2.2.2.1.Seq o6.1.Conf.Sq) fun r12=>
 .ite r12.2 (.ret (({ o6.1 with Iq:=r7.1,Phys:=r8,Sq:=r12.1 }:TCore),(TNote.mk o6.1.Cycle (W.of .i64 2) o6.2.2.2.2.1.Seq o6.2.1.Slot.PC)))
 (.ret (({ o6.1 with Iq:=r7.1,Phys:=r8 }:TCore),(TNote.mk o6.1.Cycle (W.of .i64 2) o6.2.2.2.2.1.Seq o6.2.1.Slot.PC))))
 (.ret (({ o6.1 with Iq:=r7.1,Phys:=r8 }:TCore),(TNote.mk o6.1.Cycle (W.of .i64 2) o6.2.2.2.2.1.Seq o6.2.1.Slot.PC)))))
 (.opt (F_ref27_Drop o6.1.Phys o6.2.2.2.2.1.Out) fun r13=>
 .ite (W.eq o6.2.1.Unit (W.of .i64 5)) (.opt (F_ref35_Put o6.1.Lq o6.2.2.2.2.1.Seq o6.2.1.Slot.PC o6.1.Conf.Lq) fun r14=>
 .ite r14.2 (.ite (W.eq o6.2.1.Unit (W.of .i64 6)) (.opt (F_ref33_Put o6.1.Sq o6.2.2.2.2.1.Seq o6.1.Conf.Sq) fun r15=>
 .ite r15.2 (.ret (({ o6.1 with Phys:=r13,Lq:=r14.1,Sq:=r15.1 }:TCore),(TNote.mk o6.1.Cycle (W.of .i64 2) o6.2.2.2.2.1.Seq o6.2.1.Slot.PC)))
 (.ret (({ o6.1 with Phys:=r13,Lq:=r14.1 }:TCore),(TNote.mk o6.1.Cycle (W.of .i64 2) o6.2.2.2.2.1.Seq o6.2.1.Slot.PC))))
 (.ret (({ o6.1 with Phys:=r13,Lq:=r14.1 }:TCore),(TNote.mk o6.1.Cycle (W.of .i64 2) o6.2.2.2.2.1.Seq o6.2.1.Slot.PC))))
 (.ite (W.eq o6.2.1.Unit (W.of .i64 6)) (.opt (F_ref33_Put o6.1.Sq o6.2.2.2.2.1.Seq o6.1.Conf.Sq) fun r16=>
 .ite r16.2 (.ret (({ o6.1 with Phys:=r13,Sq:=r16.1 }:TCore),(TNote.mk o6.1.Cycle (W.of .i64 2) o6.2.2.2.2.1.Seq o6.2.1.Slot.PC)))
 (.ret (({ o6.1 with Phys:=r13 }:TCore),(TNote.mk o6.1.Cycle (W.of .i64 2) o6.2.2.2.2.1.Seq o6.2.1.Slot.PC))))
 (.ret (({ o6.1 with Phys:=r13 }:TCore),(TNote.mk o6.1.Cycle (W.of .i64 2) o6.2.2.2.2.1.Seq o6.2.1.Slot.PC)))))
 (.ite (W.eq o6.2.1.Unit (W.of .i64 6)) (.opt (F_ref33_Put o6.1.Sq o6.2.2.2.2.1.Seq o6.1.Conf.Sq) fun r17=>
 .ite r17.2 (.ret (({ o6.1 with Phys:=r13,Sq:=r17.1 }:TCore),(TNote.mk o6.1.Cycle (W.of .i64 2) o6.2.2.2.2.1.Seq o6.2.1.Slot.PC)))
 (.ret (({ o6.1 with Phys:=r13 }:TCore),(TNote.mk o6.1.Cycle (W.of .i64 2) o6.2.2.2.2.1.Seq o6.2.1.Slot.PC))))
 (.ret (({ o6.1 with Phys:=r13 }:TCore),(TNote.mk o6.1.Cycle (W.of .i64 2) o6.2.2.2.2.1.Seq o6.2.1.Slot.PC))))))
 (.opt (F_ref27_Drop c.Phys r1.2.1.Out) fun r18=>
 .ite (W.eq u.Unit (W.of .i64 5)) (.opt (F_ref35_Put c.Lq r1.2.1.Seq u.Slot.PC c.Conf.Lq) fun r19=>
 .ite r19.2 (.ite (W.eq u.Unit (W.of .i64 6)) (.opt (F_ref33_Put c.Sq r1.2.1.Seq c.Conf.Sq) fun r20=>
 .ite r20.2 (.ret (({ c with Names:=r1.1,Rob:=r2.1,Phys:=r18,Lq:=r19.1,Sq:=r20.1 }:TCore),(TNote.mk c.Cycle (W.of .i64 2) r1.2.1.Seq u.Slot.PC)))
 (.ret (({ c with Names:=r1.1,Rob:=r2.1,Phys:=r18,Lq:=r19.1 }:TCore),(TNote.mk c.Cycle (W.of .i64 2) r1.2.1.Seq u.Slot.PC))))
 (.ret (({ c with Names:=r1.1,Rob:=r2.1,Phys:=r18,Lq:=r19.1 }:TCore),(TNote.mk c.Cycle (W.of .i64 2) r1.2.1.Seq u.Slot.PC))))
 (.ite (W.eq u.Unit (W.of .i64 6)) (.opt (F_ref33_Put c.Sq r1.2.1.Seq c.Conf.Sq) fun r21=>
 .ite r21.2 (.ret (({ c with Names:=r1.1,Rob:=r2.1,Phys:=r18,Sq:=r21.1 }:TCore),(TNote.mk c.Cycle (W.of .i64 2) r1.2.1.Seq u.Slot.PC)))
 (.ret (({ c with Names:=r1.1,Rob:=r2.1,Phys:=r18 }:TCore),(TNote.mk c.Cycle (W.of .i64 2) r1.2.1.Seq u.Slot.PC))))
 (.ret (({ c with Names:=r1.1,Rob:=r2.1,Phys:=r18 }:TCore),(TNote.mk c.Cycle (W.of .i64 2) r1.2.1.Seq u.Slot.PC)))))
 (.ite (W.eq u.Unit (W.of .i64 6)) (.opt (F_ref33_Put c.Sq r1.2.1.Seq c.Conf.Sq) fun r22=>
 .ite r22.2 (.ret (({ c with Names:=r1.1,Rob:=r2.1,Phys:=r18,Sq:=r22.1 }:TCore),(TNote.mk c.Cycle (W.of .i64 2) r1.2.1.Seq u.Slot.PC)))
 (.ret (({ c with Names:=r1.1,Rob:=r2.1,Phys:=r18 }:TCore),(TNote.mk c.Cycle (W.of .i64 2) r1.2.1.Seq u.Slot.PC))))
 (.ret (({ c with Names:=r1.1,Rob:=r2.1,Phys:=r18 }:TCore),(TNote.mk c.Cycle (W.of .i64 2) r1.2.1.Seq u.Slot.PC))))))
 (.ite (W.ne u.Unit (W.of .i64 7)) (.opt (L_ref45_put_19 ((({ c with Names:=r1.1 }:TCore),u,(TCore.mk (TConf.mk (W.of .i64 0) (W.of .i64 0) (W.of .i64 0) (W.of .i64 0) (W.of .i64 0) (W.of .i64 0) (W.of .i64 0) (W.of .i64 0) (W.of .i64 0) (W.of .i64 0) (W.of .i64 0) (W.of .i64 0) (W.of .i64 0) (W.of .i64 0) (W.of .i64 0) (W.of .i64 0) (W.of .i64 0) (W.of .i64 0) (W.of .i64 0) (W.of .i64 0) (W.of .i64 0) false) (TArch.mk (W.of .u32 0) (Arr.rep 16 (W.of .u32 0):Arr 16 (W .u32)) (Arr.rep 12 (W.of .u32 0):Arr 12 (W .u32)) false) (Sl.nil:Sl 1 (W .u8)) (Sl.nil:Sl 4 (W .u32)) (W.of .u32 0) false (TPred.mk (W.of .u32 0) (Sl.nil:Sl 1 (W .u8)) (Sl.nil:Sl 16 (TBtb)) (W.of .i64 0) (Sl.nil:Sl 4 (W .u32)) (W.of .i64 0)) (Sl.nil:Sl 24 (TTlb)) (W.of .i64 0) (Sl.nil:Sl 56 (TSlot)) (TNames.mk (Arr.rep 16 (W.of .i64 0):Arr 16 (W .i64)) (Arr.rep 16 (W.of .i64 0):Arr 16 (W .i64)) (TFree.mk (Sl.nil:Sl 8 (W .i64)) (W.of .i64 0) (W.of .i64 0)) (W.of .u64 0)) (TPhys.mk (Sl.nil:Sl 4 (W .u32)) (Sl.nil:Sl 1 (Bool))) (Sl.nil:Sl 248 (TRob)) (Sl.nil:Sl 224 (TIq)) (Sl.nil:Sl 48 (TLq)) (Sl.nil:Sl 32 (TSq)) (Sl.nil:Sl 16 (TSb)) (Sl.nil:Sl 256 (TFlight)) (Sl.nil:Sl 1 (W .u8)) (W.of .i64 0) (W.of .i64 0)),(TNote.mk (W.of .i64 0) (W.of .i64 0) (W.of .u64 0) (W.of .u32 0)),r1.2.1,(Arr.lit 3 [false,false,false] rfl:Arr 3 (Bool)),(W.of .i64 0),()))) fun o23=>
 .opt (F_ref30_Put o23.1.Iq o23.2.2.2.2.1 o23.2.2.2.2.2.1 o23.1.Conf.Iq) fun r24=>
 .ite r24.2 (.opt (F_ref27_Drop o23.1.Phys o23.2.2.2.2.1.Out) fun r25=>
 .ite (W.eq o23.2.1.Unit (W.of .i64 5)) (.opt (F_ref35_Put o23.1.Lq o23.2.2.2.2.1.Seq o23.2.1.Slot.PC o23.1.Conf.Lq) fun r26=>
 .ite r26.2 (.ite (W.eq o23.2.1.Unit (W.of .i64 6)) (.opt (F_ref33_Put o23.1.Sq o23.2.2.2.2.1.Seq o23.1.Conf.Sq) fun r27=>
 .ite r27.2 (.ret (({ o23.1 with Iq:=r24.1,Phys:=r25,Lq:=r26.1,Sq:=r27.1 }:TCore),(TNote.mk o23.1.Cycle (W.of .i64 2) o23.2.2.2.2.1.Seq o23.2.1.Slot.PC)))
 (.ret (({ o23.1 with Iq:=r24.1,Phys:=r25,Lq:=r26.1 }:TCore),(TNote.mk o23.1.Cycle (W.of .i64 2) o23.2.2.2.2.1.Seq o23.2.1.Slot.PC))))
 (.ret (({ o23.1 with Iq:=r24.1,Phys:=r25,Lq:=r26.1 }:TCore),(TNote.mk o23.1.Cycle (W.of .i64 2) o23.2.2.2.2.1.Seq o23.2.1.Slot.PC))))
 (.ite (W.eq o23.2.1.Unit (W.of .i64 6)) (.opt (F_ref33_Put o23.1.Sq o23.2.2.2.2.1.Seq o23.1.Conf.Sq) fun r28=>
 .ite r28.2 (.ret (({ o23.1 with Iq:=r24.1,Phys:=r25,Sq:=r28.1 }:TCore),(TNote.mk o23.1.Cycle (W.of .i64 2) o23.2.2.2.2.1.Seq o23.2.1.Slot.PC)))
 (.ret (({ o23.1 with Iq:=r24.1,Phys:=r25 }:TCore),(TNote.mk o23.1.Cycle (W.of .i64 2) o23.2.2.2.2.1.Seq o23.2.1.Slot.PC))))
 (.ret (({ o23.1 with Iq:=r24.1,Phys:=r25 }:TCore),(TNote.mk o23.1.Cycle (W.of .i64 2) o23.2.2.2.2.1.Seq o23.2.1.Slot.PC)))))
 (.ite (W.eq o23.2.1.Unit (W.of .i64 6)) (.opt (F_ref33_Put o23.1.Sq o23.2.2.2.2.1.Seq o23.1.Conf.Sq) fun r29=>
 .ite r29.2 (.ret (({ o23.1 with Iq:=r24.1,Phys:=r25,Sq:=r29.1 }:TCore),(TNote.mk o23.1.Cycle (W.of .i64 2) o23.2.2.2.2.1.Seq o23.2.1.Slot.PC)))
 (.ret (({ o23.1 with Iq:=r24.1,Phys:=r25 }:TCore),(TNote.mk o23.1.Cycle (W.of .i64 2) o23.2.2.2.2.1.Seq o23.2.1.Slot.PC))))
 (.ret (({ o23.1 with Iq:=r24.1,Phys:=r25 }:TCore),(TNote.mk o23.1.Cycle (W.of .i64 2) o23.2.2.2.2.1.Seq o23.2.1.Slot.PC)))))
 (.opt (F_ref27_Drop o23.1.Phys o23.2.2.2.2.1.Out) fun r30=>
 .ite (W.eq o23.2.1.Unit (W.of .i64 5)) (.opt (F_ref35_Put o23.1.Lq o23.2.2.2.2.1.Seq o23.2.1.Slot.PC o23.1.Conf.Lq) fun r31=>
 .ite r31.2 (.ite (W.eq o23.2.1.Unit (W.of .i64 6)) (.opt (F_ref33_Put o23.1.Sq o23.2.2.2.2.1.Seq o23.1.Conf.Sq) fun r32=>
 .ite r32.2 (.ret (({ o23.1 with Phys:=r30,Lq:=r31.1,Sq:=r32.1 }:TCore),(TNote.mk o23.1.Cycle (W.of .i64 2) o23.2.2.2.2.1.Seq o23.2.1.Slot.PC)))
 (.ret (({ o23.1 with Phys:=r30,Lq:=r31.1 }:TCore),(TNote.mk o23.1.Cycle (W.of .i64 2) o23.2.2.2.2.1.Seq o23.2.1.Slot.PC))))
 (.ret (({ o23.1 with Phys:=r30,Lq:=r31.1 }:TCore),(TNote.mk o23.1.Cycle (W.of .i64 2) o23.2.2.2.2.1.Seq o23.2.1.Slot.PC))))
 (.ite (W.eq o23.2.1.Unit (W.of .i64 6)) (.opt (F_ref33_Put o23.1.Sq o23.2.2.2.2.1.Seq o23.1.Conf.Sq) fun r33=>
 .ite r33.2 (.ret (({ o23.1 with Phys:=r30,Sq:=r33.1 }:TCore),(TNote.mk o23.1.Cycle (W.of .i64 2) o23.2.2.2.2.1.Seq o23.2.1.Slot.PC)))
 (.ret (({ o23.1 with Phys:=r30 }:TCore),(TNote.mk o23.1.Cycle (W.of .i64 2) o23.2.2.2.2.1.Seq o23.2.1.Slot.PC))))
 (.ret (({ o23.1 with Phys:=r30 }:TCore),(TNote.mk o23.1.Cycle (W.of .i64 2) o23.2.2.2.2.1.Seq o23.2.1.Slot.PC)))))
 (.ite (W.eq o23.2.1.Unit (W.of .i64 6)) (.opt (F_ref33_Put o23.1.Sq o23.2.2.2.2.1.Seq o23.1.Conf.Sq) fun r34=>
 .ite r34.2 (.ret (({ o23.1 with Phys:=r30,Sq:=r34.1 }:TCore),(TNote.mk o23.1.Cycle (W.of .i64 2) o23.2.2.2.2.1.Seq o23.2.1.Slot.PC)))
 (.ret (({ o23.1 with Phys:=r30 }:TCore),(TNote.mk o23.1.Cycle (W.of .i64 2) o23.2.2.2.2.1.Seq o23.2.1.Slot.PC))))
 (.ret (({ o23.1 with Phys:=r30 }:TCore),(TNote.mk o23.1.Cycle (W.of .i64 2) o23.2.2.2.2.1.Seq o23.2.1.Slot.PC))))))
 (.opt (F_ref27_Drop c.Phys r1.2.1.Out) fun r35=>
 .ite (W.eq u.Unit (W.of .i64 5)) (.opt (F_ref35_Put c.Lq r1.2.1.Seq u.Slot.PC c.Conf.Lq) fun r36=>
 .ite r36.2 (.ite (W.eq u.Unit (W.of .i64 6)) (.opt (F_ref33_Put c.Sq r1.2.1.Seq c.Conf.Sq) fun r37=>
 .ite r37.2 (.ret (({ c with Names:=r1.1,Phys:=r35,Lq:=r36.1,Sq:=r37.1 }:TCore),(TNote.mk c.Cycle (W.of .i64 2) r1.2.1.Seq u.Slot.PC)))
 (.ret (({ c with Names:=r1.1,Phys:=r35,Lq:=r36.1 }:TCore),(TNote.mk c.Cycle (W.of .i64 2) r1.2.1.Seq u.Slot.PC))))
 (.ret (({ c with Names:=r1.1,Phys:=r35,Lq:=r36.1 }:TCore),(TNote.mk c.Cycle (W.of .i64 2) r1.2.1.Seq u.Slot.PC))))
 (.ite (W.eq u.Unit (W.of .i64 6)) (.opt (F_ref33_Put c.Sq r1.2.1.Seq c.Conf.Sq) fun r38=>
 .ite r38.2 (.ret (({ c with Names:=r1.1,Phys:=r35,Sq:=r38.1 }:TCore),(TNote.mk c.Cycle (W.of .i64 2) r1.2.1.Seq u.Slot.PC)))
 (.ret (({ c with Names:=r1.1,Phys:=r35 }:TCore),(TNote.mk c.Cycle (W.of .i64 2) r1.2.1.Seq u.Slot.PC))))
 (.ret (({ c with Names:=r1.1,Phys:=r35 }:TCore),(TNote.mk c.Cycle (W.of .i64 2) r1.2.1.Seq u.Slot.PC)))))
 (.ite (W.eq u.Unit (W.of .i64 6)) (.opt (F_ref33_Put c.Sq r1.2.1.Seq c.Conf.Sq) fun r39=>
 .ite r39.2 (.ret (({ c with Names:=r1.1,Phys:=r35,Sq:=r39.1 }:TCore),(TNote.mk c.Cycle (W.of .i64 2) r1.2.1.Seq u.Slot.PC)))
 (.ret (({ c with Names:=r1.1,Phys:=r35 }:TCore),(TNote.mk c.Cycle (W.of .i64 2) r1.2.1.Seq u.Slot.PC))))
 (.ret (({ c with Names:=r1.1,Phys:=r35 }:TCore),(TNote.mk c.Cycle (W.of .i64 2) r1.2.1.Seq u.Slot.PC))))))
def F_ref45_put (c:TCore) (u:TUop):Option (TCore×TNote):=(T_ref45_put c u).eval
def B_ref45_Stage_32 (c t_4:TCore) (notes:Sl 32 (TNote)) (n_7:W .i64) (l_8:Sl 168 (TUop)) (i:W .i64):Tree (Rnd (TCore×TCore×Sl 32 (TNote)×W .i64×Sl 168 (TUop)×W .i64×Unit) (TCore×TCore×Sl 32 (TNote)×W .i64×Unit)):=
 .ite (W.lt i (Sl.len l_8)) (.opt (Sl.get? l_8 i) fun y5=>
 .opt (F_ref45_put c y5) fun r6=>
 .opt (Sl.app? notes (Sl.lit 32 [r6.2] rfl:Sl 32 (TNote))) fun l7=>
 .ret (.next (r6.1,t_4,l7,n_7,l_8,(W.add i (W.of .i64 1)),())))
 (.ret (.out (c,t_4,notes,n_7,())))
def L_ref45_Stage_32 (a:TCore×TCore×Sl 32 (TNote)×W .i64×Sl 168 (TUop)×W .i64×Unit):Option (TCore×TCore×Sl 32 (TNote)×W .i64×Unit):=iter (fun a:TCore×TCore×Sl 32 (TNote)×W .i64×Sl 168 (TUop)×W .i64×Unit=>(B_ref45_Stage_32 a.1 a.2.1 a.2.2.1 a.2.2.2.1 a.2.2.2.2.1 a.2.2.2.2.2.1).eval) fuel a
end
end Go.Proofs.YtkddkpmijhionaaGreatDoor
