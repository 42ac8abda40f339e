/- YtijckobfnmkjdaaGreatDoorTrees2: the document's functions as decision trees: plain definitions, of no function of this seat's program. No statement of the seat is proved here. -/
import Derived.Test.YtijckobfnmkjdaaGreatDoorTrees
set_option linter.unusedSimpArgs false
set_option linter.unusedVariables false
set_option maxRecDepth 100000
namespace Go.Proofs.YtijckobfnmkjdaaGreatDoor
open Go Go.A2
noncomputable section
def T_ref11_Masked (n_0:W .i64):Tree (W .u32):=
 .ite (W.eq n_0 (W.of .i64 0)) (.ret (W.of .u32 63))
 (.ite (W.eq n_0 (W.of .i64 1)) (.ret (W.of .u32 31))
 (.ite (W.eq n_0 (W.of .i64 9)) (.ret (W.of .u32 7))
 (.ite (W.eq n_0 (W.of .i64 10)) (.ret (W.of .u32 7))
 (.ite (W.eq n_0 (W.of .i64 5)) (.ret (W.of .u32 4294967232))
 (.ite (W.lt n_0 (W.of .i64 0)) (.ret (W.of .u32 0))
 (.ite (W.gt n_0 (W.of .i64 11)) (.ret (W.of .u32 0))
 (.ret (W.of .u32 4294967295))))))))
def F_ref11_Masked (n_0:W .i64):Option (W .u32):=(T_ref11_Masked n_0).eval
def B_ref06_Form_3 (op:W .i64) (t_3:Bool):Tree (W .i64×Bool×Unit):=
 .ite t_3 (.ret (op,true,()))
 (.ret (op,(W.eq op (W.of .i64 24)),()))
def L_ref06_Form_3 (a:W .i64×Bool×Unit):Option (W .i64×Bool×Unit):=(B_ref06_Form_3 a.1 a.2.1).eval
def B_ref06_Form_15 (op:W .i64) (t_19:Bool):Tree (W .i64×Bool×Unit):=
 .ite t_19 (.ret (op,true,()))
 (.ret (op,(W.eq op (W.of .i64 50)),()))
def L_ref06_Form_15 (a:W .i64×Bool×Unit):Option (W .i64×Bool×Unit):=(B_ref06_Form_15 a.1 a.2.1).eval
def B_ref06_Form_13 (op:W .i64) (t_19:Bool):Tree (W .i64×Bool×Unit):=
 .ite t_19 (.ret (op,true,()))
 (.ite (W.ge op (W.of .i64 34)) (.opt (L_ref06_Form_15 ((op,(W.le op (W.of .i64 39)),()))) fun o2=>
 .ret (o2.1,o2.2.1,()))
 (.opt (L_ref06_Form_15 ((op,false,()))) fun o3=>
 .ret (o3.1,o3.2.1,())))
def L_ref06_Form_13 (a:W .i64×Bool×Unit):Option (W .i64×Bool×Unit):=(B_ref06_Form_13 a.1 a.2.1).eval
def B_ref06_Form_63 (t_71:Bool):Tree ((W .i64×Unit)⊕(Unit×Unit)):=
 .ite t_71 (.ret (.inl ((W.of .i64 10),())))
 (.ret (.inr ((),())))
def L_ref06_Form_63 (a:Bool×Unit):Option ((W .i64×Unit)⊕(Unit×Unit)):=(B_ref06_Form_63 a.1).eval
def B_ref06_Form_49 (op:W .i64) (t_66:Bool):Tree ((W .i64×Unit)⊕(Unit×Unit)):=
 .ite t_66 (.ret (.inl ((W.of .i64 9),())))
 (.ite (W.eq op (W.of .i64 54)) (.opt (L_ref06_Form_63 ((true,()))) fun o5=>
 .sum o5 (fun p6=>
 .ret (.inl (p6.1,())))
 (fun o7=>
 .ret (.inr ((),()))))
 (.ite (W.eq op (W.of .i64 55)) (.opt (L_ref06_Form_63 ((true,()))) fun o8=>
 .sum o8 (fun p9=>
 .ret (.inl (p9.1,())))
 (fun o10=>
 .ret (.inr ((),()))))
 (.ite (W.eq op (W.of .i64 58)) (.opt (L_ref06_Form_63 ((true,()))) fun o11=>
 .sum o11 (fun p12=>
 .ret (.inl (p12.1,())))
 (fun o13=>
 .ret (.inr ((),()))))
 (.ite (W.eq op (W.of .i64 59)) (.opt (L_ref06_Form_63 ((true,()))) fun o14=>
 .sum o14 (fun p15=>
 .ret (.inl (p15.1,())))
 (fun o16=>
 .ret (.inr ((),()))))
 (.ite (W.eq op (W.of .i64 61)) (.opt (L_ref06_Form_63 ((true,()))) fun o17=>
 .sum o17 (fun p18=>
 .ret (.inl (p18.1,())))
 (fun o19=>
 .ret (.inr ((),()))))
 (.opt (L_ref06_Form_63 (((W.eq op (W.of .i64 63)),()))) fun o20=>
 .sum o20 (fun p21=>
 .ret (.inl (p21.1,())))
 (fun o22=>
 .ret (.inr ((),())))))))))
def L_ref06_Form_49 (a:W .i64×Bool×Unit):Option ((W .i64×Unit)⊕(Unit×Unit)):=(B_ref06_Form_49 a.1 a.2.1).eval
def B_ref06_Form_35 (op:W .i64) (t_53:Bool):Tree ((W .i64×Unit)⊕(Unit×Unit)):=
 .ite t_53 (.ret (.inl ((W.of .i64 6),())))
 (.ite (W.eq op (W.of .i64 56)) (.ret (.inl ((W.of .i64 7),())))
 (.ite (W.eq op (W.of .i64 57)) (.ret (.inl ((W.of .i64 8),())))
 (.ite (W.eq op (W.of .i64 60)) (.opt (L_ref06_Form_49 ((op,true,()))) fun o23=>
 .sum o23 (fun p24=>
 .ret (.inl (p24.1,())))
 (fun o25=>
 .ret (.inr ((),()))))
 (.opt (L_ref06_Form_49 ((op,(W.eq op (W.of .i64 62)),()))) fun o26=>
 .sum o26 (fun p27=>
 .ret (.inl (p27.1,())))
 (fun o28=>
 .ret (.inr ((),())))))))
def L_ref06_Form_35 (a:W .i64×Bool×Unit):Option ((W .i64×Unit)⊕(Unit×Unit)):=(B_ref06_Form_35 a.1 a.2.1).eval
def B_ref06_Form_31 (op:W .i64) (t_46:Bool):Tree ((W .i64×Unit)⊕(Unit×Unit)):=
 .ite t_46 (.ret (.inl ((W.of .i64 4),())))
 (.ite (W.ge op (W.of .i64 51)) (.opt (L_ref06_Form_35 ((op,(W.le op (W.of .i64 53)),()))) fun o29=>
 .sum o29 (fun p30=>
 .ret (.inl (p30.1,())))
 (fun o31=>
 .ret (.inr ((),()))))
 (.opt (L_ref06_Form_35 ((op,false,()))) fun o32=>
 .sum o32 (fun p33=>
 .ret (.inl (p33.1,())))
 (fun o34=>
 .ret (.inr ((),())))))
def L_ref06_Form_31 (a:W .i64×Bool×Unit):Option ((W .i64×Unit)⊕(Unit×Unit)):=(B_ref06_Form_31 a.1 a.2.1).eval
def B_ref06_Form_27 (op:W .i64) (t_39:Bool):Tree ((W .i64×Unit)⊕(Unit×Unit)):=
 .ite t_39 (.ret (.inl ((W.of .i64 3),())))
 (.ite (W.ge op (W.of .i64 43)) (.opt (L_ref06_Form_31 ((op,(W.le op (W.of .i64 48)),()))) fun o35=>
 .sum o35 (fun p36=>
 .ret (.inl (p36.1,())))
 (fun o37=>
 .ret (.inr ((),()))))
 (.opt (L_ref06_Form_31 ((op,false,()))) fun o38=>
 .sum o38 (fun p39=>
 .ret (.inl (p39.1,())))
 (fun o40=>
 .ret (.inr ((),())))))
def L_ref06_Form_27 (a:W .i64×Bool×Unit):Option ((W .i64×Unit)⊕(Unit×Unit)):=(B_ref06_Form_27 a.1 a.2.1).eval
def B_ref06_Form_23 (op:W .i64) (t_34:Bool):Tree ((W .i64×Unit)⊕(Unit×Unit)):=
 .ite t_34 (.ret (.inl ((W.of .i64 5),())))
 (.ite (W.ge op (W.of .i64 40)) (.opt (L_ref06_Form_27 ((op,(W.le op (W.of .i64 42)),()))) fun o41=>
 .sum o41 (fun p42=>
 .ret (.inl (p42.1,())))
 (fun o43=>
 .ret (.inr ((),()))))
 (.opt (L_ref06_Form_27 ((op,false,()))) fun o44=>
 .sum o44 (fun p45=>
 .ret (.inl (p45.1,())))
 (fun o46=>
 .ret (.inr ((),())))))
def L_ref06_Form_23 (a:W .i64×Bool×Unit):Option ((W .i64×Unit)⊕(Unit×Unit)):=(B_ref06_Form_23 a.1 a.2.1).eval
def B_ref06_Form_17 (op:W .i64) (t_19:Bool):Tree ((W .i64×Unit)⊕(Unit×Unit)):=
 .ite t_19 (.ret (.inl ((W.of .i64 2),())))
 (.ite (W.eq op (W.of .i64 33)) (.opt (L_ref06_Form_23 ((op,true,()))) fun o47=>
 .sum o47 (fun p48=>
 .ret (.inl (p48.1,())))
 (fun o49=>
 .ret (.inr ((),()))))
 (.opt (L_ref06_Form_23 ((op,(W.eq op (W.of .i64 49)),()))) fun o50=>
 .sum o50 (fun p51=>
 .ret (.inl (p51.1,())))
 (fun o52=>
 .ret (.inr ((),())))))
def L_ref06_Form_17 (a:W .i64×Bool×Unit):Option ((W .i64×Unit)⊕(Unit×Unit)):=(B_ref06_Form_17 a.1 a.2.1).eval
def B_ref06_Form_9 (op:W .i64) (t_12:Bool):Tree ((W .i64×Unit)⊕(Unit×Unit)):=
 .ite t_12 (.ret (.inl ((W.of .i64 11),())))
 (.ite (W.ge op (W.of .i64 25)) (.opt (L_ref06_Form_13 ((op,(W.le op (W.of .i64 32)),()))) fun o4=>
 .opt (L_ref06_Form_17 ((o4.1,o4.2.1,()))) fun o53=>
 .sum o53 (fun p54=>
 .ret (.inl (p54.1,())))
 (fun o55=>
 .ret (.inr ((),()))))
 (.opt (L_ref06_Form_13 ((op,false,()))) fun o56=>
 .opt (L_ref06_Form_17 ((o56.1,o56.2.1,()))) fun o57=>
 .sum o57 (fun p58=>
 .ret (.inl (p58.1,())))
 (fun o59=>
 .ret (.inr ((),())))))
def L_ref06_Form_9 (a:W .i64×Bool×Unit):Option ((W .i64×Unit)⊕(Unit×Unit)):=(B_ref06_Form_9 a.1 a.2.1).eval
def B_ref06_Form_5 (op:W .i64) (t_3:Bool):Tree ((W .i64×Unit)⊕(Unit×Unit)):=
 .ite t_3 (.ret (.inl ((W.of .i64 1),())))
 (.ite (W.ge op (W.of .i64 21)) (.opt (L_ref06_Form_9 ((op,(W.le op (W.of .i64 23)),()))) fun o60=>
 .sum o60 (fun p61=>
 .ret (.inl (p61.1,())))
 (fun o62=>
 .ret (.inr ((),()))))
 (.opt (L_ref06_Form_9 ((op,false,()))) fun o63=>
 .sum o63 (fun p64=>
 .ret (.inl (p64.1,())))
 (fun o65=>
 .ret (.inr ((),())))))
def L_ref06_Form_5 (a:W .i64×Bool×Unit):Option ((W .i64×Unit)⊕(Unit×Unit)):=(B_ref06_Form_5 a.1 a.2.1).eval
def B_ref06_Form_67 :Tree (W .i64×Unit):=
 .ret ((W.of .i64 0),())
def L_ref06_Form_67 (a:Unit):Option (W .i64×Unit):=(B_ref06_Form_67).eval
def T_ref06_Form (op:W .i64):Tree (W .i64):=
 .ite (W.ge op (W.of .i64 1)) (.opt (L_ref06_Form_3 ((op,(W.le op (W.of .i64 20)),()))) fun o1=>
 .opt (L_ref06_Form_5 ((o1.1,o1.2.1,()))) fun o66=>
 .sum o66 (fun p67=>
 .ret p67.1)
 (fun o68=>
 .opt (L_ref06_Form_67 (())) fun o69=>
 .ret o69.1))
 (.opt (L_ref06_Form_3 ((op,false,()))) fun o70=>
 .opt (L_ref06_Form_5 ((o70.1,o70.2.1,()))) fun o71=>
 .sum o71 (fun p72=>
 .ret p72.1)
 (fun o73=>
 .opt (L_ref06_Form_67 (())) fun o74=>
 .ret o74.1))
def F_ref06_Form (op:W .i64):Option (W .i64):=(T_ref06_Form op).eval
def T_ref06_Has (form field:W .i64):Tree (Bool):=
 .ite (W.eq field (W.of .i64 1)) (.ite (W.eq form (W.of .i64 1)) (.ret true)
 (.ite (W.eq form (W.of .i64 2)) (.ret true)
 (.ite (W.eq form (W.of .i64 5)) (.ret true)
 (.ite (W.eq form (W.of .i64 6)) (.ret true)
 (.ite (W.eq form (W.of .i64 7)) (.ret true)
 (.ret (W.eq form (W.of .i64 11))))))))
 (.ite (W.eq field (W.of .i64 2)) (.ite (W.eq form (W.of .i64 1)) (.ret true)
 (.ite (W.eq form (W.of .i64 2)) (.ret true)
 (.ite (W.eq form (W.of .i64 3)) (.ret true)
 (.ite (W.eq form (W.of .i64 4)) (.ret true)
 (.ite (W.eq form (W.of .i64 6)) (.ret true)
 (.ite (W.eq form (W.of .i64 8)) (.ret true)
 (.ite (W.eq form (W.of .i64 9)) (.ret true)
 (.ret (W.eq form (W.of .i64 11))))))))))
 (.ite (W.eq field (W.of .i64 3)) (.ite (W.eq form (W.of .i64 1)) (.ret true)
 (.ite (W.eq form (W.of .i64 3)) (.ret true)
 (.ite (W.eq form (W.of .i64 4)) (.ret true)
 (.ret (W.eq form (W.of .i64 6))))))
 (.ite (W.eq form (W.of .i64 2)) (.ret true)
 (.ite (W.eq form (W.of .i64 3)) (.ret true)
 (.ite (W.eq form (W.of .i64 4)) (.ret true)
 (.ite (W.eq form (W.of .i64 5)) (.ret true)
 (.ite (W.eq form (W.of .i64 7)) (.ret true)
 (.ret (W.eq form (W.of .i64 8))))))))))
def F_ref06_Has (form field:W .i64):Option (Bool):=(T_ref06_Has form field).eval
def T_ref03_signed (x:W .u32):Tree (W .i64):=
 .ite (W.ge x (W.of .u32 2147483648)) (.ret (W.sub (W.conv (.i64) x) (W.of .i64 4294967296)))
 (.ret (W.conv (.i64) x))
def F_ref03_signed (x:W .u32):Option (W .i64):=(T_ref03_signed x).eval
def T_ref03_Taken (op:W .i64) (a b:W .u32):Tree (Bool):=
 .ite (W.eq op (W.of .i64 43)) (.ret (W.eq a b))
 (.ite (W.eq op (W.of .i64 44)) (.ret (W.ne a b))
 (.ite (W.eq op (W.of .i64 45)) (.opt (F_ref03_signed a) fun r1=>
 .opt (F_ref03_signed b) fun r2=>
 .ret (W.lt r1 r2))
 (.ite (W.eq op (W.of .i64 46)) (.opt (F_ref03_signed a) fun r3=>
 .opt (F_ref03_signed b) fun r4=>
 .ret (W.ge r3 r4))
 (.ite (W.eq op (W.of .i64 47)) (.ret (W.lt a b))
 (.ite (W.eq op (W.of .i64 48)) (.ret (W.ge a b))
 (.ret false))))))
def F_ref03_Taken (op:W .i64) (a b:W .u32):Option (Bool):=(T_ref03_Taken op a b).eval
def T_ref03_Cmov (old a b:W .u32):Tree (W .u32):=
 .ite (W.ne b (W.of .u32 0)) (.ret a)
 (.ret old)
def F_ref03_Cmov (old a b:W .u32):Option (W .u32):=(T_ref03_Cmov old a b).eval
def T_ref04_signed (x:W .u32):Tree (W .i64):=
 .ite (W.ge x (W.of .u32 2147483648)) (.ret (W.sub (W.conv (.i64) x) (W.of .i64 4294967296)))
 (.ret (W.conv (.i64) x))
def F_ref04_signed (x:W .u32):Option (W .i64):=(T_ref04_signed x).eval
def T_ref04_Do (op:W .i64) (a b:W .u32):Tree (W .u32×Bool):=
 .ite (W.eq op (W.of .i64 11)) (.ret ((W.conv (.u32) (W.rem (W.mul (W.conv (.u64) a) (W.conv (.u64) b)) (W.of .u64 4294967296))),true))
 (.ite (W.eq op (W.of .i64 13)) (.ret ((W.conv (.u32) (W.quo (W.mul (W.conv (.u64) a) (W.conv (.u64) b)) (W.of .u64 4294967296))),true))
 (.ite (W.eq op (W.of .i64 12)) (.opt (F_ref04_signed a) fun r1=>
 .opt (F_ref04_signed b) fun r2=>
 .ret ((W.conv (.u32) (W.quo (W.conv (.u64) (W.mul r1 r2)) (W.of .u64 4294967296))),true))
 (.ret ((W.of .u32 0),false))))
def F_ref04_Do (op:W .i64) (a b:W .u32):Option (W .u32×Bool):=(T_ref04_Do op a b).eval
def T_ref05_Do (op:W .i64) (a b:W .u32):Tree (W .u32×Bool):=
 .ite (W.eq op (W.of .i64 15)) (.ite (W.eq b (W.of .u32 0)) (.ite (W.eq op (W.of .i64 15)) (.ret ((W.of .u32 4294967295),true))
 (.ite (W.eq b (W.of .u32 0)) (.ret (a,true))
 (.ite (W.eq op (W.of .i64 15)) (.opt (W.quo? a b) fun z1=>
 .ret (z1,true))
 (.opt (W.rem? a b) fun z2=>
 .ret (z2,true)))))
 (.ite (W.eq b (W.of .u32 0)) (.ret (a,true))
 (.ite (W.eq op (W.of .i64 15)) (.opt (W.quo? a b) fun z3=>
 .ret (z3,true))
 (.opt (W.rem? a b) fun z4=>
 .ret (z4,true)))))
 (.ite (W.eq op (W.of .i64 17)) (.ite (W.eq b (W.of .u32 0)) (.ite (W.eq op (W.of .i64 15)) (.ret ((W.of .u32 4294967295),true))
 (.ite (W.eq b (W.of .u32 0)) (.ret (a,true))
 (.ite (W.eq op (W.of .i64 15)) (.opt (W.quo? a b) fun z5=>
 .ret (z5,true))
 (.opt (W.rem? a b) fun z6=>
 .ret (z6,true)))))
 (.ite (W.eq b (W.of .u32 0)) (.ret (a,true))
 (.ite (W.eq op (W.of .i64 15)) (.opt (W.quo? a b) fun z7=>
 .ret (z7,true))
 (.opt (W.rem? a b) fun z8=>
 .ret (z8,true)))))
 (.ite (W.eq op (W.of .i64 14)) (.ite (W.eq (W.conv (.i64) (W.conv (.i32) b)) (W.of .i64 0)) (.ret ((W.of .u32 4294967295),true))
 (.opt (W.quo? (W.conv (.i64) (W.conv (.i32) a)) (W.conv (.i64) (W.conv (.i32) b))) fun z9=>
 .ret ((W.conv (.u32) z9),true)))
 (.ite (W.eq op (W.of .i64 16)) (.ite (W.eq (W.conv (.i64) (W.conv (.i32) b)) (W.of .i64 0)) (.ret (a,true))
 (.opt (W.rem? (W.conv (.i64) (W.conv (.i32) a)) (W.conv (.i64) (W.conv (.i32) b))) fun z10=>
 .ret ((W.conv (.u32) z10),true)))
 (.ret ((W.of .u32 0),false)))))
def F_ref05_Do (op:W .i64) (a b:W .u32):Option (W .u32×Bool):=(T_ref05_Do op a b).eval
def B_ref03_bit_5 (x:W .u32) (i k:W .i64):Tree (Rnd (W .u32×W .i64×W .i64×Unit) (W .u32×Unit)):=
 .ite (W.lt k i) (.ret (.next ((W.quo x (W.of .u32 2)),i,(W.add k (W.of .i64 1)),())))
 (.ret (.out (x,())))
def L_ref03_bit_5 (a:W .u32×W .i64×W .i64×Unit):Option (W .u32×Unit):=iter (fun a:W .u32×W .i64×W .i64×Unit=>(B_ref03_bit_5 a.1 a.2.1 a.2.2.1).eval) fuel a
def T_ref03_bit (x:W .u32) (i:W .i64):Tree (W .u32):=
 .opt (L_ref03_bit_5 ((x,i,(W.of .i64 0),()))) fun o1=>
 .ret (W.rem o1.1 (W.of .u32 2))
def F_ref03_bit (x:W .u32) (i:W .i64):Option (W .u32):=(T_ref03_bit x i).eval
def B_ref03_word_7 (l_1:Arr 32 (W .u32)) (x:W .u32) (i:W .i64):Tree (Rnd (Arr 32 (W .u32)×W .u32×W .i64×Unit) (W .u32×Unit)):=
 .ite (W.ge i (W.of .i64 0)) (.opt (idx? 32 i) fun j1=>
 .ret (.next (l_1,(W.add (W.mul (W.of .u32 2) x) (Arr.get l_1 j1)),(W.sub i (W.of .i64 1)),())))
 (.ret (.out (x,())))
def L_ref03_word_7 (a:Arr 32 (W .u32)×W .u32×W .i64×Unit):Option (W .u32×Unit):=iter (fun a:Arr 32 (W .u32)×W .u32×W .i64×Unit=>(B_ref03_word_7 a.1 a.2.1 a.2.2.1).eval) fuel a
def T_ref03_word (l_0:Arr 32 (W .u32)):Tree (W .u32):=
 .opt (L_ref03_word_7 ((l_0,(W.of .u32 0),(W.of .i64 31),()))) fun o2=>
 .ret o2.1
def F_ref03_word (l_0:Arr 32 (W .u32)):Option (W .u32):=(T_ref03_word l_0).eval
def B_ref03_logic_7 (a b least most:W .u32) (l_9:Arr 32 (W .u32)) (i:W .i64):Tree (Rnd (W .u32×W .u32×W .u32×W .u32×Arr 32 (W .u32)×W .i64×Unit) (Arr 32 (W .u32)×Unit)):=
 .ite (W.lt i (W.of .i64 32)) (.opt (F_ref03_bit a i) fun r1=>
 .opt (F_ref03_bit b i) fun r2=>
 .ite (W.ge (W.add r1 r2) least) (.ite (W.le (W.add r1 r2) most) (.opt (idx? 32 i) fun j3=>
 .ret (.next (a,b,least,most,(Arr.set l_9 j3 (W.of .u32 1)),(W.add i (W.of .i64 1)),())))
 (.ret (.next (a,b,least,most,l_9,(W.add i (W.of .i64 1)),()))))
 (.ret (.next (a,b,least,most,l_9,(W.add i (W.of .i64 1)),()))))
 (.ret (.out (l_9,())))
def L_ref03_logic_7 (a:W .u32×W .u32×W .u32×W .u32×Arr 32 (W .u32)×W .i64×Unit):Option (Arr 32 (W .u32)×Unit):=iter (fun a:W .u32×W .u32×W .u32×W .u32×Arr 32 (W .u32)×W .i64×Unit=>(B_ref03_logic_7 a.1 a.2.1 a.2.2.1 a.2.2.2.1 a.2.2.2.2.1 a.2.2.2.2.2.1).eval) fuel a
def T_ref03_logic (a b least most:W .u32):Tree (W .u32):=
 .opt (L_ref03_logic_7 ((a,b,least,most,(Arr.rep 32 (W.of .u32 0):Arr 32 (W .u32)),(W.of .i64 0),()))) fun o4=>
 .opt (F_ref03_word o4.1) fun r5=>
 .ret r5
def F_ref03_logic (a b least most:W .u32):Option (W .u32):=(T_ref03_logic a b least most).eval
def B_ref03_moved_7 (x:W .u32) (by_1:W .i64) (fill:W .u32) (l_7:Arr 32 (W .u32)) (i:W .i64):Tree (Rnd (W .u32×W .i64×W .u32×Arr 32 (W .u32)×W .i64×Unit) (Arr 32 (W .u32)×Unit)):=
 .ite (W.lt i (W.of .i64 32)) (.opt (idx? 32 i) fun j1=>
 .ite (W.ge (W.add i by_1) (W.of .i64 0)) (.ite (W.lt (W.add i by_1) (W.of .i64 32)) (.opt (F_ref03_bit x (W.add i by_1)) fun r2=>
 .opt (idx? 32 i) fun j3=>
 .ret (.next (x,by_1,fill,(Arr.set (Arr.set l_7 j1 fill) j3 r2),(W.add i (W.of .i64 1)),())))
 (.ret (.next (x,by_1,fill,(Arr.set l_7 j1 fill),(W.add i (W.of .i64 1)),()))))
 (.ret (.next (x,by_1,fill,(Arr.set l_7 j1 fill),(W.add i (W.of .i64 1)),()))))
 (.ret (.out (l_7,())))
def L_ref03_moved_7 (a:W .u32×W .i64×W .u32×Arr 32 (W .u32)×W .i64×Unit):Option (Arr 32 (W .u32)×Unit):=iter (fun a:W .u32×W .i64×W .u32×Arr 32 (W .u32)×W .i64×Unit=>(B_ref03_moved_7 a.1 a.2.1 a.2.2.1 a.2.2.2.1 a.2.2.2.2.1).eval) fuel a
def T_ref03_moved (x:W .u32) (by_1:W .i64) (fill:W .u32):Tree (W .u32):=
 .opt (L_ref03_moved_7 ((x,by_1,fill,(Arr.rep 32 (W.of .u32 0):Arr 32 (W .u32)),(W.of .i64 0),()))) fun o4=>
 .opt (F_ref03_word o4.1) fun r5=>
 .ret r5
def F_ref03_moved (x:W .u32) (by_1:W .i64) (fill:W .u32):Option (W .u32):=(T_ref03_moved x by_1 fill).eval
def T_ref03_one (is:Bool):Tree (W .u32):=
 .ite is (.ret (W.of .u32 1))
 (.ret (W.of .u32 0))
def F_ref03_one (is:Bool):Option (W .u32):=(T_ref03_one is).eval
def B_ref03_turned_7 (x:W .u32) (by_1:W .i64) (l_5:Arr 32 (W .u32)) (i:W .i64):Tree (Rnd (W .u32×W .i64×Arr 32 (W .u32)×W .i64×Unit) (Arr 32 (W .u32)×Unit)):=
 .ite (W.lt i (W.of .i64 32)) (.opt (F_ref03_bit x (W.rem (W.add i by_1) (W.of .i64 32))) fun r1=>
 .opt (idx? 32 i) fun j2=>
 .ret (.next (x,by_1,(Arr.set l_5 j2 r1),(W.add i (W.of .i64 1)),())))
 (.ret (.out (l_5,())))
def L_ref03_turned_7 (a:W .u32×W .i64×Arr 32 (W .u32)×W .i64×Unit):Option (Arr 32 (W .u32)×Unit):=iter (fun a:W .u32×W .i64×Arr 32 (W .u32)×W .i64×Unit=>(B_ref03_turned_7 a.1 a.2.1 a.2.2.1 a.2.2.2.1).eval) fuel a
def T_ref03_turned (x:W .u32) (by_1:W .i64):Tree (W .u32):=
 .opt (L_ref03_turned_7 ((x,by_1,(Arr.rep 32 (W.of .u32 0):Arr 32 (W .u32)),(W.of .i64 0),()))) fun o3=>
 .opt (F_ref03_word o3.1) fun r4=>
 .ret r4
def F_ref03_turned (x:W .u32) (by_1:W .i64):Option (W .u32):=(T_ref03_turned x by_1).eval
def B_ref03_Clz_5 (x:W .u32) (n_3:W .i64):Tree (Rnd (W .u32×W .i64×Unit) (W .i64×Unit)):=
 .ite (W.lt n_3 (W.of .i64 32)) (.opt (F_ref03_bit x (W.sub (W.of .i64 31) n_3)) fun r1=>
 .ite (W.eq r1 (W.of .u32 0)) (.ret (.next (x,(W.add n_3 (W.of .i64 1)),())))
 (.ret (.out (n_3,()))))
 (.ret (.out (n_3,())))
def L_ref03_Clz_5 (a:W .u32×W .i64×Unit):Option (W .i64×Unit):=iter (fun a:W .u32×W .i64×Unit=>(B_ref03_Clz_5 a.1 a.2.1).eval) fuel a
def T_ref03_Clz (x:W .u32):Tree (W .i64):=
 .opt (L_ref03_Clz_5 ((x,(W.of .i64 0),()))) fun o2=>
 .ret o2.1
def F_ref03_Clz (x:W .u32):Option (W .i64):=(T_ref03_Clz x).eval
def B_ref03_Pop_7 (x:W .u32) (n_3 i:W .i64):Tree (Rnd (W .u32×W .i64×W .i64×Unit) (W .i64×Unit)):=
 .ite (W.lt i (W.of .i64 32)) (.opt (F_ref03_bit x i) fun r1=>
 .ret (.next (x,(W.add n_3 (W.conv (.i64) r1)),(W.add i (W.of .i64 1)),())))
 (.ret (.out (n_3,())))
def L_ref03_Pop_7 (a:W .u32×W .i64×W .i64×Unit):Option (W .i64×Unit):=iter (fun a:W .u32×W .i64×W .i64×Unit=>(B_ref03_Pop_7 a.1 a.2.1 a.2.2.1).eval) fuel a
def T_ref03_Pop (x:W .u32):Tree (W .i64):=
 .opt (L_ref03_Pop_7 ((x,(W.of .i64 0),(W.of .i64 0),()))) fun o2=>
 .ret o2.1
def F_ref03_Pop (x:W .u32):Option (W .i64):=(T_ref03_Pop x).eval
def B_ref03_Rev_7 (x out:W .u32) (k:W .i64):Tree (Rnd (W .u32×W .u32×W .i64×Unit) (W .u32×Unit)):=
 .ite (W.lt k (W.of .i64 4)) (.ret (.next ((W.quo x (W.of .u32 256)),(W.add (W.mul (W.of .u32 256) out) (W.rem x (W.of .u32 256))),(W.add k (W.of .i64 1)),())))
 (.ret (.out (out,())))
def L_ref03_Rev_7 (a:W .u32×W .u32×W .i64×Unit):Option (W .u32×Unit):=iter (fun a:W .u32×W .u32×W .i64×Unit=>(B_ref03_Rev_7 a.1 a.2.1 a.2.2.1).eval) fuel a
def T_ref03_Rev (x:W .u32):Tree (W .u32):=
 .opt (L_ref03_Rev_7 ((x,(W.of .u32 0),(W.of .i64 0),()))) fun o1=>
 .ret o1.1
def F_ref03_Rev (x:W .u32):Option (W .u32):=(T_ref03_Rev x).eval
def T_ref03_Do (op:W .i64) (a b:W .u32):Tree (W .u32×Bool):=
 .ite (W.eq op (W.of .i64 1)) (.ret ((W.add a b),true))
 (.ite (W.eq op (W.of .i64 25)) (.ret ((W.add a b),true))
 (.ite (W.eq op (W.of .i64 2)) (.ret ((W.sub a b),true))
 (.ite (W.eq op (W.of .i64 3)) (.opt (F_ref03_logic a b (W.of .u32 2) (W.of .u32 2)) fun r1=>
 .ret (r1,true))
 (.ite (W.eq op (W.of .i64 26)) (.opt (F_ref03_logic a b (W.of .u32 2) (W.of .u32 2)) fun r2=>
 .ret (r2,true))
 (.ite (W.eq op (W.of .i64 4)) (.opt (F_ref03_logic a b (W.of .u32 1) (W.of .u32 2)) fun r3=>
 .ret (r3,true))
 (.ite (W.eq op (W.of .i64 27)) (.opt (F_ref03_logic a b (W.of .u32 1) (W.of .u32 2)) fun r4=>
 .ret (r4,true))
 (.ite (W.eq op (W.of .i64 5)) (.opt (F_ref03_logic a b (W.of .u32 1) (W.of .u32 1)) fun r5=>
 .ret (r5,true))
 (.ite (W.eq op (W.of .i64 28)) (.opt (F_ref03_logic a b (W.of .u32 1) (W.of .u32 1)) fun r6=>
 .ret (r6,true))
 (.ite (W.eq op (W.of .i64 6)) (.opt (F_ref03_moved a (W.neg (W.conv (.i64) (W.rem b (W.of .u32 32)))) (W.of .u32 0)) fun r7=>
 .ret (r7,true))
 (.ite (W.eq op (W.of .i64 30)) (.opt (F_ref03_moved a (W.neg (W.conv (.i64) (W.rem b (W.of .u32 32)))) (W.of .u32 0)) fun r8=>
 .ret (r8,true))
 (.ite (W.eq op (W.of .i64 7)) (.opt (F_ref03_moved a (W.conv (.i64) (W.rem b (W.of .u32 32))) (W.of .u32 0)) fun r9=>
 .ret (r9,true))
 (.ite (W.eq op (W.of .i64 31)) (.opt (F_ref03_moved a (W.conv (.i64) (W.rem b (W.of .u32 32))) (W.of .u32 0)) fun r10=>
 .ret (r10,true))
 (.ite (W.eq op (W.of .i64 8)) (.opt (F_ref03_bit a (W.of .i64 31)) fun r11=>
 .opt (F_ref03_moved a (W.conv (.i64) (W.rem b (W.of .u32 32))) r11) fun r12=>
 .ret (r12,true))
 (.ite (W.eq op (W.of .i64 32)) (.opt (F_ref03_bit a (W.of .i64 31)) fun r13=>
 .opt (F_ref03_moved a (W.conv (.i64) (W.rem b (W.of .u32 32))) r13) fun r14=>
 .ret (r14,true))
 (.ite (W.eq op (W.of .i64 9)) (.opt (F_ref03_signed a) fun r15=>
 .opt (F_ref03_signed b) fun r16=>
 .opt (F_ref03_one (W.lt r15 r16)) fun r17=>
 .ret (r17,true))
 (.ite (W.eq op (W.of .i64 29)) (.opt (F_ref03_signed a) fun r18=>
 .opt (F_ref03_signed b) fun r19=>
 .opt (F_ref03_one (W.lt r18 r19)) fun r20=>
 .ret (r20,true))
 (.ite (W.eq op (W.of .i64 10)) (.opt (F_ref03_one (W.lt a b)) fun r21=>
 .ret (r21,true))
 (.ite (W.eq op (W.of .i64 18)) (.opt (F_ref03_signed b) fun r22=>
 .opt (F_ref03_signed a) fun r23=>
 .ite (W.lt r22 r23) (.ret (b,true))
 (.ret (a,true)))
 (.ite (W.eq op (W.of .i64 19)) (.opt (F_ref03_signed b) fun r24=>
 .opt (F_ref03_signed a) fun r25=>
 .ite (W.gt r24 r25) (.ret (b,true))
 (.ret (a,true)))
 (.ite (W.eq op (W.of .i64 20)) (.opt (F_ref03_turned a (W.conv (.i64) (W.rem b (W.of .u32 32)))) fun r26=>
 .ret (r26,true))
 (.ite (W.eq op (W.of .i64 21)) (.opt (F_ref03_Clz a) fun r27=>
 .ret ((W.conv (.u32) r27),true))
 (.ite (W.eq op (W.of .i64 22)) (.opt (F_ref03_Pop a) fun r28=>
 .ret ((W.conv (.u32) r28),true))
 (.ite (W.eq op (W.of .i64 23)) (.opt (F_ref03_Rev a) fun r29=>
 .ret (r29,true))
 (.ite (W.eq op (W.of .i64 33)) (.ret ((W.mul b (W.of .u32 16384)),true))
 (.ret ((W.of .u32 0),false))))))))))))))))))))))))))
def F_ref03_Do (op:W .i64) (a b:W .u32):Option (W .u32×Bool):=(T_ref03_Do op a b).eval
end
end Go.Proofs.YtijckobfnmkjdaaGreatDoor
