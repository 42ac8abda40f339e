/- YtedhidchlfhegaaGreatDoorTrees2: the document's functions as decision trees: plain definitions, of no function of this seat's program. No statement of the seat is proved here. -/
import Derived.Test.YtedhidchlfhegaaGreatDoorTrees
set_option linter.unusedSimpArgs false
set_option linter.unusedVariables false
set_option maxRecDepth 100000
namespace Go.Proofs.YtedhidchlfhegaaGreatDoor
open Go Go.A2
noncomputable section
def T_ref11_Raise (a:TArch) (lines:W .u32):Tree (TArch):=
 .ret ({ a with C:=(Arr.set a.C 10 (W.or (Arr.get a.C 10) (W.rem lines (W.of .u32 8)))) }:TArch)
def F_ref11_Raise (a:TArch) (lines:W .u32):Option (TArch):=(T_ref11_Raise a lines).eval
def T_ref11_Kernel (a:TArch):Tree (Bool):=
 .ret (W.eq (W.rem (Arr.get a.C 0) (W.of .u32 2)) (W.of .u32 1))
def F_ref11_Kernel (a:TArch):Option (Bool):=(T_ref11_Kernel a).eval
def T_ref14_Has (a:TArch) (bit:W .u32):Tree (Bool):=
 .ret (W.ne (W.and (Arr.get a.C 0) bit) (W.of .u32 0))
def F_ref14_Has (a:TArch) (bit:W .u32):Option (Bool):=(T_ref14_Has a bit).eval
def T_ref14_Pending (a:TArch):Tree (W .i64):=
 .opt (F_ref11_Kernel a) fun r1=>
 .ite r1 (.opt (F_ref14_Has a (W.of .u32 2)) fun r2=>
 .ite (!r2) (.ret (W.of .i64 0))
 (.ite (W.ne (W.and (W.and (Arr.get a.C 10) (Arr.get a.C 9)) (W.of .u32 1)) (W.of .u32 0)) (.ret (W.of .i64 16))
 (.ite (W.ne (W.and (W.and (Arr.get a.C 10) (Arr.get a.C 9)) (W.of .u32 2)) (W.of .u32 0)) (.ret (W.of .i64 17))
 (.ite (W.ne (W.and (W.and (Arr.get a.C 10) (Arr.get a.C 9)) (W.of .u32 4)) (W.of .u32 0)) (.ret (W.of .i64 18))
 (.ret (W.of .i64 0))))))
 (.ite (W.ne (W.and (W.and (Arr.get a.C 10) (Arr.get a.C 9)) (W.of .u32 1)) (W.of .u32 0)) (.ret (W.of .i64 16))
 (.ite (W.ne (W.and (W.and (Arr.get a.C 10) (Arr.get a.C 9)) (W.of .u32 2)) (W.of .u32 0)) (.ret (W.of .i64 17))
 (.ite (W.ne (W.and (W.and (Arr.get a.C 10) (Arr.get a.C 9)) (W.of .u32 4)) (W.of .u32 0)) (.ret (W.of .i64 18))
 (.ret (W.of .i64 0)))))
def F_ref14_Pending (a:TArch):Option (W .i64):=(T_ref14_Pending a).eval
def T_ref14_put (s bit:W .u32) (on:Bool):Tree (W .u32):=
 .ite on (.ret (W.or s bit))
 (.ret (W.andNot s bit))
def F_ref14_put (s bit:W .u32) (on:Bool):Option (W .u32):=(T_ref14_put s bit on).eval
def T_ref14_Take (a:TArch) (cause:W .i64) (val epc:W .u32):Tree (TArch):=
 .opt (F_ref14_put (Arr.get a.C 0) (W.of .u32 4) (W.ne (W.and (Arr.get a.C 0) (W.of .u32 1)) (W.of .u32 0))) fun r1=>
 .opt (F_ref14_put r1 (W.of .u32 8) (W.ne (W.and (Arr.get a.C 0) (W.of .u32 2)) (W.of .u32 0))) fun r2=>
 .opt (F_ref14_put r2 (W.of .u32 1) true) fun r3=>
 .opt (F_ref14_put r3 (W.of .u32 2) false) fun r4=>
 .opt (F_ref11_Masked (W.of .i64 1)) fun r5=>
 .ret ({ a with C:=(Arr.set (Arr.set (Arr.set (Arr.set a.C 0 r4) 1 (W.and (W.conv (.u32) (W.conv (.u64) cause)) r5)) 2 val) 3 epc),PC:=(Arr.get (Arr.set (Arr.set (Arr.set (Arr.set a.C 0 r4) 1 (W.and (W.conv (.u32) (W.conv (.u64) cause)) r5)) 2 val) 3 epc) 4) }:TArch)
def F_ref14_Take (a:TArch) (cause:W .i64) (val epc:W .u32):Option (TArch):=(T_ref14_Take a cause val epc).eval
def T_ref15_trapped (m:TMach) (w:W .u32) (cause:W .i64) (val:W .u32):Tree (TMach×TEvent×Bool):=
 .opt (F_ref14_Take m.A cause val m.A.PC) fun r1=>
 .ret (({ m with A:=r1 }:TMach),(TEvent.mk m.A.PC w (W.of .i64 (-1)) (W.of .u32 0) (W.of .i64 (-1)) (W.of .u32 0) (W.of .i64 0) (W.of .u32 0) (W.of .u32 0) cause val r1.PC),true)
def F_ref15_trapped (m:TMach) (w:W .u32) (cause:W .i64) (val:W .u32):Option (TMach×TEvent×Bool):=(T_ref15_trapped m w cause val).eval
def T_ref14_Stops (a:TArch) (pc:W .u32):Tree (Bool):=
 .opt (F_ref11_Kernel a) fun r1=>
 .ite (!r1) (.ite (W.eq (W.rem (Arr.get a.C 11) (W.of .u32 2)) (W.of .u32 1)) (.ret (W.eq (W.sub (Arr.get a.C 11) (W.of .u32 1)) pc))
 (.ret false))
 (.ret false)
def F_ref14_Stops (a:TArch) (pc:W .u32):Option (Bool):=(T_ref14_Stops a pc).eval
def T_ref01_Aligned (addr:W .u32) (size:W .i64):Tree (Bool):=
 .ite (W.eq size (W.of .i64 1)) (.ret true)
 (.ite (W.eq size (W.of .i64 2)) (.ite (W.eq (W.rem addr (W.of .u32 2)) (W.of .u32 0)) (.ret true)
 (.ite (W.eq size (W.of .i64 4)) (.ret (W.eq (W.rem addr (W.of .u32 4)) (W.of .u32 0)))
 (.ret false)))
 (.ite (W.eq size (W.of .i64 4)) (.ret (W.eq (W.rem addr (W.of .u32 4)) (W.of .u32 0)))
 (.ret false)))
def F_ref01_Aligned (addr:W .u32) (size:W .i64):Option (Bool):=(T_ref01_Aligned addr size).eval
def T_ref13_Paged (a:TArch):Tree (Bool):=
 .ite (W.eq (W.rem (W.quo (Arr.get a.C 0) (W.of .u32 16)) (W.of .u32 2)) (W.of .u32 1)) (.opt (F_ref11_Kernel a) fun r1=>
 .ret (!r1))
 (.ret false)
def F_ref13_Paged (a:TArch):Option (Bool):=(T_ref13_Paged a).eval
def T_ref13_Fault (access:W .i64):Tree (W .i64):=
 .ite (W.eq access (W.of .i64 1)) (.ret (W.of .i64 1))
 (.ite (W.eq access (W.of .i64 2)) (.ret (W.of .i64 4))
 (.ite (W.eq access (W.of .i64 3)) (.ret (W.of .i64 6))
 (.ret (W.of .i64 9))))
def F_ref13_Fault (access:W .i64):Option (W .i64):=(T_ref13_Fault access).eval
def T_ref12_Index (va:W .u32) (level:W .i64):Tree (W .i64):=
 .ite (W.eq level (W.of .i64 0)) (.ret (W.conv (.i64) (W.rem (W.quo va (W.of .u32 1024)) (W.of .u32 16))))
 (.ite (W.eq level (W.of .i64 1)) (.ret (W.conv (.i64) (W.rem (W.quo va (W.of .u32 64)) (W.of .u32 16))))
 (.ret (W.of .i64 0)))
def F_ref12_Index (va:W .u32) (level:W .i64):Option (W .i64):=(T_ref12_Index va level).eval
def T_ref10_Check (m:Sl 1 (W .u8)) (addr:W .u32) (size:W .i64):Tree (W .i64):=
 .ite (W.eq size (W.of .i64 1)) (.ite (W.le (W.add (W.conv (.i64) addr) size) (Sl.len m)) (.ret (W.of .i64 0))
 (.ret (W.of .i64 9)))
 (.ite (W.eq size (W.of .i64 2)) (.ite (W.le (W.add (W.conv (.i64) addr) size) (Sl.len m)) (.ret (W.of .i64 0))
 (.ret (W.of .i64 9)))
 (.ite (W.eq size (W.of .i64 4)) (.ite (W.le (W.add (W.conv (.i64) addr) size) (Sl.len m)) (.ret (W.of .i64 0))
 (.ret (W.of .i64 9)))
 (.ret (W.of .i64 9))))
def F_ref10_Check (m:Sl 1 (W .u8)) (addr:W .u32) (size:W .i64):Option (W .i64):=(T_ref10_Check m addr size).eval
def B_ref10_Read_15 (m:Sl 1 (W .u8)) (addr out:W .u32) (k:W .i64):Tree (Rnd (Sl 1 (W .u8)×W .u32×W .u32×W .i64×Unit) (W .u32×Unit)):=
 .ite (W.ge k (W.of .i64 0)) (.opt (Sl.get? m (W.add (W.conv (.i64) addr) k)) fun y2=>
 .ret (.next (m,addr,(W.add (W.mul (W.of .u32 256) out) (W.conv (.u32) y2)),(W.sub k (W.of .i64 1)),())))
 (.ret (.out (out,())))
def L_ref10_Read_15 (a:Sl 1 (W .u8)×W .u32×W .u32×W .i64×Unit):Option (W .u32×Unit):=iter (fun a:Sl 1 (W .u8)×W .u32×W .u32×W .i64×Unit=>(B_ref10_Read_15 a.1 a.2.1 a.2.2.1 a.2.2.2.1).eval) fuel a
def T_ref10_Read (m:Sl 1 (W .u8)) (addr:W .u32) (size:W .i64):Tree (W .u32×W .i64):=
 .opt (F_ref10_Check m addr size) fun r1=>
 .ite (W.ne r1 (W.of .i64 0)) (.ret ((W.of .u32 0),r1))
 (.opt (L_ref10_Read_15 ((m,addr,(W.of .u32 0),(W.sub size (W.of .i64 1)),()))) fun o3=>
 .ret (o3.1,(W.of .i64 0)))
def F_ref10_Read (m:Sl 1 (W .u8)) (addr:W .u32) (size:W .i64):Option (W .u32×W .i64):=(T_ref10_Read m addr size).eval
def T_ref12_Of (w:W .u32):Tree (TPte):=
 .ret (TPte.mk (W.rem w (W.of .u32 128)) (W.conv (.i64) (W.rem (W.quo w (W.of .u32 256)) (W.of .u32 256))))
def F_ref12_Of (w:W .u32):Option (TPte):=(T_ref12_Of w).eval
def B_ref12_bit_5 (w:W .u32) (i k:W .i64):Tree (Rnd (W .u32×W .i64×W .i64×Unit) (W .u32×Unit)):=
 .ite (W.lt k i) (.ret (.next ((W.quo w (W.of .u32 2)),i,(W.add k (W.of .i64 1)),())))
 (.ret (.out (w,())))
def L_ref12_bit_5 (a:W .u32×W .i64×W .i64×Unit):Option (W .u32×Unit):=iter (fun a:W .u32×W .i64×W .i64×Unit=>(B_ref12_bit_5 a.1 a.2.1 a.2.2.1).eval) fuel a
def T_ref12_bit (w:W .u32) (i:W .i64):Tree (Bool):=
 .opt (L_ref12_bit_5 ((w,i,(W.of .i64 0),()))) fun o1=>
 .ret (W.eq (W.rem o1.1 (W.of .u32 2)) (W.of .u32 1))
def F_ref12_bit (w:W .u32) (i:W .i64):Option (Bool):=(T_ref12_bit w i).eval
def T_ref12_Leaf (p:TPte):Tree (Bool):=
 .opt (F_ref12_bit p.Bits (W.of .i64 1)) fun r1=>
 .ite r1 (.ret true)
 (.opt (F_ref12_bit p.Bits (W.of .i64 2)) fun r2=>
 .ite r2 (.ret true)
 (.opt (F_ref12_bit p.Bits (W.of .i64 3)) fun r3=>
 .ret r3))
def F_ref12_Leaf (p:TPte):Option (Bool):=(T_ref12_Leaf p).eval
def T_ref13_Walk (shadow:Sl 1 (W .u8)) (root va:W .u32):Tree (TPte×Sl 4 (W .u32)×Bool):=
 .ite (W.ge va (W.of .u32 16384)) (.ret ((TPte.mk (W.of .u32 0) (W.of .i64 0)),(Sl.nil:Sl 4 (W .u32)),false))
 (.opt (F_ref12_Index va (W.of .i64 0)) fun r1=>
 .opt (F_ref10_Read shadow (W.add root (W.mul (W.of .u32 4) (W.conv (.u32) r1))) (W.of .i64 4)) fun r2=>
 .ite (W.ne r2.2 (W.of .i64 0)) (.ret ((TPte.mk (W.of .u32 0) (W.of .i64 0)),(Sl.nil:Sl 4 (W .u32)),false))
 (.opt (F_ref12_Of r2.1) fun r3=>
 .ite (W.eq (W.rem r3.Bits (W.of .u32 2)) (W.of .u32 0)) (.ret ((TPte.mk (W.of .u32 0) (W.of .i64 0)),(Sl.lit 4 [(W.add root (W.mul (W.of .u32 4) (W.conv (.u32) r1)))] rfl:Sl 4 (W .u32)),false))
 (.opt (F_ref12_Leaf r3) fun r4=>
 .ite r4 (.ret ((TPte.mk (W.of .u32 0) (W.of .i64 0)),(Sl.lit 4 [(W.add root (W.mul (W.of .u32 4) (W.conv (.u32) r1)))] rfl:Sl 4 (W .u32)),false))
 (.opt (F_ref12_Index va (W.of .i64 1)) fun r5=>
 .opt (F_ref10_Read shadow (W.add (W.conv (.u32) (W.mul (W.of .i64 64) r3.Page)) (W.mul (W.of .u32 4) (W.conv (.u32) r5))) (W.of .i64 4)) fun r6=>
 .ite (W.ne r6.2 (W.of .i64 0)) (.ret ((TPte.mk (W.of .u32 0) (W.of .i64 0)),(Sl.lit 4 [(W.add root (W.mul (W.of .u32 4) (W.conv (.u32) r1)))] rfl:Sl 4 (W .u32)),false))
 (.opt (Sl.app? (Sl.lit 4 [(W.add root (W.mul (W.of .u32 4) (W.conv (.u32) r1)))] rfl:Sl 4 (W .u32)) (Sl.lit 4 [(W.add (W.conv (.u32) (W.mul (W.of .i64 64) r3.Page)) (W.mul (W.of .u32 4) (W.conv (.u32) r5)))] rfl:Sl 4 (W .u32))) fun l7=>
 .opt (F_ref12_Of r6.1) fun r8=>
 .ite (W.eq (W.rem r8.Bits (W.of .u32 2)) (W.of .u32 0)) (.ret ((TPte.mk (W.of .u32 0) (W.of .i64 0)),l7,false))
 (.opt (F_ref12_Leaf r8) fun r9=>
 .ite (!r9) (.ret ((TPte.mk (W.of .u32 0) (W.of .i64 0)),l7,false))
 (.ret (r8,l7,true))))))))
def F_ref13_Walk (shadow:Sl 1 (W .u8)) (root va:W .u32):Option (TPte×Sl 4 (W .u32)×Bool):=(T_ref13_Walk shadow root va).eval
def T_ref12_Allows (p:TPte) (access:W .i64) (kernel:Bool):Tree (Bool):=
 .opt (F_ref12_bit p.Bits (W.of .i64 0)) fun r1=>
 .ite (!r1) (.ret false)
 (.opt (F_ref12_bit p.Bits (W.of .i64 5)) fun r2=>
 .ite (!r2) (.ret false)
 (.ite (!kernel) (.opt (F_ref12_bit p.Bits (W.of .i64 4)) fun r3=>
 .ite (!r3) (.ret false)
 (.ite (W.eq access (W.of .i64 1)) (.opt (F_ref12_bit p.Bits (W.of .i64 3)) fun r4=>
 .ret r4)
 (.ite (W.eq access (W.of .i64 2)) (.opt (F_ref12_bit p.Bits (W.of .i64 1)) fun r5=>
 .ret r5)
 (.ite (W.eq access (W.of .i64 3)) (.opt (F_ref12_bit p.Bits (W.of .i64 2)) fun r6=>
 .ite r6 (.opt (F_ref12_bit p.Bits (W.of .i64 6)) fun r7=>
 .ret r7)
 (.ret false))
 (.ret false)))))
 (.ite (W.eq access (W.of .i64 1)) (.opt (F_ref12_bit p.Bits (W.of .i64 3)) fun r8=>
 .ret r8)
 (.ite (W.eq access (W.of .i64 2)) (.opt (F_ref12_bit p.Bits (W.of .i64 1)) fun r9=>
 .ret r9)
 (.ite (W.eq access (W.of .i64 3)) (.opt (F_ref12_bit p.Bits (W.of .i64 2)) fun r10=>
 .ite r10 (.opt (F_ref12_bit p.Bits (W.of .i64 6)) fun r11=>
 .ret r11)
 (.ret false))
 (.ret false))))))
def F_ref12_Allows (p:TPte) (access:W .i64) (kernel:Bool):Option (Bool):=(T_ref12_Allows p access kernel).eval
def T_ref12_page (n_0:W .i64):Tree (W .u32):=
 .ite (W.lt (W.rem n_0 (W.of .i64 256)) (W.of .i64 0)) (.ret (W.conv (.u32) (W.add (W.rem n_0 (W.of .i64 256)) (W.of .i64 256))))
 (.ret (W.conv (.u32) (W.rem n_0 (W.of .i64 256))))
def F_ref12_page (n_0:W .i64):Option (W .u32):=(T_ref12_page n_0).eval
def T_ref12_Addr (p:TPte) (va:W .u32):Tree (W .u32):=
 .opt (F_ref12_page p.Page) fun r1=>
 .ret (W.add (W.mul (W.of .u32 64) r1) (W.rem va (W.of .u32 64)))
def F_ref12_Addr (p:TPte) (va:W .u32):Option (W .u32):=(T_ref12_Addr p va).eval
def T_ref13_Trans (a:TArch) (shadow:Sl 1 (W .u8)) (va:W .u32) (access:W .i64):Tree (W .u32×W .i64):=
 .opt (F_ref13_Paged a) fun r1=>
 .ite (!r1) (.ret (va,(W.of .i64 0)))
 (.ite (W.lt access (W.of .i64 1)) (.opt (F_ref13_Fault access) fun r2=>
 .ret ((W.of .u32 0),r2))
 (.ite (W.gt access (W.of .i64 3)) (.opt (F_ref13_Fault access) fun r3=>
 .ret ((W.of .u32 0),r3))
 (.opt (F_ref13_Walk shadow (Arr.get a.C 5) va) fun r4=>
 .ite (!r4.2.2) (.opt (F_ref13_Fault access) fun r5=>
 .ret ((W.of .u32 0),r5))
 (.opt (F_ref12_Allows r4.1 access false) fun r6=>
 .ite (!r6) (.opt (F_ref13_Fault access) fun r7=>
 .ret ((W.of .u32 0),r7))
 (.opt (F_ref12_Addr r4.1 va) fun r8=>
 .ret (r8,(W.of .i64 0)))))))
def F_ref13_Trans (a:TArch) (shadow:Sl 1 (W .u8)) (va:W .u32) (access:W .i64):Option (W .u32×W .i64):=(T_ref13_Trans a shadow va access).eval
def T_ref15_Access (m:TMach) (mem:Sl 1 (W .u8)) (va:W .u32) (size kind:W .i64):Tree (W .u32×W .i64):=
 .opt (F_ref01_Aligned va size) fun r1=>
 .ite (!r1) (.ret ((W.of .u32 0),(W.of .i64 5)))
 (.opt (F_ref13_Trans m.A m.Shadow va kind) fun r2=>
 .ite (W.ne r2.2 (W.of .i64 0)) (.ret ((W.of .u32 0),r2.2))
 (.opt (F_ref10_Check mem r2.1 size) fun r3=>
 .ite (W.ne r3 (W.of .i64 0)) (.ret ((W.of .u32 0),r3))
 (.ret (r2.1,(W.of .i64 0)))))
def F_ref15_Access (m:TMach) (mem:Sl 1 (W .u8)) (va:W .u32) (size kind:W .i64):Option (W .u32×W .i64):=(T_ref15_Access m mem va size kind).eval
def T_ref15_Fetch (m:TMach):Tree (W .u32×W .i64):=
 .opt (F_ref15_Access m m.Shadow m.A.PC (W.of .i64 4) (W.of .i64 1)) fun r1=>
 .ite (W.ne r1.2 (W.of .i64 0)) (.ret ((W.of .u32 0),r1.2))
 (.opt (F_ref10_Read m.Shadow r1.1 (W.of .i64 4)) fun r2=>
 .ret (r2.1,(W.of .i64 0)))
def F_ref15_Fetch (m:TMach):Option (W .u32×W .i64):=(T_ref15_Fetch m).eval
def B_ref06_Form_3 (op:W .i64) (t_3:Bool):Tree (W .i64×Bool×Unit):=
 .ite t_3 (.ret (op,true,()))
 (.ret (op,(W.eq op (W.of .i64 24)),()))
def L_ref06_Form_3 (a:W .i64×Bool×Unit):Option (W .i64×Bool×Unit):=(B_ref06_Form_3 a.1 a.2.1).eval
def B_ref06_Form_15 (op:W .i64) (t_19:Bool):Tree (W .i64×Bool×Unit):=
 .ite t_19 (.ret (op,true,()))
 (.ret (op,(W.eq op (W.of .i64 50)),()))
def L_ref06_Form_15 (a:W .i64×Bool×Unit):Option (W .i64×Bool×Unit):=(B_ref06_Form_15 a.1 a.2.1).eval
def B_ref06_Form_13 (op:W .i64) (t_19:Bool):Tree (W .i64×Bool×Unit):=
 .ite t_19 (.ret (op,true,()))
 (.ite (W.ge op (W.of .i64 34)) (.opt (L_ref06_Form_15 ((op,(W.le op (W.of .i64 39)),()))) fun o2=>
 .ret (o2.1,o2.2.1,()))
 (.opt (L_ref06_Form_15 ((op,false,()))) fun o3=>
 .ret (o3.1,o3.2.1,())))
def L_ref06_Form_13 (a:W .i64×Bool×Unit):Option (W .i64×Bool×Unit):=(B_ref06_Form_13 a.1 a.2.1).eval
def B_ref06_Form_63 (t_71:Bool):Tree ((W .i64×Unit)⊕(Unit×Unit)):=
 .ite t_71 (.ret (.inl ((W.of .i64 10),())))
 (.ret (.inr ((),())))
def L_ref06_Form_63 (a:Bool×Unit):Option ((W .i64×Unit)⊕(Unit×Unit)):=(B_ref06_Form_63 a.1).eval
def B_ref06_Form_49 (op:W .i64) (t_66:Bool):Tree ((W .i64×Unit)⊕(Unit×Unit)):=
 .ite t_66 (.ret (.inl ((W.of .i64 9),())))
 (.ite (W.eq op (W.of .i64 54)) (.opt (L_ref06_Form_63 ((true,()))) fun o5=>
 .sum o5 (fun p6=>
 .ret (.inl (p6.1,())))
 (fun o7=>
 .ret (.inr ((),()))))
 (.ite (W.eq op (W.of .i64 55)) (.opt (L_ref06_Form_63 ((true,()))) fun o8=>
 .sum o8 (fun p9=>
 .ret (.inl (p9.1,())))
 (fun o10=>
 .ret (.inr ((),()))))
 (.ite (W.eq op (W.of .i64 58)) (.opt (L_ref06_Form_63 ((true,()))) fun o11=>
 .sum o11 (fun p12=>
 .ret (.inl (p12.1,())))
 (fun o13=>
 .ret (.inr ((),()))))
 (.ite (W.eq op (W.of .i64 59)) (.opt (L_ref06_Form_63 ((true,()))) fun o14=>
 .sum o14 (fun p15=>
 .ret (.inl (p15.1,())))
 (fun o16=>
 .ret (.inr ((),()))))
 (.ite (W.eq op (W.of .i64 61)) (.opt (L_ref06_Form_63 ((true,()))) fun o17=>
 .sum o17 (fun p18=>
 .ret (.inl (p18.1,())))
 (fun o19=>
 .ret (.inr ((),()))))
 (.opt (L_ref06_Form_63 (((W.eq op (W.of .i64 63)),()))) fun o20=>
 .sum o20 (fun p21=>
 .ret (.inl (p21.1,())))
 (fun o22=>
 .ret (.inr ((),())))))))))
def L_ref06_Form_49 (a:W .i64×Bool×Unit):Option ((W .i64×Unit)⊕(Unit×Unit)):=(B_ref06_Form_49 a.1 a.2.1).eval
def B_ref06_Form_35 (op:W .i64) (t_53:Bool):Tree ((W .i64×Unit)⊕(Unit×Unit)):=
 .ite t_53 (.ret (.inl ((W.of .i64 6),())))
 (.ite (W.eq op (W.of .i64 56)) (.ret (.inl ((W.of .i64 7),())))
 (.ite (W.eq op (W.of .i64 57)) (.ret (.inl ((W.of .i64 8),())))
 (.ite (W.eq op (W.of .i64 60)) (.opt (L_ref06_Form_49 ((op,true,()))) fun o23=>
 .sum o23 (fun p24=>
 .ret (.inl (p24.1,())))
 (fun o25=>
 .ret (.inr ((),()))))
 (.opt (L_ref06_Form_49 ((op,(W.eq op (W.of .i64 62)),()))) fun o26=>
 .sum o26 (fun p27=>
 .ret (.inl (p27.1,())))
 (fun o28=>
 .ret (.inr ((),())))))))
def L_ref06_Form_35 (a:W .i64×Bool×Unit):Option ((W .i64×Unit)⊕(Unit×Unit)):=(B_ref06_Form_35 a.1 a.2.1).eval
def B_ref06_Form_31 (op:W .i64) (t_46:Bool):Tree ((W .i64×Unit)⊕(Unit×Unit)):=
 .ite t_46 (.ret (.inl ((W.of .i64 4),())))
 (.ite (W.ge op (W.of .i64 51)) (.opt (L_ref06_Form_35 ((op,(W.le op (W.of .i64 53)),()))) fun o29=>
 .sum o29 (fun p30=>
 .ret (.inl (p30.1,())))
 (fun o31=>
 .ret (.inr ((),()))))
 (.opt (L_ref06_Form_35 ((op,false,()))) fun o32=>
 .sum o32 (fun p33=>
 .ret (.inl (p33.1,())))
 (fun o34=>
 .ret (.inr ((),())))))
def L_ref06_Form_31 (a:W .i64×Bool×Unit):Option ((W .i64×Unit)⊕(Unit×Unit)):=(B_ref06_Form_31 a.1 a.2.1).eval
def B_ref06_Form_27 (op:W .i64) (t_39:Bool):Tree ((W .i64×Unit)⊕(Unit×Unit)):=
 .ite t_39 (.ret (.inl ((W.of .i64 3),())))
 (.ite (W.ge op (W.of .i64 43)) (.opt (L_ref06_Form_31 ((op,(W.le op (W.of .i64 48)),()))) fun o35=>
 .sum o35 (fun p36=>
 .ret (.inl (p36.1,())))
 (fun o37=>
 .ret (.inr ((),()))))
 (.opt (L_ref06_Form_31 ((op,false,()))) fun o38=>
 .sum o38 (fun p39=>
 .ret (.inl (p39.1,())))
 (fun o40=>
 .ret (.inr ((),())))))
def L_ref06_Form_27 (a:W .i64×Bool×Unit):Option ((W .i64×Unit)⊕(Unit×Unit)):=(B_ref06_Form_27 a.1 a.2.1).eval
def B_ref06_Form_23 (op:W .i64) (t_34:Bool):Tree ((W .i64×Unit)⊕(Unit×Unit)):=
 .ite t_34 (.ret (.inl ((W.of .i64 5),())))
 (.ite (W.ge op (W.of .i64 40)) (.opt (L_ref06_Form_27 ((op,(W.le op (W.of .i64 42)),()))) fun o41=>
 .sum o41 (fun p42=>
 .ret (.inl (p42.1,())))
 (fun o43=>
 .ret (.inr ((),()))))
 (.opt (L_ref06_Form_27 ((op,false,()))) fun o44=>
 .sum o44 (fun p45=>
 .ret (.inl (p45.1,())))
 (fun o46=>
 .ret (.inr ((),())))))
def L_ref06_Form_23 (a:W .i64×Bool×Unit):Option ((W .i64×Unit)⊕(Unit×Unit)):=(B_ref06_Form_23 a.1 a.2.1).eval
def B_ref06_Form_17 (op:W .i64) (t_19:Bool):Tree ((W .i64×Unit)⊕(Unit×Unit)):=
 .ite t_19 (.ret (.inl ((W.of .i64 2),())))
 (.ite (W.eq op (W.of .i64 33)) (.opt (L_ref06_Form_23 ((op,true,()))) fun o47=>
 .sum o47 (fun p48=>
 .ret (.inl (p48.1,())))
 (fun o49=>
 .ret (.inr ((),()))))
 (.opt (L_ref06_Form_23 ((op,(W.eq op (W.of .i64 49)),()))) fun o50=>
 .sum o50 (fun p51=>
 .ret (.inl (p51.1,())))
 (fun o52=>
 .ret (.inr ((),())))))
def L_ref06_Form_17 (a:W .i64×Bool×Unit):Option ((W .i64×Unit)⊕(Unit×Unit)):=(B_ref06_Form_17 a.1 a.2.1).eval
def B_ref06_Form_9 (op:W .i64) (t_12:Bool):Tree ((W .i64×Unit)⊕(Unit×Unit)):=
 .ite t_12 (.ret (.inl ((W.of .i64 11),())))
 (.ite (W.ge op (W.of .i64 25)) (.opt (L_ref06_Form_13 ((op,(W.le op (W.of .i64 32)),()))) fun o4=>
 .opt (L_ref06_Form_17 ((o4.1,o4.2.1,()))) fun o53=>
 .sum o53 (fun p54=>
 .ret (.inl (p54.1,())))
 (fun o55=>
 .ret (.inr ((),()))))
 (.opt (L_ref06_Form_13 ((op,false,()))) fun o56=>
 .opt (L_ref06_Form_17 ((o56.1,o56.2.1,()))) fun o57=>
 .sum o57 (fun p58=>
 .ret (.inl (p58.1,())))
 (fun o59=>
 .ret (.inr ((),())))))
def L_ref06_Form_9 (a:W .i64×Bool×Unit):Option ((W .i64×Unit)⊕(Unit×Unit)):=(B_ref06_Form_9 a.1 a.2.1).eval
def B_ref06_Form_5 (op:W .i64) (t_3:Bool):Tree ((W .i64×Unit)⊕(Unit×Unit)):=
 .ite t_3 (.ret (.inl ((W.of .i64 1),())))
 (.ite (W.ge op (W.of .i64 21)) (.opt (L_ref06_Form_9 ((op,(W.le op (W.of .i64 23)),()))) fun o60=>
 .sum o60 (fun p61=>
 .ret (.inl (p61.1,())))
 (fun o62=>
 .ret (.inr ((),()))))
 (.opt (L_ref06_Form_9 ((op,false,()))) fun o63=>
 .sum o63 (fun p64=>
 .ret (.inl (p64.1,())))
 (fun o65=>
 .ret (.inr ((),())))))
def L_ref06_Form_5 (a:W .i64×Bool×Unit):Option ((W .i64×Unit)⊕(Unit×Unit)):=(B_ref06_Form_5 a.1 a.2.1).eval
def B_ref06_Form_67 :Tree (W .i64×Unit):=
 .ret ((W.of .i64 0),())
def L_ref06_Form_67 (a:Unit):Option (W .i64×Unit):=(B_ref06_Form_67).eval
def T_ref06_Form (op:W .i64):Tree (W .i64):=
 .ite (W.ge op (W.of .i64 1)) (.opt (L_ref06_Form_3 ((op,(W.le op (W.of .i64 20)),()))) fun o1=>
 .opt (L_ref06_Form_5 ((o1.1,o1.2.1,()))) fun o66=>
 .sum o66 (fun p67=>
 .ret p67.1)
 (fun o68=>
 .opt (L_ref06_Form_67 (())) fun o69=>
 .ret o69.1))
 (.opt (L_ref06_Form_3 ((op,false,()))) fun o70=>
 .opt (L_ref06_Form_5 ((o70.1,o70.2.1,()))) fun o71=>
 .sum o71 (fun p72=>
 .ret p72.1)
 (fun o73=>
 .opt (L_ref06_Form_67 (())) fun o74=>
 .ret o74.1))
def F_ref06_Form (op:W .i64):Option (W .i64):=(T_ref06_Form op).eval
def T_ref06_Has (form field:W .i64):Tree (Bool):=
 .ite (W.eq field (W.of .i64 1)) (.ite (W.eq form (W.of .i64 1)) (.ret true)
 (.ite (W.eq form (W.of .i64 2)) (.ret true)
 (.ite (W.eq form (W.of .i64 5)) (.ret true)
 (.ite (W.eq form (W.of .i64 6)) (.ret true)
 (.ite (W.eq form (W.of .i64 7)) (.ret true)
 (.ret (W.eq form (W.of .i64 11))))))))
 (.ite (W.eq field (W.of .i64 2)) (.ite (W.eq form (W.of .i64 1)) (.ret true)
 (.ite (W.eq form (W.of .i64 2)) (.ret true)
 (.ite (W.eq form (W.of .i64 3)) (.ret true)
 (.ite (W.eq form (W.of .i64 4)) (.ret true)
 (.ite (W.eq form (W.of .i64 6)) (.ret true)
 (.ite (W.eq form (W.of .i64 8)) (.ret true)
 (.ite (W.eq form (W.of .i64 9)) (.ret true)
 (.ret (W.eq form (W.of .i64 11))))))))))
 (.ite (W.eq field (W.of .i64 3)) (.ite (W.eq form (W.of .i64 1)) (.ret true)
 (.ite (W.eq form (W.of .i64 3)) (.ret true)
 (.ite (W.eq form (W.of .i64 4)) (.ret true)
 (.ret (W.eq form (W.of .i64 6))))))
 (.ite (W.eq form (W.of .i64 2)) (.ret true)
 (.ite (W.eq form (W.of .i64 3)) (.ret true)
 (.ite (W.eq form (W.of .i64 4)) (.ret true)
 (.ite (W.eq form (W.of .i64 5)) (.ret true)
 (.ite (W.eq form (W.of .i64 7)) (.ret true)
 (.ret (W.eq form (W.of .i64 8))))))))))
def F_ref06_Has (form field:W .i64):Option (Bool):=(T_ref06_Has form field).eval
def T_ref06_reg (has:Bool) (n_1:W .i64):Tree (Bool):=
 .ite (W.eq n_1 (W.of .i64 0)) (.ret true)
 (.ite has (.ite (W.gt n_1 (W.of .i64 0)) (.ret (W.lt n_1 (W.of .i64 16)))
 (.ret false))
 (.ret false))
def F_ref06_reg (has:Bool) (n_1:W .i64):Option (Bool):=(T_ref06_reg has n_1).eval
def T_ref06_imm (op n_1:W .i64):Tree (Bool):=
 .ite (W.ge op (W.of .i64 30)) (.ite (W.le op (W.of .i64 32)) (.ite (W.ge n_1 (W.of .i64 0)) (.ret (W.le n_1 (W.of .i64 31)))
 (.ret false))
 (.ite (W.eq op (W.of .i64 33)) (.ite (W.ge n_1 (W.of .i64 0)) (.ret (W.le n_1 (W.of .i64 262143)))
 (.ret false))
 (.ite (W.eq op (W.of .i64 49)) (.ite (W.ge n_1 (W.of .i64 (-131072))) (.ret (W.le n_1 (W.of .i64 131071)))
 (.ret false))
 (.ite (W.ge n_1 (W.of .i64 (-8192))) (.ret (W.le n_1 (W.of .i64 8191)))
 (.ret false)))))
 (.ite (W.eq op (W.of .i64 33)) (.ite (W.ge n_1 (W.of .i64 0)) (.ret (W.le n_1 (W.of .i64 262143)))
 (.ret false))
 (.ite (W.eq op (W.of .i64 49)) (.ite (W.ge n_1 (W.of .i64 (-131072))) (.ret (W.le n_1 (W.of .i64 131071)))
 (.ret false))
 (.ite (W.ge n_1 (W.of .i64 (-8192))) (.ret (W.le n_1 (W.of .i64 8191)))
 (.ret false))))
def F_ref06_imm (op n_1:W .i64):Option (Bool):=(T_ref06_imm op n_1).eval
def T_ref06_Right (i:TInst):Tree (W .i64):=
 .opt (F_ref06_Form i.Op) fun r1=>
 .ite (W.eq r1 (W.of .i64 0)) (.ret (W.of .i64 9))
 (.opt (F_ref06_Has r1 (W.of .i64 1)) fun r2=>
 .opt (F_ref06_reg r2 i.Rd) fun r3=>
 .ite (!r3) (.ret (W.of .i64 1))
 (.opt (F_ref06_Has r1 (W.of .i64 2)) fun r4=>
 .opt (F_ref06_reg r4 i.Ra) fun r5=>
 .ite (!r5) (.ret (W.of .i64 1))
 (.opt (F_ref06_Has r1 (W.of .i64 3)) fun r6=>
 .opt (F_ref06_reg r6 i.Rb) fun r7=>
 .ite (!r7) (.ret (W.of .i64 1))
 (.opt (F_ref06_Has r1 (W.of .i64 4)) fun r8=>
 .ite (!r8) (.ite (W.ne i.Imm (W.of .i64 0)) (.ret (W.of .i64 1))
 (.opt (F_ref06_Has r1 (W.of .i64 4)) fun r9=>
 .ite r9 (.opt (F_ref06_imm i.Op i.Imm) fun r10=>
 .ite (!r10) (.ret (W.of .i64 3))
 (.ret (W.of .i64 0)))
 (.ret (W.of .i64 0))))
 (.opt (F_ref06_Has r1 (W.of .i64 4)) fun r11=>
 .ite r11 (.opt (F_ref06_imm i.Op i.Imm) fun r12=>
 .ite (!r12) (.ret (W.of .i64 3))
 (.ret (W.of .i64 0)))
 (.ret (W.of .i64 0)))))))
def F_ref06_Right (i:TInst):Option (W .i64):=(T_ref06_Right i).eval
def T_ref06_Dec (w:W .u32):Tree (TInst×W .i64):=
 .opt (F_ref06_Form (W.conv (.i64) (W.quo w (W.of .u32 67108864)))) fun r1=>
 .ite (W.eq r1 (W.of .i64 0)) (.ret ((TInst.mk (W.of .i64 0) (W.of .i64 0) (W.of .i64 0) (W.of .i64 0) (W.of .i64 0)),(W.of .i64 9)))
 (.ite (W.eq r1 (W.of .i64 5)) (.ite (W.eq (W.conv (.i64) (W.quo w (W.of .u32 67108864))) (W.of .i64 49)) (.ite (W.ge (W.conv (.i64) (W.rem w (W.of .u32 262144))) (W.of .i64 131072)) (.opt (F_ref06_Right (TInst.mk (W.conv (.i64) (W.quo w (W.of .u32 67108864))) (W.conv (.i64) (W.rem (W.quo w (W.of .u32 4194304)) (W.of .u32 16))) (W.conv (.i64) (W.rem (W.quo w (W.of .u32 262144)) (W.of .u32 16))) (W.of .i64 0) (W.sub (W.conv (.i64) (W.rem w (W.of .u32 262144))) (W.of .i64 262144)))) fun r2=>
 .ite (W.ne r2 (W.of .i64 0)) (.ret ((TInst.mk (W.of .i64 0) (W.of .i64 0) (W.of .i64 0) (W.of .i64 0) (W.of .i64 0)),(W.of .i64 2)))
 (.ret ((TInst.mk (W.conv (.i64) (W.quo w (W.of .u32 67108864))) (W.conv (.i64) (W.rem (W.quo w (W.of .u32 4194304)) (W.of .u32 16))) (W.conv (.i64) (W.rem (W.quo w (W.of .u32 262144)) (W.of .u32 16))) (W.of .i64 0) (W.sub (W.conv (.i64) (W.rem w (W.of .u32 262144))) (W.of .i64 262144))),(W.of .i64 0))))
 (.opt (F_ref06_Right (TInst.mk (W.conv (.i64) (W.quo w (W.of .u32 67108864))) (W.conv (.i64) (W.rem (W.quo w (W.of .u32 4194304)) (W.of .u32 16))) (W.conv (.i64) (W.rem (W.quo w (W.of .u32 262144)) (W.of .u32 16))) (W.of .i64 0) (W.conv (.i64) (W.rem w (W.of .u32 262144))))) fun r3=>
 .ite (W.ne r3 (W.of .i64 0)) (.ret ((TInst.mk (W.of .i64 0) (W.of .i64 0) (W.of .i64 0) (W.of .i64 0) (W.of .i64 0)),(W.of .i64 2)))
 (.ret ((TInst.mk (W.conv (.i64) (W.quo w (W.of .u32 67108864))) (W.conv (.i64) (W.rem (W.quo w (W.of .u32 4194304)) (W.of .u32 16))) (W.conv (.i64) (W.rem (W.quo w (W.of .u32 262144)) (W.of .u32 16))) (W.of .i64 0) (W.conv (.i64) (W.rem w (W.of .u32 262144)))),(W.of .i64 0)))))
 (.opt (F_ref06_Right (TInst.mk (W.conv (.i64) (W.quo w (W.of .u32 67108864))) (W.conv (.i64) (W.rem (W.quo w (W.of .u32 4194304)) (W.of .u32 16))) (W.conv (.i64) (W.rem (W.quo w (W.of .u32 262144)) (W.of .u32 16))) (W.of .i64 0) (W.conv (.i64) (W.rem w (W.of .u32 262144))))) fun r4=>
 .ite (W.ne r4 (W.of .i64 0)) (.ret ((TInst.mk (W.of .i64 0) (W.of .i64 0) (W.of .i64 0) (W.of .i64 0) (W.of .i64 0)),(W.of .i64 2)))
 (.ret ((TInst.mk (W.conv (.i64) (W.quo w (W.of .u32 67108864))) (W.conv (.i64) (W.rem (W.quo w (W.of .u32 4194304)) (W.of .u32 16))) (W.conv (.i64) (W.rem (W.quo w (W.of .u32 262144)) (W.of .u32 16))) (W.of .i64 0) (W.conv (.i64) (W.rem w (W.of .u32 262144)))),(W.of .i64 0)))))
 (.ite (W.ge (W.conv (.i64) (W.rem w (W.of .u32 16384))) (W.of .i64 8192)) (.opt (F_ref06_Right (TInst.mk (W.conv (.i64) (W.quo w (W.of .u32 67108864))) (W.conv (.i64) (W.rem (W.quo w (W.of .u32 4194304)) (W.of .u32 16))) (W.conv (.i64) (W.rem (W.quo w (W.of .u32 262144)) (W.of .u32 16))) (W.conv (.i64) (W.rem (W.quo w (W.of .u32 16384)) (W.of .u32 16))) (W.sub (W.conv (.i64) (W.rem w (W.of .u32 16384))) (W.of .i64 16384)))) fun r5=>
 .ite (W.ne r5 (W.of .i64 0)) (.ret ((TInst.mk (W.of .i64 0) (W.of .i64 0) (W.of .i64 0) (W.of .i64 0) (W.of .i64 0)),(W.of .i64 2)))
 (.ret ((TInst.mk (W.conv (.i64) (W.quo w (W.of .u32 67108864))) (W.conv (.i64) (W.rem (W.quo w (W.of .u32 4194304)) (W.of .u32 16))) (W.conv (.i64) (W.rem (W.quo w (W.of .u32 262144)) (W.of .u32 16))) (W.conv (.i64) (W.rem (W.quo w (W.of .u32 16384)) (W.of .u32 16))) (W.sub (W.conv (.i64) (W.rem w (W.of .u32 16384))) (W.of .i64 16384))),(W.of .i64 0))))
 (.opt (F_ref06_Right (TInst.mk (W.conv (.i64) (W.quo w (W.of .u32 67108864))) (W.conv (.i64) (W.rem (W.quo w (W.of .u32 4194304)) (W.of .u32 16))) (W.conv (.i64) (W.rem (W.quo w (W.of .u32 262144)) (W.of .u32 16))) (W.conv (.i64) (W.rem (W.quo w (W.of .u32 16384)) (W.of .u32 16))) (W.conv (.i64) (W.rem w (W.of .u32 16384))))) fun r6=>
 .ite (W.ne r6 (W.of .i64 0)) (.ret ((TInst.mk (W.of .i64 0) (W.of .i64 0) (W.of .i64 0) (W.of .i64 0) (W.of .i64 0)),(W.of .i64 2)))
 (.ret ((TInst.mk (W.conv (.i64) (W.quo w (W.of .u32 67108864))) (W.conv (.i64) (W.rem (W.quo w (W.of .u32 4194304)) (W.of .u32 16))) (W.conv (.i64) (W.rem (W.quo w (W.of .u32 262144)) (W.of .u32 16))) (W.conv (.i64) (W.rem (W.quo w (W.of .u32 16384)) (W.of .u32 16))) (W.conv (.i64) (W.rem w (W.of .u32 16384)))),(W.of .i64 0))))))
def F_ref06_Dec (w:W .u32):Option (TInst×W .i64):=(T_ref06_Dec w).eval
def T_ref06_Priv (op:W .i64):Tree (Bool):=
 .ite (W.eq op (W.of .i64 55)) (.ret true)
 (.ite (W.eq op (W.of .i64 57)) (.ret true)
 (.ite (W.eq op (W.of .i64 59)) (.ret true)
 (.ret (W.eq op (W.of .i64 61)))))
def F_ref06_Priv (op:W .i64):Option (Bool):=(T_ref06_Priv op).eval
def T_ref14_Single (a:TArch):Tree (Bool):=
 .opt (F_ref11_Kernel a) fun r1=>
 .ite (!r1) (.opt (F_ref14_Has a (W.of .u32 32)) fun r2=>
 .ret r2)
 (.ret false)
def F_ref14_Single (a:TArch):Option (Bool):=(T_ref14_Single a).eval
def T_ref15_Size (op:W .i64):Tree (W .i64):=
 .ite (W.eq op (W.of .i64 34)) (.ret (W.of .i64 1))
 (.ite (W.eq op (W.of .i64 35)) (.ret (W.of .i64 1))
 (.ite (W.eq op (W.of .i64 40)) (.ret (W.of .i64 1))
 (.ite (W.eq op (W.of .i64 36)) (.ret (W.of .i64 2))
 (.ite (W.eq op (W.of .i64 37)) (.ret (W.of .i64 2))
 (.ite (W.eq op (W.of .i64 41)) (.ret (W.of .i64 2))
 (.ret (W.of .i64 4)))))))
def F_ref15_Size (op:W .i64):Option (W .i64):=(T_ref15_Size op).eval
def T_ref01_brought (n_0 least most:W .i64):Tree (W .i64):=
 .ite (W.lt n_0 least) (.ret least)
 (.ite (W.gt n_0 most) (.ret most)
 (.ret n_0))
def F_ref01_brought (n_0 least most:W .i64):Option (W .i64):=(T_ref01_brought n_0 least most).eval
def B_ref01_power_7 (n_0:W .i64) (x:W .u32) (i:W .i64):Tree (Rnd (W .i64×W .u32×W .i64×Unit) (W .u32×Unit)):=
 .ite (W.lt i n_0) (.ret (.next (n_0,(W.mul x (W.of .u32 2)),(W.add i (W.of .i64 1)),())))
 (.ret (.out (x,())))
def L_ref01_power_7 (a:W .i64×W .u32×W .i64×Unit):Option (W .u32×Unit):=iter (fun a:W .i64×W .u32×W .i64×Unit=>(B_ref01_power_7 a.1 a.2.1 a.2.2.1).eval) fuel a
def T_ref01_power (n_0:W .i64):Tree (W .u32):=
 .opt (L_ref01_power_7 ((n_0,(W.of .u32 1),(W.of .i64 0),()))) fun o1=>
 .ret o1.1
def F_ref01_power (n_0:W .i64):Option (W .u32):=(T_ref01_power n_0).eval
def T_ref01_bit (x:W .u32) (i:W .i64):Tree (W .u32):=
 .opt (F_ref01_power i) fun r1=>
 .opt (W.quo? x r1) fun z2=>
 .ret (W.rem z2 (W.of .u32 2))
def F_ref01_bit (x:W .u32) (i:W .i64):Option (W .u32):=(T_ref01_bit x i).eval
def B_ref01_Zext_9 (x:W .u32) (n_1:W .i64) (out:W .u32) (i:W .i64):Tree (Rnd (W .u32×W .i64×W .u32×W .i64×Unit) (W .u32×Unit)):=
 .ite (W.lt i n_1) (.opt (F_ref01_bit x i) fun r2=>
 .opt (F_ref01_power i) fun r3=>
 .ret (.next (x,n_1,(W.add out (W.mul r2 r3)),(W.add i (W.of .i64 1)),())))
 (.ret (.out (out,())))
def L_ref01_Zext_9 (a:W .u32×W .i64×W .u32×W .i64×Unit):Option (W .u32×Unit):=iter (fun a:W .u32×W .i64×W .u32×W .i64×Unit=>(B_ref01_Zext_9 a.1 a.2.1 a.2.2.1 a.2.2.2.1).eval) fuel a
def T_ref01_Zext (x:W .u32) (n_1:W .i64):Tree (W .u32):=
 .opt (F_ref01_brought n_1 (W.of .i64 0) (W.of .i64 32)) fun r1=>
 .opt (L_ref01_Zext_9 ((x,r1,(W.of .u32 0),(W.of .i64 0),()))) fun o4=>
 .ret o4.1
def F_ref01_Zext (x:W .u32) (n_1:W .i64):Option (W .u32):=(T_ref01_Zext x n_1).eval
def B_ref10_Write_15 (addr:W .u32) (size:W .i64) (v:W .u32) (out:Sl 1 (W .u8)) (k:W .i64):Tree (Rnd (W .u32×W .i64×W .u32×Sl 1 (W .u8)×W .i64×Unit) (Sl 1 (W .u8)×Unit)):=
 .ite (W.lt k size) (.opt (idx? (List.length out.l) (W.add (W.conv (.i64) addr) k)) fun j2=>
 .ret (.next (addr,size,(W.quo v (W.of .u32 256)),(Sl.set out j2 (W.conv (.u8) (W.rem v (W.of .u32 256)))),(W.add k (W.of .i64 1)),())))
 (.ret (.out (out,())))
def L_ref10_Write_15 (a:W .u32×W .i64×W .u32×Sl 1 (W .u8)×W .i64×Unit):Option (Sl 1 (W .u8)×Unit):=iter (fun a:W .u32×W .i64×W .u32×Sl 1 (W .u8)×W .i64×Unit=>(B_ref10_Write_15 a.1 a.2.1 a.2.2.1 a.2.2.2.1 a.2.2.2.2.1).eval) fuel a
def T_ref10_Write (m:Sl 1 (W .u8)) (addr:W .u32) (size:W .i64) (v:W .u32):Tree (Sl 1 (W .u8)×W .i64):=
 .opt (F_ref10_Check m addr size) fun r1=>
 .ite (W.ne r1 (W.of .i64 0)) (.ret ((Sl.nil:Sl 1 (W .u8)),r1))
 (.opt (L_ref10_Write_15 ((addr,size,v,m,(W.of .i64 0),()))) fun o3=>
 .ret (o3.1,(W.of .i64 0)))
def F_ref10_Write (m:Sl 1 (W .u8)) (addr:W .u32) (size:W .i64) (v:W .u32):Option (Sl 1 (W .u8)×W .i64):=(T_ref10_Write m addr size v).eval
def B_ref01_Sext_15 (out:W .u32) (i:W .i64):Tree (Rnd (W .u32×W .i64×Unit) (W .u32×Unit)):=
 .ite (W.lt i (W.of .i64 32)) (.opt (F_ref01_power i) fun r4=>
 .ret (.next ((W.add out r4),(W.add i (W.of .i64 1)),())))
 (.ret (.out (out,())))
def L_ref01_Sext_15 (a:W .u32×W .i64×Unit):Option (W .u32×Unit):=iter (fun a:W .u32×W .i64×Unit=>(B_ref01_Sext_15 a.1 a.2.1).eval) fuel a
def T_ref01_Sext (x:W .u32) (n_1:W .i64):Tree (W .u32):=
 .opt (F_ref01_brought n_1 (W.of .i64 0) (W.of .i64 32)) fun r1=>
 .opt (F_ref01_Zext x r1) fun r2=>
 .ite (W.eq r1 (W.of .i64 0)) (.ret r2)
 (.opt (F_ref01_bit x (W.sub r1 (W.of .i64 1))) fun r3=>
 .ite (W.eq r3 (W.of .u32 0)) (.ret r2)
 (.opt (L_ref01_Sext_15 ((r2,r1,()))) fun o5=>
 .ret o5.1))
def F_ref01_Sext (x:W .u32) (n_1:W .i64):Option (W .u32):=(T_ref01_Sext x n_1).eval
def T_ref15_write (m:TMach) (e:TEvent) (rd:W .i64) (v:W .u32):Tree (TMach×TEvent):=
 .ite (W.gt rd (W.of .i64 0)) (.opt (idx? 16 rd) fun j1=>
 .ret (({ m with A:=({ m.A with R:=(Arr.set m.A.R j1 v) }:TArch) }:TMach),({ e with Rd:=rd,Val:=v }:TEvent)))
 (.ret (m,e))
def F_ref15_write (m:TMach) (e:TEvent) (rd:W .i64) (v:W .u32):Option (TMach×TEvent):=(T_ref15_write m e rd v).eval
def B_ref15_memory_49 (m:TMach) (e:TEvent) (i:TInst) (t_6:TMach) (t_7:TEvent) (base:W .u32) (size:W .i64) (v:W .u32) (t_110:Bool):Tree (TMach×TEvent×TInst×TMach×TEvent×W .u32×W .u32×Unit):=
 .ite t_110 (.opt (F_ref01_Sext v (W.mul (W.of .i64 8) size)) fun r8=>
 .ret (m,e,i,t_6,t_7,base,r8,()))
 (.ret (m,e,i,t_6,t_7,base,v,()))
def L_ref15_memory_49 (a:TMach×TEvent×TInst×TMach×TEvent×W .u32×W .i64×W .u32×Bool×Unit):Option (TMach×TEvent×TInst×TMach×TEvent×W .u32×W .u32×Unit):=(B_ref15_memory_49 a.1 a.2.1 a.2.2.1 a.2.2.2.1 a.2.2.2.2.1 a.2.2.2.2.2.1 a.2.2.2.2.2.2.1 a.2.2.2.2.2.2.2.1 a.2.2.2.2.2.2.2.2.1).eval
def B_ref15_memory_53 (m:TMach) (e:TEvent) (i:TInst) (t_6:TMach) (t_7:TEvent) (base v:W .u32) (t_129:Bool):Tree (TMach×TEvent×TInst×TMach×TEvent×W .u32×Unit):=
 .ite t_129 (.opt (idx? 16 i.Ra) fun j10=>
 .ret (({ m with A:=({ m.A with R:=(Arr.set m.A.R j10 (W.add base (W.conv (.u32) i.Imm))) }:TArch) }:TMach),({ e with Rd2:=i.Ra,Val2:=(W.add base (W.conv (.u32) i.Imm)) }:TEvent),i,t_6,t_7,v,()))
 (.ret (m,e,i,t_6,t_7,v,()))
def L_ref15_memory_53 (a:TMach×TEvent×TInst×TMach×TEvent×W .u32×W .u32×Bool×Unit):Option (TMach×TEvent×TInst×TMach×TEvent×W .u32×Unit):=(B_ref15_memory_53 a.1 a.2.1 a.2.2.1 a.2.2.2.1 a.2.2.2.2.1 a.2.2.2.2.2.1 a.2.2.2.2.2.2.1 a.2.2.2.2.2.2.2.1).eval
def B_ref15_memory_59 (m:TMach) (e:TEvent) (i:TInst) (t_6:TMach) (t_7:TEvent) (v:W .u32):Tree (TMach×TEvent×W .i64×W .u32×Unit):=
 .opt (F_ref15_write m e i.Rd v) fun r12=>
 .ret (r12.1,r12.2,(W.of .i64 0),(W.of .u32 0),())
def L_ref15_memory_59 (a:TMach×TEvent×TInst×TMach×TEvent×W .u32×Unit):Option (TMach×TEvent×W .i64×W .u32×Unit):=(B_ref15_memory_59 a.1 a.2.1 a.2.2.1 a.2.2.2.1 a.2.2.2.2.1 a.2.2.2.2.2.1).eval
def B_ref15_memory_51 (m:TMach) (e:TEvent) (i:TInst) (t_6:TMach) (t_7:TEvent) (base v:W .u32):Tree (TMach×TEvent×W .i64×W .u32×Unit):=
 .ite (W.eq i.Op (W.of .i64 39)) (.ite (W.ne i.Ra i.Rd) (.opt (L_ref15_memory_53 ((m,e,i,t_6,t_7,base,v,(W.ne i.Ra (W.of .i64 0)),()))) fun o11=>
 .opt (L_ref15_memory_59 ((o11.1,o11.2.1,o11.2.2.1,o11.2.2.2.1,o11.2.2.2.2.1,o11.2.2.2.2.2.1,()))) fun o13=>
 .ret (o13.1,o13.2.1,o13.2.2.1,o13.2.2.2.1,()))
 (.opt (L_ref15_memory_53 ((m,e,i,t_6,t_7,base,v,false,()))) fun o14=>
 .opt (L_ref15_memory_59 ((o14.1,o14.2.1,o14.2.2.1,o14.2.2.2.1,o14.2.2.2.2.1,o14.2.2.2.2.2.1,()))) fun o15=>
 .ret (o15.1,o15.2.1,o15.2.2.1,o15.2.2.2.1,())))
 (.opt (L_ref15_memory_53 ((m,e,i,t_6,t_7,base,v,false,()))) fun o16=>
 .opt (L_ref15_memory_59 ((o16.1,o16.2.1,o16.2.2.1,o16.2.2.2.1,o16.2.2.2.2.1,o16.2.2.2.2.2.1,()))) fun o17=>
 .ret (o17.1,o17.2.1,o17.2.2.1,o17.2.2.2.1,()))
def L_ref15_memory_51 (a:TMach×TEvent×TInst×TMach×TEvent×W .u32×W .u32×Unit):Option (TMach×TEvent×W .i64×W .u32×Unit):=(B_ref15_memory_51 a.1 a.2.1 a.2.2.1 a.2.2.2.1 a.2.2.2.2.1 a.2.2.2.2.2.1 a.2.2.2.2.2.2.1).eval
def B_ref15_memory_45 (m:TMach) (e:TEvent) (i:TInst) (t_6:TMach) (t_7:TEvent) (base:W .u32) (size:W .i64) (pa:W .u32):Tree (TMach×TEvent×W .i64×W .u32×Unit):=
 .opt (F_ref10_Read m.Mem pa size) fun r7=>
 .ite (W.eq i.Op (W.of .i64 34)) (.opt (L_ref15_memory_49 ((m,e,i,t_6,t_7,base,size,r7.1,true,()))) fun o9=>
 .opt (L_ref15_memory_51 ((o9.1,o9.2.1,o9.2.2.1,o9.2.2.2.1,o9.2.2.2.2.1,o9.2.2.2.2.2.1,o9.2.2.2.2.2.2.1,()))) fun o18=>
 .ret (o18.1,o18.2.1,o18.2.2.1,o18.2.2.2.1,()))
 (.opt (L_ref15_memory_49 ((m,e,i,t_6,t_7,base,size,r7.1,(W.eq i.Op (W.of .i64 36)),()))) fun o19=>
 .opt (L_ref15_memory_51 ((o19.1,o19.2.1,o19.2.2.1,o19.2.2.2.1,o19.2.2.2.2.1,o19.2.2.2.2.2.1,o19.2.2.2.2.2.2.1,()))) fun o20=>
 .ret (o20.1,o20.2.1,o20.2.2.1,o20.2.2.2.1,()))
def L_ref15_memory_45 (a:TMach×TEvent×TInst×TMach×TEvent×W .u32×W .i64×W .u32×Unit):Option (TMach×TEvent×W .i64×W .u32×Unit):=(B_ref15_memory_45 a.1 a.2.1 a.2.2.1 a.2.2.2.1 a.2.2.2.2.1 a.2.2.2.2.2.1 a.2.2.2.2.2.2.1 a.2.2.2.2.2.2.2.1).eval
def B_ref15_memory_25 (m:TMach) (e:TEvent) (i:TInst) (t_6:TMach) (t_7:TEvent) (base:W .u32) (size:W .i64) (pa:W .u32):Tree (TMach×TEvent×W .i64×W .u32×Unit):=
 .ite (W.ge i.Op (W.of .i64 40)) (.opt (idx? 16 i.Rb) fun j4=>
 .opt (F_ref01_Zext (Arr.get m.A.R j4) (W.mul (W.of .i64 8) size)) fun r5=>
 .opt (F_ref10_Write m.Mem pa size r5) fun r6=>
 .ret (({ m with A:=({ m.A with PC:=(W.add m.A.PC (W.of .u32 4)) }:TArch),Mem:=r6.1 }:TMach),({ e with Size:=size,Addr:=pa,Data:=r5 }:TEvent),(W.of .i64 0),(W.of .u32 0),()))
 (.opt (L_ref15_memory_45 ((({ m with A:=({ m.A with PC:=(W.add m.A.PC (W.of .u32 4)) }:TArch) }:TMach),e,i,t_6,t_7,base,size,pa,()))) fun o21=>
 .ret (o21.1,o21.2.1,o21.2.2.1,o21.2.2.2.1,()))
def L_ref15_memory_25 (a:TMach×TEvent×TInst×TMach×TEvent×W .u32×W .i64×W .u32×Unit):Option (TMach×TEvent×W .i64×W .u32×Unit):=(B_ref15_memory_25 a.1 a.2.1 a.2.2.1 a.2.2.2.1 a.2.2.2.2.1 a.2.2.2.2.2.1 a.2.2.2.2.2.2.1 a.2.2.2.2.2.2.2.1).eval
def B_ref15_memory_17 (m:TMach) (e:TEvent) (i:TInst) (t_6:TMach) (t_7:TEvent) (base va:W .u32) (size kind:W .i64):Tree (TMach×TEvent×W .i64×W .u32×Unit):=
 .opt (F_ref15_Access m m.Mem va size kind) fun r3=>
 .ite (W.ne r3.2 (W.of .i64 0)) (.ret (m,e,r3.2,va,()))
 (.opt (L_ref15_memory_25 ((m,e,i,t_6,t_7,base,size,r3.1,()))) fun o22=>
 .ret (o22.1,o22.2.1,o22.2.2.1,o22.2.2.2.1,()))
def L_ref15_memory_17 (a:TMach×TEvent×TInst×TMach×TEvent×W .u32×W .u32×W .i64×W .i64×Unit):Option (TMach×TEvent×W .i64×W .u32×Unit):=(B_ref15_memory_17 a.1 a.2.1 a.2.2.1 a.2.2.2.1 a.2.2.2.2.1 a.2.2.2.2.2.1 a.2.2.2.2.2.2.1 a.2.2.2.2.2.2.2.1 a.2.2.2.2.2.2.2.2.1).eval
def B_ref15_memory_9 (m:TMach) (e:TEvent) (i:TInst) (t_6:TMach) (t_7:TEvent) (base va:W .u32):Tree (TMach×TEvent×W .i64×W .u32×Unit):=
 .opt (F_ref15_Size i.Op) fun r2=>
 .ite (W.ge i.Op (W.of .i64 40)) (.opt (L_ref15_memory_17 ((m,e,i,t_6,t_7,base,va,r2,(W.of .i64 3),()))) fun o23=>
 .ret (o23.1,o23.2.1,o23.2.2.1,o23.2.2.2.1,()))
 (.opt (L_ref15_memory_17 ((m,e,i,t_6,t_7,base,va,r2,(W.of .i64 2),()))) fun o24=>
 .ret (o24.1,o24.2.1,o24.2.2.1,o24.2.2.2.1,()))
def L_ref15_memory_9 (a:TMach×TEvent×TInst×TMach×TEvent×W .u32×W .u32×Unit):Option (TMach×TEvent×W .i64×W .u32×Unit):=(B_ref15_memory_9 a.1 a.2.1 a.2.2.1 a.2.2.2.1 a.2.2.2.2.1 a.2.2.2.2.2.1 a.2.2.2.2.2.2.1).eval
def T_ref15_memory (m:TMach) (e:TEvent) (i:TInst):Tree (TMach×TEvent×W .i64×W .u32):=
 .opt (idx? 16 i.Ra) fun j1=>
 .ite (W.eq i.Op (W.of .i64 39)) (.opt (L_ref15_memory_9 ((m,e,i,(TMach.mk (TArch.mk (W.of .u32 0) (Arr.rep 16 (W.of .u32 0):Arr 16 (W .u32)) (Arr.rep 12 (W.of .u32 0):Arr 12 (W .u32)) false) (Sl.nil:Sl 1 (W .u8)) (Sl.nil:Sl 1 (W .u8)) (Sl.nil:Sl 4 (W .u32))),(TEvent.mk (W.of .u32 0) (W.of .u32 0) (W.of .i64 0) (W.of .u32 0) (W.of .i64 0) (W.of .u32 0) (W.of .i64 0) (W.of .u32 0) (W.of .u32 0) (W.of .i64 0) (W.of .u32 0) (W.of .u32 0)),(Arr.get m.A.R j1),(Arr.get m.A.R j1),()))) fun o25=>
 .ret (o25.1,o25.2.1,o25.2.2.1,o25.2.2.2.1))
 (.opt (L_ref15_memory_9 ((m,e,i,(TMach.mk (TArch.mk (W.of .u32 0) (Arr.rep 16 (W.of .u32 0):Arr 16 (W .u32)) (Arr.rep 12 (W.of .u32 0):Arr 12 (W .u32)) false) (Sl.nil:Sl 1 (W .u8)) (Sl.nil:Sl 1 (W .u8)) (Sl.nil:Sl 4 (W .u32))),(TEvent.mk (W.of .u32 0) (W.of .u32 0) (W.of .i64 0) (W.of .u32 0) (W.of .i64 0) (W.of .u32 0) (W.of .i64 0) (W.of .u32 0) (W.of .u32 0) (W.of .i64 0) (W.of .u32 0) (W.of .u32 0)),(Arr.get m.A.R j1),(W.add (Arr.get m.A.R j1) (W.conv (.u32) i.Imm)),()))) fun o26=>
 .ret (o26.1,o26.2.1,o26.2.2.1,o26.2.2.2.1))
def F_ref15_memory (m:TMach) (e:TEvent) (i:TInst):Option (TMach×TEvent×W .i64×W .u32):=(T_ref15_memory m e i).eval
def T_ref15_atomic (m:TMach) (e:TEvent) (i:TInst):Tree (TMach×TEvent×W .i64×W .u32):=
 .opt (idx? 16 i.Ra) fun j1=>
 .opt (F_ref15_Access m m.Mem (Arr.get m.A.R j1) (W.of .i64 4) (W.of .i64 3)) fun r2=>
 .ite (W.ne r2.2 (W.of .i64 0)) (.ret (m,e,r2.2,(Arr.get m.A.R j1)))
 (.opt (F_ref10_Read m.Mem r2.1 (W.of .i64 4)) fun r3=>
 .opt (idx? 16 i.Rb) fun j4=>
 .ite (W.eq i.Op (W.of .i64 52)) (.ite (W.ne i.Op (W.of .i64 53)) (.opt (F_ref10_Write m.Mem r2.1 (W.of .i64 4) (W.add r3.1 (Arr.get m.A.R j4))) fun r5=>
 .opt (F_ref15_write ({ m with A:=({ m.A with PC:=(W.add m.A.PC (W.of .u32 4)) }:TArch),Mem:=r5.1 }:TMach) ({ e with Size:=(W.of .i64 4),Addr:=r2.1,Data:=(W.add r3.1 (Arr.get m.A.R j4)) }:TEvent) i.Rd r3.1) fun r6=>
 .ret (r6.1,r6.2,(W.of .i64 0),(W.of .u32 0)))
 (.opt (idx? 16 i.Rd) fun j7=>
 .ite (W.eq r3.1 (Arr.get m.A.R j7)) (.opt (F_ref10_Write m.Mem r2.1 (W.of .i64 4) (W.add r3.1 (Arr.get m.A.R j4))) fun r8=>
 .opt (F_ref15_write ({ m with A:=({ m.A with PC:=(W.add m.A.PC (W.of .u32 4)) }:TArch),Mem:=r8.1 }:TMach) ({ e with Size:=(W.of .i64 4),Addr:=r2.1,Data:=(W.add r3.1 (Arr.get m.A.R j4)) }:TEvent) i.Rd r3.1) fun r9=>
 .ret (r9.1,r9.2,(W.of .i64 0),(W.of .u32 0)))
 (.opt (F_ref15_write ({ m with A:=({ m.A with PC:=(W.add m.A.PC (W.of .u32 4)) }:TArch) }:TMach) e i.Rd r3.1) fun r10=>
 .ret (r10.1,r10.2,(W.of .i64 0),(W.of .u32 0)))))
 (.ite (W.ne i.Op (W.of .i64 53)) (.opt (F_ref10_Write m.Mem r2.1 (W.of .i64 4) (Arr.get m.A.R j4)) fun r11=>
 .opt (F_ref15_write ({ m with A:=({ m.A with PC:=(W.add m.A.PC (W.of .u32 4)) }:TArch),Mem:=r11.1 }:TMach) ({ e with Size:=(W.of .i64 4),Addr:=r2.1,Data:=(Arr.get m.A.R j4) }:TEvent) i.Rd r3.1) fun r12=>
 .ret (r12.1,r12.2,(W.of .i64 0),(W.of .u32 0)))
 (.opt (idx? 16 i.Rd) fun j13=>
 .ite (W.eq r3.1 (Arr.get m.A.R j13)) (.opt (F_ref10_Write m.Mem r2.1 (W.of .i64 4) (Arr.get m.A.R j4)) fun r14=>
 .opt (F_ref15_write ({ m with A:=({ m.A with PC:=(W.add m.A.PC (W.of .u32 4)) }:TArch),Mem:=r14.1 }:TMach) ({ e with Size:=(W.of .i64 4),Addr:=r2.1,Data:=(Arr.get m.A.R j4) }:TEvent) i.Rd r3.1) fun r15=>
 .ret (r15.1,r15.2,(W.of .i64 0),(W.of .u32 0)))
 (.opt (F_ref15_write ({ m with A:=({ m.A with PC:=(W.add m.A.PC (W.of .u32 4)) }:TArch) }:TMach) e i.Rd r3.1) fun r16=>
 .ret (r16.1,r16.2,(W.of .i64 0),(W.of .u32 0))))))
def F_ref15_atomic (m:TMach) (e:TEvent) (i:TInst):Option (TMach×TEvent×W .i64×W .u32):=(T_ref15_atomic m e i).eval
def T_ref14_Return (a:TArch):Tree (TArch×W .i64):=
 .opt (F_ref11_Kernel a) fun r1=>
 .ite (!r1) (.ret ((TArch.mk (W.of .u32 0) (Arr.rep 16 (W.of .u32 0):Arr 16 (W .u32)) (Arr.rep 12 (W.of .u32 0):Arr 12 (W .u32)) false),(W.of .i64 8)))
 (.opt (F_ref14_put (Arr.get a.C 0) (W.of .u32 1) (W.ne (W.and (Arr.get a.C 0) (W.of .u32 4)) (W.of .u32 0))) fun r2=>
 .opt (F_ref14_put r2 (W.of .u32 2) (W.ne (W.and (Arr.get a.C 0) (W.of .u32 8)) (W.of .u32 0))) fun r3=>
 .ret (({ a with C:=(Arr.set a.C 0 r3),PC:=(Arr.get (Arr.set a.C 0 r3) 3) }:TArch),(W.of .i64 0)))
def F_ref14_Return (a:TArch):Option (TArch×W .i64):=(T_ref14_Return a).eval
def T_ref11_Read (a:TArch) (n_1:W .i64):Tree (W .u32×W .i64):=
 .opt (F_ref11_Kernel a) fun r1=>
 .ite (!r1) (.ite (W.ne n_1 (W.of .i64 7)) (.ret ((W.of .u32 0),(W.of .i64 8)))
 (.ite (W.lt n_1 (W.of .i64 0)) (.ret ((W.of .u32 0),(W.of .i64 2)))
 (.ite (W.gt n_1 (W.of .i64 11)) (.ret ((W.of .u32 0),(W.of .i64 2)))
 (.opt (idx? 12 n_1) fun j2=>
 .ret ((Arr.get a.C j2),(W.of .i64 0))))))
 (.ite (W.lt n_1 (W.of .i64 0)) (.ret ((W.of .u32 0),(W.of .i64 2)))
 (.ite (W.gt n_1 (W.of .i64 11)) (.ret ((W.of .u32 0),(W.of .i64 2)))
 (.opt (idx? 12 n_1) fun j3=>
 .ret ((Arr.get a.C j3),(W.of .i64 0)))))
def F_ref11_Read (a:TArch) (n_1:W .i64):Option (W .u32×W .i64):=(T_ref11_Read a n_1).eval
def T_ref11_Write (a:TArch) (n_1:W .i64) (v:W .u32):Tree (TArch×W .i64):=
 .opt (F_ref11_Kernel a) fun r1=>
 .ite (!r1) (.ret ((TArch.mk (W.of .u32 0) (Arr.rep 16 (W.of .u32 0):Arr 16 (W .u32)) (Arr.rep 12 (W.of .u32 0):Arr 12 (W .u32)) false),(W.of .i64 8)))
 (.ite (W.lt n_1 (W.of .i64 0)) (.ret ((TArch.mk (W.of .u32 0) (Arr.rep 16 (W.of .u32 0):Arr 16 (W .u32)) (Arr.rep 12 (W.of .u32 0):Arr 12 (W .u32)) false),(W.of .i64 2)))
 (.ite (W.gt n_1 (W.of .i64 11)) (.ret ((TArch.mk (W.of .u32 0) (Arr.rep 16 (W.of .u32 0):Arr 16 (W .u32)) (Arr.rep 12 (W.of .u32 0):Arr 12 (W .u32)) false),(W.of .i64 2)))
 (.opt (F_ref11_Masked n_1) fun r2=>
 .opt (idx? 12 n_1) fun j3=>
 .ret (({ a with C:=(Arr.set a.C j3 (W.and v r2)) }:TArch),(W.of .i64 0)))))
def F_ref11_Write (a:TArch) (n_1:W .i64) (v:W .u32):Option (TArch×W .i64):=(T_ref11_Write a n_1 v).eval
def B_ref15_system_19 (m:TMach) (e:TEvent) (t_6:TMach) (t_7:TEvent) (s:TArch):Tree (TMach×TEvent×W .i64×W .u32×Unit):=
 .ret (({ m with A:=s }:TMach),e,(W.of .i64 0),(W.of .u32 0),())
def L_ref15_system_19 (a:TMach×TEvent×TMach×TEvent×TArch×Unit):Option (TMach×TEvent×W .i64×W .u32×Unit):=(B_ref15_system_19 a.1 a.2.1 a.2.2.1 a.2.2.2.1 a.2.2.2.2.1).eval
def B_ref15_system_35 (m:TMach) (e:TEvent) (i:TInst) (t_6:TMach) (t_7:TEvent) (a v:W .u32):Tree (TMach×TEvent×TInst×TMach×TEvent×W .u32×Unit):=
 .opt (F_ref15_write m e i.Rd v) fun r5=>
 .ret (r5.1,r5.2,i,t_6,t_7,a,())
def L_ref15_system_35 (a:TMach×TEvent×TInst×TMach×TEvent×W .u32×W .u32×Unit):Option (TMach×TEvent×TInst×TMach×TEvent×W .u32×Unit):=(B_ref15_system_35 a.1 a.2.1 a.2.2.1 a.2.2.2.1 a.2.2.2.2.1 a.2.2.2.2.2.1 a.2.2.2.2.2.2.1).eval
def B_ref15_system_47 (m:TMach) (e:TEvent) (i:TInst) (t_6:TMach) (t_7:TEvent) (a:W .u32) (s:TArch):Tree (TMach×TEvent×TInst×TMach×TEvent×W .u32×Unit):=
 .ret (({ m with A:=s }:TMach),e,i,t_6,t_7,a,())
def L_ref15_system_47 (a:TMach×TEvent×TInst×TMach×TEvent×W .u32×TArch×Unit):Option (TMach×TEvent×TInst×TMach×TEvent×W .u32×Unit):=(B_ref15_system_47 a.1 a.2.1 a.2.2.1 a.2.2.2.1 a.2.2.2.2.1 a.2.2.2.2.2.1 a.2.2.2.2.2.2.1).eval
def B_ref15_system_59 (m:TMach) (e:TEvent) (i:TInst) (t_6:TMach) (t_7:TEvent) (a:W .u32) (t_122:Bool):Tree (TMach×TEvent×TInst×TMach×TEvent×Unit):=
 .ite t_122 (.ret (m,({ e with Data:=a }:TEvent),i,t_6,t_7,()))
 (.ret (m,e,i,t_6,t_7,()))
def L_ref15_system_59 (a:TMach×TEvent×TInst×TMach×TEvent×W .u32×Bool×Unit):Option (TMach×TEvent×TInst×TMach×TEvent×Unit):=(B_ref15_system_59 a.1 a.2.1 a.2.2.1 a.2.2.2.1 a.2.2.2.2.1 a.2.2.2.2.2.1 a.2.2.2.2.2.2.1).eval
def B_ref15_system_65 (m:TMach) (e:TEvent) (t_6:TMach) (t_7:TEvent):Tree (TMach×TEvent×W .i64×W .u32×Unit):=
 .ret (({ m with A:=({ m.A with PC:=(W.add m.A.PC (W.of .u32 4)) }:TArch) }:TMach),e,(W.of .i64 0),(W.of .u32 0),())
def L_ref15_system_65 (a:TMach×TEvent×TMach×TEvent×Unit):Option (TMach×TEvent×W .i64×W .u32×Unit):=(B_ref15_system_65 a.1 a.2.1 a.2.2.1 a.2.2.2.1).eval
def B_ref15_system_61 (m:TMach) (e:TEvent) (i:TInst) (t_6:TMach) (t_7:TEvent):Tree (TMach×TEvent×W .i64×W .u32×Unit):=
 .ite (W.eq i.Op (W.of .i64 61)) (.opt (L_ref15_system_65 ((({ m with A:=({ m.A with Halt:=true }:TArch) }:TMach),e,t_6,t_7,()))) fun o11=>
 .ret (o11.1,o11.2.1,o11.2.2.1,o11.2.2.2.1,()))
 (.opt (L_ref15_system_65 ((m,e,t_6,t_7,()))) fun o12=>
 .ret (o12.1,o12.2.1,o12.2.2.1,o12.2.2.2.1,()))
def L_ref15_system_61 (a:TMach×TEvent×TInst×TMach×TEvent×Unit):Option (TMach×TEvent×W .i64×W .u32×Unit):=(B_ref15_system_61 a.1 a.2.1 a.2.2.1 a.2.2.2.1 a.2.2.2.2.1).eval
def B_ref15_system_57 (m:TMach) (e:TEvent) (i:TInst) (t_6:TMach) (t_7:TEvent) (a:W .u32):Tree (TMach×TEvent×W .i64×W .u32×Unit):=
 .ite (W.eq i.Op (W.of .i64 60)) (.opt (L_ref15_system_59 ((m,e,i,t_6,t_7,a,true,()))) fun o10=>
 .opt (L_ref15_system_61 ((o10.1,o10.2.1,o10.2.2.1,o10.2.2.2.1,o10.2.2.2.2.1,()))) fun o13=>
 .ret (o13.1,o13.2.1,o13.2.2.1,o13.2.2.2.1,()))
 (.opt (L_ref15_system_59 ((m,e,i,t_6,t_7,a,(W.eq i.Op (W.of .i64 62)),()))) fun o14=>
 .opt (L_ref15_system_61 ((o14.1,o14.2.1,o14.2.2.1,o14.2.2.2.1,o14.2.2.2.2.1,()))) fun o15=>
 .ret (o15.1,o15.2.1,o15.2.2.1,o15.2.2.2.1,()))
def L_ref15_system_57 (a:TMach×TEvent×TInst×TMach×TEvent×W .u32×Unit):Option (TMach×TEvent×W .i64×W .u32×Unit):=(B_ref15_system_57 a.1 a.2.1 a.2.2.1 a.2.2.2.1 a.2.2.2.2.1 a.2.2.2.2.2.1).eval
def B_ref15_system_53 (m:TMach) (e:TEvent) (i:TInst) (t_6:TMach) (t_7:TEvent) (a:W .u32):Tree (TMach×TEvent×W .i64×W .u32×Unit):=
 .ite (W.eq i.Op (W.of .i64 60)) (.opt (Sl.app? m.Out (Sl.lit 4 [a] rfl:Sl 4 (W .u32))) fun l9=>
 .opt (L_ref15_system_57 ((({ m with Out:=l9 }:TMach),e,i,t_6,t_7,a,()))) fun o16=>
 .ret (o16.1,o16.2.1,o16.2.2.1,o16.2.2.2.1,()))
 (.opt (L_ref15_system_57 ((m,e,i,t_6,t_7,a,()))) fun o17=>
 .ret (o17.1,o17.2.1,o17.2.2.1,o17.2.2.2.1,()))
def L_ref15_system_53 (a:TMach×TEvent×TInst×TMach×TEvent×W .u32×Unit):Option (TMach×TEvent×W .i64×W .u32×Unit):=(B_ref15_system_53 a.1 a.2.1 a.2.2.1 a.2.2.2.1 a.2.2.2.2.1 a.2.2.2.2.2.1).eval
def B_ref15_system_49 (m:TMach) (e:TEvent) (i:TInst) (t_6:TMach) (t_7:TEvent) (a:W .u32):Tree (TMach×TEvent×W .i64×W .u32×Unit):=
 .ite (W.eq i.Op (W.of .i64 59)) (.opt (L_ref15_system_53 ((({ m with Shadow:=m.Mem }:TMach),e,i,t_6,t_7,a,()))) fun o18=>
 .ret (o18.1,o18.2.1,o18.2.2.1,o18.2.2.2.1,()))
 (.opt (L_ref15_system_53 ((m,e,i,t_6,t_7,a,()))) fun o19=>
 .ret (o19.1,o19.2.1,o19.2.2.1,o19.2.2.2.1,()))
def L_ref15_system_49 (a:TMach×TEvent×TInst×TMach×TEvent×W .u32×Unit):Option (TMach×TEvent×W .i64×W .u32×Unit):=(B_ref15_system_49 a.1 a.2.1 a.2.2.1 a.2.2.2.1 a.2.2.2.2.1 a.2.2.2.2.2.1).eval
def B_ref15_system_37 (m:TMach) (e:TEvent) (i:TInst) (t_6:TMach) (t_7:TEvent) (a:W .u32):Tree (TMach×TEvent×W .i64×W .u32×Unit):=
 .ite (W.eq i.Op (W.of .i64 57)) (.opt (F_ref11_Write m.A i.Imm a) fun r7=>
 .ite (W.ne r7.2 (W.of .i64 0)) (.ret (m,e,r7.2,e.Word,()))
 (.opt (L_ref15_system_47 ((m,e,i,t_6,t_7,a,r7.1,()))) fun o8=>
 .opt (L_ref15_system_49 ((o8.1,o8.2.1,o8.2.2.1,o8.2.2.2.1,o8.2.2.2.2.1,o8.2.2.2.2.2.1,()))) fun o20=>
 .ret (o20.1,o20.2.1,o20.2.2.1,o20.2.2.2.1,())))
 (.opt (L_ref15_system_49 ((m,e,i,t_6,t_7,a,()))) fun o21=>
 .ret (o21.1,o21.2.1,o21.2.2.1,o21.2.2.2.1,()))
def L_ref15_system_37 (a:TMach×TEvent×TInst×TMach×TEvent×W .u32×Unit):Option (TMach×TEvent×W .i64×W .u32×Unit):=(B_ref15_system_37 a.1 a.2.1 a.2.2.1 a.2.2.2.1 a.2.2.2.2.1 a.2.2.2.2.2.1).eval
def B_ref15_system_25 (m:TMach) (e:TEvent) (i:TInst) (t_6:TMach) (t_7:TEvent) (a:W .u32):Tree (TMach×TEvent×W .i64×W .u32×Unit):=
 .ite (W.eq i.Op (W.of .i64 56)) (.opt (F_ref11_Read m.A i.Imm) fun r4=>
 .ite (W.ne r4.2 (W.of .i64 0)) (.ret (m,e,r4.2,e.Word,()))
 (.opt (L_ref15_system_35 ((m,e,i,t_6,t_7,a,r4.1,()))) fun o6=>
 .opt (L_ref15_system_37 ((o6.1,o6.2.1,o6.2.2.1,o6.2.2.2.1,o6.2.2.2.2.1,o6.2.2.2.2.2.1,()))) fun o22=>
 .ret (o22.1,o22.2.1,o22.2.2.1,o22.2.2.2.1,())))
 (.opt (L_ref15_system_37 ((m,e,i,t_6,t_7,a,()))) fun o23=>
 .ret (o23.1,o23.2.1,o23.2.2.1,o23.2.2.2.1,()))
def L_ref15_system_25 (a:TMach×TEvent×TInst×TMach×TEvent×W .u32×Unit):Option (TMach×TEvent×W .i64×W .u32×Unit):=(B_ref15_system_25 a.1 a.2.1 a.2.2.1 a.2.2.2.1 a.2.2.2.2.1 a.2.2.2.2.2.1).eval
def B_ref15_system_9 (m:TMach) (e:TEvent) (i:TInst) (t_6:TMach) (t_7:TEvent) (a:W .u32):Tree (TMach×TEvent×W .i64×W .u32×Unit):=
 .ite (W.eq i.Op (W.of .i64 55)) (.opt (F_ref14_Return m.A) fun r2=>
 .ite (W.ne r2.2 (W.of .i64 0)) (.ret (m,e,r2.2,e.Word,()))
 (.opt (L_ref15_system_19 ((m,e,t_6,t_7,r2.1,()))) fun o3=>
 .ret (o3.1,o3.2.1,o3.2.2.1,o3.2.2.2.1,())))
 (.opt (L_ref15_system_25 ((m,e,i,t_6,t_7,a,()))) fun o24=>
 .ret (o24.1,o24.2.1,o24.2.2.1,o24.2.2.2.1,()))
def L_ref15_system_9 (a:TMach×TEvent×TInst×TMach×TEvent×W .u32×Unit):Option (TMach×TEvent×W .i64×W .u32×Unit):=(B_ref15_system_9 a.1 a.2.1 a.2.2.1 a.2.2.2.1 a.2.2.2.2.1 a.2.2.2.2.2.1).eval
def T_ref15_system (m:TMach) (e:TEvent) (i:TInst):Tree (TMach×TEvent×W .i64×W .u32):=
 .opt (idx? 16 i.Ra) fun j1=>
 .ite (W.eq i.Op (W.of .i64 54)) (.ret (m,e,(W.of .i64 7),(W.of .u32 0)))
 (.opt (L_ref15_system_9 ((m,e,i,(TMach.mk (TArch.mk (W.of .u32 0) (Arr.rep 16 (W.of .u32 0):Arr 16 (W .u32)) (Arr.rep 12 (W.of .u32 0):Arr 12 (W .u32)) false) (Sl.nil:Sl 1 (W .u8)) (Sl.nil:Sl 1 (W .u8)) (Sl.nil:Sl 4 (W .u32))),(TEvent.mk (W.of .u32 0) (W.of .u32 0) (W.of .i64 0) (W.of .u32 0) (W.of .i64 0) (W.of .u32 0) (W.of .i64 0) (W.of .u32 0) (W.of .u32 0) (W.of .i64 0) (W.of .u32 0) (W.of .u32 0)),(Arr.get m.A.R j1),()))) fun o25=>
 .ret (o25.1,o25.2.1,o25.2.2.1,o25.2.2.2.1))
def F_ref15_system (m:TMach) (e:TEvent) (i:TInst):Option (TMach×TEvent×W .i64×W .u32):=(T_ref15_system m e i).eval
def T_ref03_signed (x:W .u32):Tree (W .i64):=
 .ite (W.ge x (W.of .u32 2147483648)) (.ret (W.sub (W.conv (.i64) x) (W.of .i64 4294967296)))
 (.ret (W.conv (.i64) x))
def F_ref03_signed (x:W .u32):Option (W .i64):=(T_ref03_signed x).eval
def T_ref03_Taken (op:W .i64) (a b:W .u32):Tree (Bool):=
 .ite (W.eq op (W.of .i64 43)) (.ret (W.eq a b))
 (.ite (W.eq op (W.of .i64 44)) (.ret (W.ne a b))
 (.ite (W.eq op (W.of .i64 45)) (.opt (F_ref03_signed a) fun r1=>
 .opt (F_ref03_signed b) fun r2=>
 .ret (W.lt r1 r2))
 (.ite (W.eq op (W.of .i64 46)) (.opt (F_ref03_signed a) fun r3=>
 .opt (F_ref03_signed b) fun r4=>
 .ret (W.ge r3 r4))
 (.ite (W.eq op (W.of .i64 47)) (.ret (W.lt a b))
 (.ite (W.eq op (W.of .i64 48)) (.ret (W.ge a b))
 (.ret false))))))
def F_ref03_Taken (op:W .i64) (a b:W .u32):Option (Bool):=(T_ref03_Taken op a b).eval
def T_ref03_Cmov (old a b:W .u32):Tree (W .u32):=
 .ite (W.ne b (W.of .u32 0)) (.ret a)
 (.ret old)
def F_ref03_Cmov (old a b:W .u32):Option (W .u32):=(T_ref03_Cmov old a b).eval
def T_ref04_signed (x:W .u32):Tree (W .i64):=
 .ite (W.ge x (W.of .u32 2147483648)) (.ret (W.sub (W.conv (.i64) x) (W.of .i64 4294967296)))
 (.ret (W.conv (.i64) x))
def F_ref04_signed (x:W .u32):Option (W .i64):=(T_ref04_signed x).eval
def T_ref04_Do (op:W .i64) (a b:W .u32):Tree (W .u32×Bool):=
 .ite (W.eq op (W.of .i64 11)) (.ret ((W.conv (.u32) (W.rem (W.mul (W.conv (.u64) a) (W.conv (.u64) b)) (W.of .u64 4294967296))),true))
 (.ite (W.eq op (W.of .i64 13)) (.ret ((W.conv (.u32) (W.quo (W.mul (W.conv (.u64) a) (W.conv (.u64) b)) (W.of .u64 4294967296))),true))
 (.ite (W.eq op (W.of .i64 12)) (.opt (F_ref04_signed a) fun r1=>
 .opt (F_ref04_signed b) fun r2=>
 .ret ((W.conv (.u32) (W.quo (W.conv (.u64) (W.mul r1 r2)) (W.of .u64 4294967296))),true))
 (.ret ((W.of .u32 0),false))))
def F_ref04_Do (op:W .i64) (a b:W .u32):Option (W .u32×Bool):=(T_ref04_Do op a b).eval
def T_ref05_Do (op:W .i64) (a b:W .u32):Tree (W .u32×Bool):=
 .ite (W.eq op (W.of .i64 15)) (.ite (W.eq b (W.of .u32 0)) (.ite (W.eq op (W.of .i64 15)) (.ret ((W.of .u32 4294967295),true))
 (.ite (W.eq b (W.of .u32 0)) (.ret (a,true))
 (.ite (W.eq op (W.of .i64 15)) (.opt (W.quo? a b) fun z1=>
 .ret (z1,true))
 (.opt (W.rem? a b) fun z2=>
 .ret (z2,true)))))
 (.ite (W.eq b (W.of .u32 0)) (.ret (a,true))
 (.ite (W.eq op (W.of .i64 15)) (.opt (W.quo? a b) fun z3=>
 .ret (z3,true))
 (.opt (W.rem? a b) fun z4=>
 .ret (z4,true)))))
 (.ite (W.eq op (W.of .i64 17)) (.ite (W.eq b (W.of .u32 0)) (.ite (W.eq op (W.of .i64 15)) (.ret ((W.of .u32 4294967295),true))
 (.ite (W.eq b (W.of .u32 0)) (.ret (a,true))
 (.ite (W.eq op (W.of .i64 15)) (.opt (W.quo? a b) fun z5=>
 .ret (z5,true))
 (.opt (W.rem? a b) fun z6=>
 .ret (z6,true)))))
 (.ite (W.eq b (W.of .u32 0)) (.ret (a,true))
 (.ite (W.eq op (W.of .i64 15)) (.opt (W.quo? a b) fun z7=>
 .ret (z7,true))
 (.opt (W.rem? a b) fun z8=>
 .ret (z8,true)))))
 (.ite (W.eq op (W.of .i64 14)) (.ite (W.eq (W.conv (.i64) (W.conv (.i32) b)) (W.of .i64 0)) (.ret ((W.of .u32 4294967295),true))
 (.opt (W.quo? (W.conv (.i64) (W.conv (.i32) a)) (W.conv (.i64) (W.conv (.i32) b))) fun z9=>
 .ret ((W.conv (.u32) z9),true)))
 (.ite (W.eq op (W.of .i64 16)) (.ite (W.eq (W.conv (.i64) (W.conv (.i32) b)) (W.of .i64 0)) (.ret (a,true))
 (.opt (W.rem? (W.conv (.i64) (W.conv (.i32) a)) (W.conv (.i64) (W.conv (.i32) b))) fun z10=>
 .ret ((W.conv (.u32) z10),true)))
 (.ret ((W.of .u32 0),false)))))
def F_ref05_Do (op:W .i64) (a b:W .u32):Option (W .u32×Bool):=(T_ref05_Do op a b).eval
def B_ref03_bit_5 (x:W .u32) (i k:W .i64):Tree (Rnd (W .u32×W .i64×W .i64×Unit) (W .u32×Unit)):=
 .ite (W.lt k i) (.ret (.next ((W.quo x (W.of .u32 2)),i,(W.add k (W.of .i64 1)),())))
 (.ret (.out (x,())))
def L_ref03_bit_5 (a:W .u32×W .i64×W .i64×Unit):Option (W .u32×Unit):=iter (fun a:W .u32×W .i64×W .i64×Unit=>(B_ref03_bit_5 a.1 a.2.1 a.2.2.1).eval) fuel a
def T_ref03_bit (x:W .u32) (i:W .i64):Tree (W .u32):=
 .opt (L_ref03_bit_5 ((x,i,(W.of .i64 0),()))) fun o1=>
 .ret (W.rem o1.1 (W.of .u32 2))
def F_ref03_bit (x:W .u32) (i:W .i64):Option (W .u32):=(T_ref03_bit x i).eval
def B_ref03_word_7 (l_1:Arr 32 (W .u32)) (x:W .u32) (i:W .i64):Tree (Rnd (Arr 32 (W .u32)×W .u32×W .i64×Unit) (W .u32×Unit)):=
 .ite (W.ge i (W.of .i64 0)) (.opt (idx? 32 i) fun j1=>
 .ret (.next (l_1,(W.add (W.mul (W.of .u32 2) x) (Arr.get l_1 j1)),(W.sub i (W.of .i64 1)),())))
 (.ret (.out (x,())))
def L_ref03_word_7 (a:Arr 32 (W .u32)×W .u32×W .i64×Unit):Option (W .u32×Unit):=iter (fun a:Arr 32 (W .u32)×W .u32×W .i64×Unit=>(B_ref03_word_7 a.1 a.2.1 a.2.2.1).eval) fuel a
def T_ref03_word (l_0:Arr 32 (W .u32)):Tree (W .u32):=
 .opt (L_ref03_word_7 ((l_0,(W.of .u32 0),(W.of .i64 31),()))) fun o2=>
 .ret o2.1
def F_ref03_word (l_0:Arr 32 (W .u32)):Option (W .u32):=(T_ref03_word l_0).eval
def B_ref03_logic_7 (a b least most:W .u32) (l_9:Arr 32 (W .u32)) (i:W .i64):Tree (Rnd (W .u32×W .u32×W .u32×W .u32×Arr 32 (W .u32)×W .i64×Unit) (Arr 32 (W .u32)×Unit)):=
 .ite (W.lt i (W.of .i64 32)) (.opt (F_ref03_bit a i) fun r1=>
 .opt (F_ref03_bit b i) fun r2=>
 .ite (W.ge (W.add r1 r2) least) (.ite (W.le (W.add r1 r2) most) (.opt (idx? 32 i) fun j3=>
 .ret (.next (a,b,least,most,(Arr.set l_9 j3 (W.of .u32 1)),(W.add i (W.of .i64 1)),())))
 (.ret (.next (a,b,least,most,l_9,(W.add i (W.of .i64 1)),()))))
 (.ret (.next (a,b,least,most,l_9,(W.add i (W.of .i64 1)),()))))
 (.ret (.out (l_9,())))
def L_ref03_logic_7 (a:W .u32×W .u32×W .u32×W .u32×Arr 32 (W .u32)×W .i64×Unit):Option (Arr 32 (W .u32)×Unit):=iter (fun a:W .u32×W .u32×W .u32×W .u32×Arr 32 (W .u32)×W .i64×Unit=>(B_ref03_logic_7 a.1 a.2.1 a.2.2.1 a.2.2.2.1 a.2.2.2.2.1 a.2.2.2.2.2.1).eval) fuel a
def T_ref03_logic (a b least most:W .u32):Tree (W .u32):=
 .opt (L_ref03_logic_7 ((a,b,least,most,(Arr.rep 32 (W.of .u32 0):Arr 32 (W .u32)),(W.of .i64 0),()))) fun o4=>
 .opt (F_ref03_word o4.1) fun r5=>
 .ret r5
def F_ref03_logic (a b least most:W .u32):Option (W .u32):=(T_ref03_logic a b least most).eval
def B_ref03_moved_7 (x:W .u32) (by_1:W .i64) (fill:W .u32) (l_7:Arr 32 (W .u32)) (i:W .i64):Tree (Rnd (W .u32×W .i64×W .u32×Arr 32 (W .u32)×W .i64×Unit) (Arr 32 (W .u32)×Unit)):=
 .ite (W.lt i (W.of .i64 32)) (.opt (idx? 32 i) fun j1=>
 .ite (W.ge (W.add i by_1) (W.of .i64 0)) (.ite (W.lt (W.add i by_1) (W.of .i64 32)) (.opt (F_ref03_bit x (W.add i by_1)) fun r2=>
 .opt (idx? 32 i) fun j3=>
 .ret (.next (x,by_1,fill,(Arr.set (Arr.set l_7 j1 fill) j3 r2),(W.add i (W.of .i64 1)),())))
 (.ret (.next (x,by_1,fill,(Arr.set l_7 j1 fill),(W.add i (W.of .i64 1)),()))))
 (.ret (.next (x,by_1,fill,(Arr.set l_7 j1 fill),(W.add i (W.of .i64 1)),()))))
 (.ret (.out (l_7,())))
def L_ref03_moved_7 (a:W .u32×W .i64×W .u32×Arr 32 (W .u32)×W .i64×Unit):Option (Arr 32 (W .u32)×Unit):=iter (fun a:W .u32×W .i64×W .u32×Arr 32 (W .u32)×W .i64×Unit=>(B_ref03_moved_7 a.1 a.2.1 a.2.2.1 a.2.2.2.1 a.2.2.2.2.1).eval) fuel a
def T_ref03_moved (x:W .u32) (by_1:W .i64) (fill:W .u32):Tree (W .u32):=
 .opt (L_ref03_moved_7 ((x,by_1,fill,(Arr.rep 32 (W.of .u32 0):Arr 32 (W .u32)),(W.of .i64 0),()))) fun o4=>
 .opt (F_ref03_word o4.1) fun r5=>
 .ret r5
def F_ref03_moved (x:W .u32) (by_1:W .i64) (fill:W .u32):Option (W .u32):=(T_ref03_moved x by_1 fill).eval
def T_ref03_one (is:Bool):Tree (W .u32):=
 .ite is (.ret (W.of .u32 1))
 (.ret (W.of .u32 0))
def F_ref03_one (is:Bool):Option (W .u32):=(T_ref03_one is).eval
def B_ref03_turned_7 (x:W .u32) (by_1:W .i64) (l_5:Arr 32 (W .u32)) (i:W .i64):Tree (Rnd (W .u32×W .i64×Arr 32 (W .u32)×W .i64×Unit) (Arr 32 (W .u32)×Unit)):=
 .ite (W.lt i (W.of .i64 32)) (.opt (F_ref03_bit x (W.rem (W.add i by_1) (W.of .i64 32))) fun r1=>
 .opt (idx? 32 i) fun j2=>
 .ret (.next (x,by_1,(Arr.set l_5 j2 r1),(W.add i (W.of .i64 1)),())))
 (.ret (.out (l_5,())))
def L_ref03_turned_7 (a:W .u32×W .i64×Arr 32 (W .u32)×W .i64×Unit):Option (Arr 32 (W .u32)×Unit):=iter (fun a:W .u32×W .i64×Arr 32 (W .u32)×W .i64×Unit=>(B_ref03_turned_7 a.1 a.2.1 a.2.2.1 a.2.2.2.1).eval) fuel a
def T_ref03_turned (x:W .u32) (by_1:W .i64):Tree (W .u32):=
 .opt (L_ref03_turned_7 ((x,by_1,(Arr.rep 32 (W.of .u32 0):Arr 32 (W .u32)),(W.of .i64 0),()))) fun o3=>
 .opt (F_ref03_word o3.1) fun r4=>
 .ret r4
def F_ref03_turned (x:W .u32) (by_1:W .i64):Option (W .u32):=(T_ref03_turned x by_1).eval
def B_ref03_Clz_5 (x:W .u32) (n_3:W .i64):Tree (Rnd (W .u32×W .i64×Unit) (W .i64×Unit)):=
 .ite (W.lt n_3 (W.of .i64 32)) (.opt (F_ref03_bit x (W.sub (W.of .i64 31) n_3)) fun r1=>
 .ite (W.eq r1 (W.of .u32 0)) (.ret (.next (x,(W.add n_3 (W.of .i64 1)),())))
 (.ret (.out (n_3,()))))
 (.ret (.out (n_3,())))
def L_ref03_Clz_5 (a:W .u32×W .i64×Unit):Option (W .i64×Unit):=iter (fun a:W .u32×W .i64×Unit=>(B_ref03_Clz_5 a.1 a.2.1).eval) fuel a
def T_ref03_Clz (x:W .u32):Tree (W .i64):=
 .opt (L_ref03_Clz_5 ((x,(W.of .i64 0),()))) fun o2=>
 .ret o2.1
def F_ref03_Clz (x:W .u32):Option (W .i64):=(T_ref03_Clz x).eval
def B_ref03_Pop_7 (x:W .u32) (n_3 i:W .i64):Tree (Rnd (W .u32×W .i64×W .i64×Unit) (W .i64×Unit)):=
 .ite (W.lt i (W.of .i64 32)) (.opt (F_ref03_bit x i) fun r1=>
 .ret (.next (x,(W.add n_3 (W.conv (.i64) r1)),(W.add i (W.of .i64 1)),())))
 (.ret (.out (n_3,())))
def L_ref03_Pop_7 (a:W .u32×W .i64×W .i64×Unit):Option (W .i64×Unit):=iter (fun a:W .u32×W .i64×W .i64×Unit=>(B_ref03_Pop_7 a.1 a.2.1 a.2.2.1).eval) fuel a
def T_ref03_Pop (x:W .u32):Tree (W .i64):=
 .opt (L_ref03_Pop_7 ((x,(W.of .i64 0),(W.of .i64 0),()))) fun o2=>
 .ret o2.1
def F_ref03_Pop (x:W .u32):Option (W .i64):=(T_ref03_Pop x).eval
def B_ref03_Rev_7 (x out:W .u32) (k:W .i64):Tree (Rnd (W .u32×W .u32×W .i64×Unit) (W .u32×Unit)):=
 .ite (W.lt k (W.of .i64 4)) (.ret (.next ((W.quo x (W.of .u32 256)),(W.add (W.mul (W.of .u32 256) out) (W.rem x (W.of .u32 256))),(W.add k (W.of .i64 1)),())))
 (.ret (.out (out,())))
def L_ref03_Rev_7 (a:W .u32×W .u32×W .i64×Unit):Option (W .u32×Unit):=iter (fun a:W .u32×W .u32×W .i64×Unit=>(B_ref03_Rev_7 a.1 a.2.1 a.2.2.1).eval) fuel a
def T_ref03_Rev (x:W .u32):Tree (W .u32):=
 .opt (L_ref03_Rev_7 ((x,(W.of .u32 0),(W.of .i64 0),()))) fun o1=>
 .ret o1.1
def F_ref03_Rev (x:W .u32):Option (W .u32):=(T_ref03_Rev x).eval
def T_ref03_Do (op:W .i64) (a b:W .u32):Tree (W .u32×Bool):=
 .ite (W.eq op (W.of .i64 1)) (.ret ((W.add a b),true))
 (.ite (W.eq op (W.of .i64 25)) (.ret ((W.add a b),true))
 (.ite (W.eq op (W.of .i64 2)) (.ret ((W.sub a b),true))
 (.ite (W.eq op (W.of .i64 3)) (.opt (F_ref03_logic a b (W.of .u32 2) (W.of .u32 2)) fun r1=>
 .ret (r1,true))
 (.ite (W.eq op (W.of .i64 26)) (.opt (F_ref03_logic a b (W.of .u32 2) (W.of .u32 2)) fun r2=>
 .ret (r2,true))
 (.ite (W.eq op (W.of .i64 4)) (.opt (F_ref03_logic a b (W.of .u32 1) (W.of .u32 2)) fun r3=>
 .ret (r3,true))
 (.ite (W.eq op (W.of .i64 27)) (.opt (F_ref03_logic a b (W.of .u32 1) (W.of .u32 2)) fun r4=>
 .ret (r4,true))
 (.ite (W.eq op (W.of .i64 5)) (.opt (F_ref03_logic a b (W.of .u32 1) (W.of .u32 1)) fun r5=>
 .ret (r5,true))
 (.ite (W.eq op (W.of .i64 28)) (.opt (F_ref03_logic a b (W.of .u32 1) (W.of .u32 1)) fun r6=>
 .ret (r6,true))
 (.ite (W.eq op (W.of .i64 6)) (.opt (F_ref03_moved a (W.neg (W.conv (.i64) (W.rem b (W.of .u32 32)))) (W.of .u32 0)) fun r7=>
 .ret (r7,true))
 (.ite (W.eq op (W.of .i64 30)) (.opt (F_ref03_moved a (W.neg (W.conv (.i64) (W.rem b (W.of .u32 32)))) (W.of .u32 0)) fun r8=>
 .ret (r8,true))
 (.ite (W.eq op (W.of .i64 7)) (.opt (F_ref03_moved a (W.conv (.i64) (W.rem b (W.of .u32 32))) (W.of .u32 0)) fun r9=>
 .ret (r9,true))
 (.ite (W.eq op (W.of .i64 31)) (.opt (F_ref03_moved a (W.conv (.i64) (W.rem b (W.of .u32 32))) (W.of .u32 0)) fun r10=>
 .ret (r10,true))
 (.ite (W.eq op (W.of .i64 8)) (.opt (F_ref03_bit a (W.of .i64 31)) fun r11=>
 .opt (F_ref03_moved a (W.conv (.i64) (W.rem b (W.of .u32 32))) r11) fun r12=>
 .ret (r12,true))
 (.ite (W.eq op (W.of .i64 32)) (.opt (F_ref03_bit a (W.of .i64 31)) fun r13=>
 .opt (F_ref03_moved a (W.conv (.i64) (W.rem b (W.of .u32 32))) r13) fun r14=>
 .ret (r14,true))
 (.ite (W.eq op (W.of .i64 9)) (.opt (F_ref03_signed a) fun r15=>
 .opt (F_ref03_signed b) fun r16=>
 .opt (F_ref03_one (W.lt r15 r16)) fun r17=>
 .ret (r17,true))
 (.ite (W.eq op (W.of .i64 29)) (.opt (F_ref03_signed a) fun r18=>
 .opt (F_ref03_signed b) fun r19=>
 .opt (F_ref03_one (W.lt r18 r19)) fun r20=>
 .ret (r20,true))
 (.ite (W.eq op (W.of .i64 10)) (.opt (F_ref03_one (W.lt a b)) fun r21=>
 .ret (r21,true))
 (.ite (W.eq op (W.of .i64 18)) (.opt (F_ref03_signed b) fun r22=>
 .opt (F_ref03_signed a) fun r23=>
 .ite (W.lt r22 r23) (.ret (b,true))
 (.ret (a,true)))
 (.ite (W.eq op (W.of .i64 19)) (.opt (F_ref03_signed b) fun r24=>
 .opt (F_ref03_signed a) fun r25=>
 .ite (W.gt r24 r25) (.ret (b,true))
 (.ret (a,true)))
 (.ite (W.eq op (W.of .i64 20)) (.opt (F_ref03_turned a (W.conv (.i64) (W.rem b (W.of .u32 32)))) fun r26=>
 .ret (r26,true))
 (.ite (W.eq op (W.of .i64 21)) (.opt (F_ref03_Clz a) fun r27=>
 .ret ((W.conv (.u32) r27),true))
 (.ite (W.eq op (W.of .i64 22)) (.opt (F_ref03_Pop a) fun r28=>
 .ret ((W.conv (.u32) r28),true))
 (.ite (W.eq op (W.of .i64 23)) (.opt (F_ref03_Rev a) fun r29=>
 .ret (r29,true))
 (.ite (W.eq op (W.of .i64 33)) (.ret ((W.mul b (W.of .u32 16384)),true))
 (.ret ((W.of .u32 0),false))))))))))))))))))))))))))
def F_ref03_Do (op:W .i64) (a b:W .u32):Option (W .u32×Bool):=(T_ref03_Do op a b).eval
def T_ref15_value (s:TArch) (i:TInst):Tree (W .u32):=
 .opt (idx? 16 i.Ra) fun j1=>
 .opt (idx? 16 i.Rb) fun j2=>
 .ite (W.ge i.Op (W.of .i64 25)) (.ite (W.eq i.Op (W.of .i64 24)) (.opt (idx? 16 i.Rd) fun j3=>
 .opt (F_ref03_Cmov (Arr.get s.R j3) (Arr.get s.R j1) (W.conv (.u32) i.Imm)) fun r4=>
 .ret r4)
 (.ite (W.ge i.Op (W.of .i64 11)) (.ite (W.le i.Op (W.of .i64 13)) (.opt (F_ref04_Do i.Op (Arr.get s.R j1) (W.conv (.u32) i.Imm)) fun r5=>
 .ret r5.1)
 (.ite (W.ge i.Op (W.of .i64 14)) (.ite (W.le i.Op (W.of .i64 17)) (.opt (F_ref05_Do i.Op (Arr.get s.R j1) (W.conv (.u32) i.Imm)) fun r6=>
 .ret r6.1)
 (.opt (F_ref03_Do i.Op (Arr.get s.R j1) (W.conv (.u32) i.Imm)) fun r7=>
 .ret r7.1))
 (.opt (F_ref03_Do i.Op (Arr.get s.R j1) (W.conv (.u32) i.Imm)) fun r8=>
 .ret r8.1)))
 (.ite (W.ge i.Op (W.of .i64 14)) (.ite (W.le i.Op (W.of .i64 17)) (.opt (F_ref05_Do i.Op (Arr.get s.R j1) (W.conv (.u32) i.Imm)) fun r9=>
 .ret r9.1)
 (.opt (F_ref03_Do i.Op (Arr.get s.R j1) (W.conv (.u32) i.Imm)) fun r10=>
 .ret r10.1))
 (.opt (F_ref03_Do i.Op (Arr.get s.R j1) (W.conv (.u32) i.Imm)) fun r11=>
 .ret r11.1))))
 (.ite (W.eq i.Op (W.of .i64 24)) (.opt (idx? 16 i.Rd) fun j12=>
 .opt (F_ref03_Cmov (Arr.get s.R j12) (Arr.get s.R j1) (Arr.get s.R j2)) fun r13=>
 .ret r13)
 (.ite (W.ge i.Op (W.of .i64 11)) (.ite (W.le i.Op (W.of .i64 13)) (.opt (F_ref04_Do i.Op (Arr.get s.R j1) (Arr.get s.R j2)) fun r14=>
 .ret r14.1)
 (.ite (W.ge i.Op (W.of .i64 14)) (.ite (W.le i.Op (W.of .i64 17)) (.opt (F_ref05_Do i.Op (Arr.get s.R j1) (Arr.get s.R j2)) fun r15=>
 .ret r15.1)
 (.opt (F_ref03_Do i.Op (Arr.get s.R j1) (Arr.get s.R j2)) fun r16=>
 .ret r16.1))
 (.opt (F_ref03_Do i.Op (Arr.get s.R j1) (Arr.get s.R j2)) fun r17=>
 .ret r17.1)))
 (.ite (W.ge i.Op (W.of .i64 14)) (.ite (W.le i.Op (W.of .i64 17)) (.opt (F_ref05_Do i.Op (Arr.get s.R j1) (Arr.get s.R j2)) fun r18=>
 .ret r18.1)
 (.opt (F_ref03_Do i.Op (Arr.get s.R j1) (Arr.get s.R j2)) fun r19=>
 .ret r19.1))
 (.opt (F_ref03_Do i.Op (Arr.get s.R j1) (Arr.get s.R j2)) fun r20=>
 .ret r20.1))))
def F_ref15_value (s:TArch) (i:TInst):Option (W .u32):=(T_ref15_value s i).eval
def B_ref15_do_11 (m:TMach) (e:TEvent) (i:TInst) (t_6:TMach) (t_7:TEvent) (a b pc:W .u32) (op:W .i64) (t_41:Bool):Tree ((TMach×TEvent×TInst×TMach×TEvent×W .i64×W .u32×W .u32×W .u32×W .u32×W .i64×Unit)⊕(TMach×TEvent×TInst×TMach×TEvent×Unit×Unit×W .u32×W .u32×W .u32×W .i64×Unit)):=
 .ite t_41 (.opt (F_ref15_memory ({ m with A:=({ m.A with PC:=pc }:TArch) }:TMach) e i) fun r3=>
 .ret (.inl (({ m with A:=({ m.A with PC:=pc }:TArch) }:TMach),e,i,r3.1,r3.2.1,r3.2.2.1,r3.2.2.2,a,b,pc,op,())))
 (.ret (.inr (m,e,i,t_6,t_7,(),(),a,b,pc,op,())))
def L_ref15_do_11 (a:TMach×TEvent×TInst×TMach×TEvent×W .u32×W .u32×W .u32×W .i64×Bool×Unit):Option ((TMach×TEvent×TInst×TMach×TEvent×W .i64×W .u32×W .u32×W .u32×W .u32×W .i64×Unit)⊕(TMach×TEvent×TInst×TMach×TEvent×Unit×Unit×W .u32×W .u32×W .u32×W .i64×Unit)):=(B_ref15_do_11 a.1 a.2.1 a.2.2.1 a.2.2.2.1 a.2.2.2.2.1 a.2.2.2.2.2.1 a.2.2.2.2.2.2.1 a.2.2.2.2.2.2.2.1 a.2.2.2.2.2.2.2.2.1 a.2.2.2.2.2.2.2.2.2.1).eval
def B_ref15_do_19 (m:TMach) (e:TEvent) (i:TInst) (t_6:TMach) (t_7:TEvent) (a b pc:W .u32) (op:W .i64) (t_58:Bool):Tree ((TMach×TEvent×TInst×TMach×TEvent×W .i64×W .u32×W .u32×W .u32×W .u32×W .i64×Unit)⊕(TMach×TEvent×TInst×TMach×TEvent×Unit×Unit×W .u32×W .u32×W .u32×W .i64×Unit)):=
 .ite t_58 (.opt (F_ref15_atomic ({ m with A:=({ m.A with PC:=pc }:TArch) }:TMach) e i) fun r7=>
 .ret (.inl (({ m with A:=({ m.A with PC:=pc }:TArch) }:TMach),e,i,r7.1,r7.2.1,r7.2.2.1,r7.2.2.2,a,b,pc,op,())))
 (.ret (.inr (m,e,i,t_6,t_7,(),(),a,b,pc,op,())))
def L_ref15_do_19 (a:TMach×TEvent×TInst×TMach×TEvent×W .u32×W .u32×W .u32×W .i64×Bool×Unit):Option ((TMach×TEvent×TInst×TMach×TEvent×W .i64×W .u32×W .u32×W .u32×W .u32×W .i64×Unit)⊕(TMach×TEvent×TInst×TMach×TEvent×Unit×Unit×W .u32×W .u32×W .u32×W .i64×Unit)):=(B_ref15_do_19 a.1 a.2.1 a.2.2.1 a.2.2.2.1 a.2.2.2.2.1 a.2.2.2.2.2.1 a.2.2.2.2.2.2.1 a.2.2.2.2.2.2.2.1 a.2.2.2.2.2.2.2.2.1 a.2.2.2.2.2.2.2.2.2.1).eval
def B_ref15_do_39 (m:TMach) (e:TEvent) (t_6:TMach) (t_7:TEvent):Tree (TMach×TEvent×W .i64×W .u32×Unit):=
 .ret (m,e,(W.of .i64 0),(W.of .u32 0),())
def L_ref15_do_39 (a:TMach×TEvent×TMach×TEvent×Unit):Option (TMach×TEvent×W .i64×W .u32×Unit):=(B_ref15_do_39 a.1 a.2.1 a.2.2.1 a.2.2.2.1).eval
def B_ref15_do_35 (m:TMach) (e:TEvent) (i:TInst) (t_6:TMach) (t_7:TEvent) (a b pc:W .u32) (op:W .i64) (t_88:Bool):Tree ((Unit×Unit×Unit×TMach×TEvent×W .i64×W .u32×Unit×Unit×Unit×Unit)⊕(TMach×TEvent×TInst×TMach×TEvent×Unit×Unit×W .u32×W .u32×W .i64×Unit)):=
 .ite t_88 (.opt (F_ref03_Taken op a b) fun r12=>
 .ite r12 (.opt (L_ref15_do_39 ((({ m with A:=({ m.A with PC:=(W.add pc (W.conv (.u32) (W.mul (W.of .i64 4) i.Imm))) }:TArch) }:TMach),e,t_6,t_7,()))) fun o13=>
 .ret (.inl ((),(),(),o13.1,o13.2.1,o13.2.2.1,o13.2.2.2.1,(),(),(),())))
 (.opt (L_ref15_do_39 ((m,e,t_6,t_7,()))) fun o14=>
 .ret (.inl ((),(),(),o14.1,o14.2.1,o14.2.2.1,o14.2.2.2.1,(),(),(),()))))
 (.ret (.inr (m,e,i,t_6,t_7,(),(),a,pc,op,())))
def L_ref15_do_35 (a:TMach×TEvent×TInst×TMach×TEvent×W .u32×W .u32×W .u32×W .i64×Bool×Unit):Option ((Unit×Unit×Unit×TMach×TEvent×W .i64×W .u32×Unit×Unit×Unit×Unit)⊕(TMach×TEvent×TInst×TMach×TEvent×Unit×Unit×W .u32×W .u32×W .i64×Unit)):=(B_ref15_do_35 a.1 a.2.1 a.2.2.1 a.2.2.2.1 a.2.2.2.2.1 a.2.2.2.2.2.1 a.2.2.2.2.2.2.1 a.2.2.2.2.2.2.2.1 a.2.2.2.2.2.2.2.2.1 a.2.2.2.2.2.2.2.2.2.1).eval
def B_ref15_do_55 (m:TMach) (e:TEvent) (t_6:TMach) (t_7:TEvent):Tree (TMach×TEvent×W .i64×W .u32×Unit):=
 .ret (m,e,(W.of .i64 0),(W.of .u32 0),())
def L_ref15_do_55 (a:TMach×TEvent×TMach×TEvent×Unit):Option (TMach×TEvent×W .i64×W .u32×Unit):=(B_ref15_do_55 a.1 a.2.1 a.2.2.1 a.2.2.2.1).eval
def B_ref15_do_45 (m:TMach) (e:TEvent) (i:TInst) (t_6:TMach) (t_7:TEvent) (a pc:W .u32) (op:W .i64) (t_108:Bool):Tree ((Unit×Unit×Unit×TMach×TEvent×W .i64×W .u32×Unit)⊕(TMach×TEvent×TInst×TMach×TEvent×Unit×Unit×Unit)):=
 .ite t_108 (.opt (F_ref15_write m e i.Rd (W.add pc (W.of .u32 4))) fun r18=>
 .ite (W.eq op (W.of .i64 50)) (.opt (L_ref15_do_55 ((({ r18.1 with A:=({ r18.1.A with PC:=(W.sub (W.add a (W.conv (.u32) i.Imm)) (W.rem (W.add a (W.conv (.u32) i.Imm)) (W.of .u32 4))) }:TArch) }:TMach),r18.2,t_6,t_7,()))) fun o19=>
 .ret (.inl ((),(),(),o19.1,o19.2.1,o19.2.2.1,o19.2.2.2.1,())))
 (.opt (L_ref15_do_55 ((({ r18.1 with A:=({ r18.1.A with PC:=(W.add pc (W.conv (.u32) (W.mul (W.of .i64 4) i.Imm))) }:TArch) }:TMach),r18.2,t_6,t_7,()))) fun o20=>
 .ret (.inl ((),(),(),o20.1,o20.2.1,o20.2.2.1,o20.2.2.2.1,()))))
 (.ret (.inr (m,e,i,t_6,t_7,(),(),())))
def L_ref15_do_45 (a:TMach×TEvent×TInst×TMach×TEvent×W .u32×W .u32×W .i64×Bool×Unit):Option ((Unit×Unit×Unit×TMach×TEvent×W .i64×W .u32×Unit)⊕(TMach×TEvent×TInst×TMach×TEvent×Unit×Unit×Unit)):=(B_ref15_do_45 a.1 a.2.1 a.2.2.1 a.2.2.2.1 a.2.2.2.2.1 a.2.2.2.2.2.1 a.2.2.2.2.2.2.1 a.2.2.2.2.2.2.2.1 a.2.2.2.2.2.2.2.2.1).eval
def B_ref15_do_59 (m:TMach) (e:TEvent) (i:TInst) (t_6:TMach) (t_7:TEvent):Tree (TMach×TEvent×W .i64×W .u32×Unit):=
 .opt (F_ref15_value m.A i) fun r24=>
 .opt (F_ref15_write m e i.Rd r24) fun r25=>
 .ret (r25.1,r25.2,(W.of .i64 0),(W.of .u32 0),())
def L_ref15_do_59 (a:TMach×TEvent×TInst×TMach×TEvent×Unit):Option (TMach×TEvent×W .i64×W .u32×Unit):=(B_ref15_do_59 a.1 a.2.1 a.2.2.1 a.2.2.2.1 a.2.2.2.2.1).eval
def B_ref15_do_43 (m:TMach) (e:TEvent) (i:TInst) (t_6:TMach) (t_7:TEvent) (a pc:W .u32) (op:W .i64):Tree (TMach×TEvent×W .i64×W .u32×Unit):=
 .ite (W.eq op (W.of .i64 49)) (.opt (L_ref15_do_45 ((m,e,i,t_6,t_7,a,pc,op,true,()))) fun o21=>
 .sum o21 (fun p22=>
 .ret (p22.2.2.2.1,p22.2.2.2.2.1,p22.2.2.2.2.2.1,p22.2.2.2.2.2.2.1,()))
 (fun o23=>
 .opt (L_ref15_do_59 ((o23.1,o23.2.1,o23.2.2.1,o23.2.2.2.1,o23.2.2.2.2.1,()))) fun o26=>
 .ret (o26.1,o26.2.1,o26.2.2.1,o26.2.2.2.1,())))
 (.opt (L_ref15_do_45 ((m,e,i,t_6,t_7,a,pc,op,(W.eq op (W.of .i64 50)),()))) fun o27=>
 .sum o27 (fun p28=>
 .ret (p28.2.2.2.1,p28.2.2.2.2.1,p28.2.2.2.2.2.1,p28.2.2.2.2.2.2.1,()))
 (fun o29=>
 .opt (L_ref15_do_59 ((o29.1,o29.2.1,o29.2.2.1,o29.2.2.2.1,o29.2.2.2.2.1,()))) fun o30=>
 .ret (o30.1,o30.2.1,o30.2.2.1,o30.2.2.2.1,())))
def L_ref15_do_43 (a:TMach×TEvent×TInst×TMach×TEvent×W .u32×W .u32×W .i64×Unit):Option (TMach×TEvent×W .i64×W .u32×Unit):=(B_ref15_do_43 a.1 a.2.1 a.2.2.1 a.2.2.2.1 a.2.2.2.2.1 a.2.2.2.2.2.1 a.2.2.2.2.2.2.1 a.2.2.2.2.2.2.2.1).eval
def B_ref15_do_33 (m:TMach) (e:TEvent) (i:TInst) (t_6:TMach) (t_7:TEvent) (a b pc:W .u32) (op:W .i64):Tree (TMach×TEvent×W .i64×W .u32×Unit):=
 .ite (W.ge op (W.of .i64 43)) (.opt (L_ref15_do_35 ((m,e,i,t_6,t_7,a,b,pc,op,(W.le op (W.of .i64 48)),()))) fun o15=>
 .sum o15 (fun p16=>
 .ret (p16.2.2.2.1,p16.2.2.2.2.1,p16.2.2.2.2.2.1,p16.2.2.2.2.2.2.1,()))
 (fun o17=>
 .opt (L_ref15_do_43 ((o17.1,o17.2.1,o17.2.2.1,o17.2.2.2.1,o17.2.2.2.2.1,o17.2.2.2.2.2.2.2.1,o17.2.2.2.2.2.2.2.2.1,o17.2.2.2.2.2.2.2.2.2.1,()))) fun o31=>
 .ret (o31.1,o31.2.1,o31.2.2.1,o31.2.2.2.1,())))
 (.opt (L_ref15_do_35 ((m,e,i,t_6,t_7,a,b,pc,op,false,()))) fun o32=>
 .sum o32 (fun p33=>
 .ret (p33.2.2.2.1,p33.2.2.2.2.1,p33.2.2.2.2.2.1,p33.2.2.2.2.2.2.1,()))
 (fun o34=>
 .opt (L_ref15_do_43 ((o34.1,o34.2.1,o34.2.2.1,o34.2.2.2.1,o34.2.2.2.2.1,o34.2.2.2.2.2.2.2.1,o34.2.2.2.2.2.2.2.2.1,o34.2.2.2.2.2.2.2.2.2.1,()))) fun o35=>
 .ret (o35.1,o35.2.1,o35.2.2.1,o35.2.2.2.1,())))
def L_ref15_do_33 (a:TMach×TEvent×TInst×TMach×TEvent×W .u32×W .u32×W .u32×W .i64×Unit):Option (TMach×TEvent×W .i64×W .u32×Unit):=(B_ref15_do_33 a.1 a.2.1 a.2.2.1 a.2.2.2.1 a.2.2.2.2.1 a.2.2.2.2.2.1 a.2.2.2.2.2.2.1 a.2.2.2.2.2.2.2.1 a.2.2.2.2.2.2.2.2.1).eval
def B_ref15_do_25 (m:TMach) (e:TEvent) (i:TInst) (t_6:TMach) (t_7:TEvent) (a b pc:W .u32) (op:W .i64):Tree (TMach×TEvent×W .i64×W .u32×Unit):=
 .ite (W.ge op (W.of .i64 54)) (.opt (F_ref15_system ({ m with A:=({ m.A with PC:=pc }:TArch) }:TMach) e i) fun r11=>
 .ret (r11.1,r11.2.1,r11.2.2.1,r11.2.2.2,()))
 (.opt (L_ref15_do_33 ((m,e,i,t_6,t_7,a,b,pc,op,()))) fun o36=>
 .ret (o36.1,o36.2.1,o36.2.2.1,o36.2.2.2.1,()))
def L_ref15_do_25 (a:TMach×TEvent×TInst×TMach×TEvent×W .u32×W .u32×W .u32×W .i64×Unit):Option (TMach×TEvent×W .i64×W .u32×Unit):=(B_ref15_do_25 a.1 a.2.1 a.2.2.1 a.2.2.2.1 a.2.2.2.2.1 a.2.2.2.2.2.1 a.2.2.2.2.2.2.1 a.2.2.2.2.2.2.2.1 a.2.2.2.2.2.2.2.2.1).eval
def B_ref15_do_17 (m:TMach) (e:TEvent) (i:TInst) (t_6:TMach) (t_7:TEvent) (a b pc:W .u32) (op:W .i64):Tree (TMach×TEvent×W .i64×W .u32×Unit):=
 .ite (W.ge op (W.of .i64 51)) (.opt (L_ref15_do_19 ((m,e,i,t_6,t_7,a,b,pc,op,(W.le op (W.of .i64 53)),()))) fun o8=>
 .sum o8 (fun p9=>
 .ret (p9.2.2.2.1,p9.2.2.2.2.1,p9.2.2.2.2.2.1,p9.2.2.2.2.2.2.1,()))
 (fun o10=>
 .opt (L_ref15_do_25 ((o10.1,o10.2.1,o10.2.2.1,o10.2.2.2.1,o10.2.2.2.2.1,o10.2.2.2.2.2.2.2.1,o10.2.2.2.2.2.2.2.2.1,o10.2.2.2.2.2.2.2.2.2.1,o10.2.2.2.2.2.2.2.2.2.2.1,()))) fun o37=>
 .ret (o37.1,o37.2.1,o37.2.2.1,o37.2.2.2.1,())))
 (.opt (L_ref15_do_19 ((m,e,i,t_6,t_7,a,b,pc,op,false,()))) fun o38=>
 .sum o38 (fun p39=>
 .ret (p39.2.2.2.1,p39.2.2.2.2.1,p39.2.2.2.2.2.1,p39.2.2.2.2.2.2.1,()))
 (fun o40=>
 .opt (L_ref15_do_25 ((o40.1,o40.2.1,o40.2.2.1,o40.2.2.2.1,o40.2.2.2.2.1,o40.2.2.2.2.2.2.2.1,o40.2.2.2.2.2.2.2.2.1,o40.2.2.2.2.2.2.2.2.2.1,o40.2.2.2.2.2.2.2.2.2.2.1,()))) fun o41=>
 .ret (o41.1,o41.2.1,o41.2.2.1,o41.2.2.2.1,())))
def L_ref15_do_17 (a:TMach×TEvent×TInst×TMach×TEvent×W .u32×W .u32×W .u32×W .i64×Unit):Option (TMach×TEvent×W .i64×W .u32×Unit):=(B_ref15_do_17 a.1 a.2.1 a.2.2.1 a.2.2.2.1 a.2.2.2.2.1 a.2.2.2.2.2.1 a.2.2.2.2.2.2.1 a.2.2.2.2.2.2.2.1 a.2.2.2.2.2.2.2.2.1).eval
def T_ref15_do (m:TMach) (e:TEvent) (i:TInst):Tree (TMach×TEvent×W .i64×W .u32):=
 .opt (idx? 16 i.Ra) fun j1=>
 .opt (idx? 16 i.Rb) fun j2=>
 .ite (W.ge i.Op (W.of .i64 34)) (.opt (L_ref15_do_11 ((({ m with A:=({ m.A with PC:=(W.add m.A.PC (W.of .u32 4)) }:TArch) }:TMach),e,i,(TMach.mk (TArch.mk (W.of .u32 0) (Arr.rep 16 (W.of .u32 0):Arr 16 (W .u32)) (Arr.rep 12 (W.of .u32 0):Arr 12 (W .u32)) false) (Sl.nil:Sl 1 (W .u8)) (Sl.nil:Sl 1 (W .u8)) (Sl.nil:Sl 4 (W .u32))),(TEvent.mk (W.of .u32 0) (W.of .u32 0) (W.of .i64 0) (W.of .u32 0) (W.of .i64 0) (W.of .u32 0) (W.of .i64 0) (W.of .u32 0) (W.of .u32 0) (W.of .i64 0) (W.of .u32 0) (W.of .u32 0)),(Arr.get m.A.R j1),(Arr.get m.A.R j2),m.A.PC,i.Op,(W.le i.Op (W.of .i64 42)),()))) fun o4=>
 .sum o4 (fun p5=>
 .ret (p5.2.2.2.1,p5.2.2.2.2.1,p5.2.2.2.2.2.1,p5.2.2.2.2.2.2.1))
 (fun o6=>
 .opt (L_ref15_do_17 ((o6.1,o6.2.1,o6.2.2.1,o6.2.2.2.1,o6.2.2.2.2.1,o6.2.2.2.2.2.2.2.1,o6.2.2.2.2.2.2.2.2.1,o6.2.2.2.2.2.2.2.2.2.1,o6.2.2.2.2.2.2.2.2.2.2.1,()))) fun o42=>
 .ret (o42.1,o42.2.1,o42.2.2.1,o42.2.2.2.1)))
 (.opt (L_ref15_do_11 ((({ m with A:=({ m.A with PC:=(W.add m.A.PC (W.of .u32 4)) }:TArch) }:TMach),e,i,(TMach.mk (TArch.mk (W.of .u32 0) (Arr.rep 16 (W.of .u32 0):Arr 16 (W .u32)) (Arr.rep 12 (W.of .u32 0):Arr 12 (W .u32)) false) (Sl.nil:Sl 1 (W .u8)) (Sl.nil:Sl 1 (W .u8)) (Sl.nil:Sl 4 (W .u32))),(TEvent.mk (W.of .u32 0) (W.of .u32 0) (W.of .i64 0) (W.of .u32 0) (W.of .i64 0) (W.of .u32 0) (W.of .i64 0) (W.of .u32 0) (W.of .u32 0) (W.of .i64 0) (W.of .u32 0) (W.of .u32 0)),(Arr.get m.A.R j1),(Arr.get m.A.R j2),m.A.PC,i.Op,false,()))) fun o43=>
 .sum o43 (fun p44=>
 .ret (p44.2.2.2.1,p44.2.2.2.2.1,p44.2.2.2.2.2.1,p44.2.2.2.2.2.2.1))
 (fun o45=>
 .opt (L_ref15_do_17 ((o45.1,o45.2.1,o45.2.2.1,o45.2.2.2.1,o45.2.2.2.2.1,o45.2.2.2.2.2.2.2.1,o45.2.2.2.2.2.2.2.2.1,o45.2.2.2.2.2.2.2.2.2.1,o45.2.2.2.2.2.2.2.2.2.2.1,()))) fun o46=>
 .ret (o46.1,o46.2.1,o46.2.2.1,o46.2.2.2.1)))
def F_ref15_do (m:TMach) (e:TEvent) (i:TInst):Option (TMach×TEvent×W .i64×W .u32):=(T_ref15_do m e i).eval
def T_ref11_Count (a:TArch):Tree (TArch):=
 .ite (W.ne (Arr.get (Arr.set a.C 7 (W.add (Arr.get a.C 7) (W.of .u32 1))) 8) (W.of .u32 0)) (.ite (W.ge (Arr.get (Arr.set a.C 7 (W.add (Arr.get a.C 7) (W.of .u32 1))) 7) (Arr.get (Arr.set a.C 7 (W.add (Arr.get a.C 7) (W.of .u32 1))) 8)) (.ret ({ a with C:=(Arr.set (Arr.set a.C 7 (W.add (Arr.get a.C 7) (W.of .u32 1))) 10 (W.or (Arr.get (Arr.set a.C 7 (W.add (Arr.get a.C 7) (W.of .u32 1))) 10) (W.of .u32 4))) }:TArch))
 (.ret ({ a with C:=(Arr.set a.C 7 (W.add (Arr.get a.C 7) (W.of .u32 1))) }:TArch)))
 (.ret ({ a with C:=(Arr.set a.C 7 (W.add (Arr.get a.C 7) (W.of .u32 1))) }:TArch))
def F_ref11_Count (a:TArch):Option (TArch):=(T_ref11_Count a).eval
def T_ref15_Step (m:TMach):Tree (TMach×TEvent×Bool):=
 .ite m.A.Halt (.ret (m,(TEvent.mk (W.of .u32 0) (W.of .u32 0) (W.of .i64 0) (W.of .u32 0) (W.of .i64 0) (W.of .u32 0) (W.of .i64 0) (W.of .u32 0) (W.of .u32 0) (W.of .i64 0) (W.of .u32 0) (W.of .u32 0)),false))
 (.opt (F_ref14_Pending m.A) fun r1=>
 .ite (W.ne r1 (W.of .i64 0)) (.opt (F_ref15_trapped m (W.of .u32 0) r1 (W.of .u32 0)) fun r2=>
 .ret (r2.1,r2.2.1,r2.2.2))
 (.opt (F_ref14_Stops m.A m.A.PC) fun r3=>
 .ite r3 (.opt (F_ref15_trapped m (W.of .u32 0) (W.of .i64 3) m.A.PC) fun r4=>
 .ret (r4.1,r4.2.1,r4.2.2))
 (.opt (F_ref15_Fetch m) fun r5=>
 .ite (W.ne r5.2 (W.of .i64 0)) (.opt (F_ref15_trapped m (W.of .u32 0) r5.2 m.A.PC) fun r6=>
 .ret (r6.1,r6.2.1,r6.2.2))
 (.opt (F_ref06_Dec r5.1) fun r7=>
 .ite (W.ne r7.2 (W.of .i64 0)) (.opt (F_ref15_trapped m r5.1 (W.of .i64 2) r5.1) fun r8=>
 .ret (r8.1,r8.2.1,r8.2.2))
 (.opt (F_ref06_Priv r7.1.Op) fun r9=>
 .ite r9 (.opt (F_ref11_Kernel m.A) fun r10=>
 .ite (!r10) (.opt (F_ref15_trapped m r5.1 (W.of .i64 8) r5.1) fun r11=>
 .ret (r11.1,r11.2.1,r11.2.2))
 (.opt (F_ref14_Single m.A) fun r12=>
 .opt (F_ref15_do m (TEvent.mk m.A.PC r5.1 (W.of .i64 (-1)) (W.of .u32 0) (W.of .i64 (-1)) (W.of .u32 0) (W.of .i64 0) (W.of .u32 0) (W.of .u32 0) (W.of .i64 0) (W.of .u32 0) (W.of .u32 0)) r7.1) fun r13=>
 .ite (W.ne r13.2.2.1 (W.of .i64 0)) (.opt (F_ref15_trapped m r5.1 r13.2.2.1 r13.2.2.2) fun r14=>
 .ret (r14.1,r14.2.1,r14.2.2))
 (.opt (F_ref11_Count r13.1.A) fun r15=>
 .ite r12 (.ite (!r15.Halt) (.opt (F_ref14_Take r15 (W.of .i64 10) (W.of .u32 0) r15.PC) fun r16=>
 .ret (({ r13.1 with A:=r16 }:TMach),({ r13.2.1 with Cause:=(W.of .i64 10),Next:=r16.PC }:TEvent),true))
 (.ret (({ r13.1 with A:=r15 }:TMach),({ r13.2.1 with Next:=r15.PC }:TEvent),true)))
 (.ret (({ r13.1 with A:=r15 }:TMach),({ r13.2.1 with Next:=r15.PC }:TEvent),true)))))
 (.opt (F_ref14_Single m.A) fun r17=>
 .opt (F_ref15_do m (TEvent.mk m.A.PC r5.1 (W.of .i64 (-1)) (W.of .u32 0) (W.of .i64 (-1)) (W.of .u32 0) (W.of .i64 0) (W.of .u32 0) (W.of .u32 0) (W.of .i64 0) (W.of .u32 0) (W.of .u32 0)) r7.1) fun r18=>
 .ite (W.ne r18.2.2.1 (W.of .i64 0)) (.opt (F_ref15_trapped m r5.1 r18.2.2.1 r18.2.2.2) fun r19=>
 .ret (r19.1,r19.2.1,r19.2.2))
 (.opt (F_ref11_Count r18.1.A) fun r20=>
 .ite r17 (.ite (!r20.Halt) (.opt (F_ref14_Take r20 (W.of .i64 10) (W.of .u32 0) r20.PC) fun r21=>
 .ret (({ r18.1 with A:=r21 }:TMach),({ r18.2.1 with Cause:=(W.of .i64 10),Next:=r21.PC }:TEvent),true))
 (.ret (({ r18.1 with A:=r20 }:TMach),({ r18.2.1 with Next:=r20.PC }:TEvent),true)))
 (.ret (({ r18.1 with A:=r20 }:TMach),({ r18.2.1 with Next:=r20.PC }:TEvent),true)))))))))
def F_ref15_Step (m:TMach):Option (TMach×TEvent×Bool):=(T_ref15_Step m).eval
def B_ref16_Run_20 (irqs:Sl 16 (TIrq)) (n_2:W .i64) (m t_6:TMach) (out:Sl 72 (TEvent)) (k i:W .i64):Tree (Rnd (Sl 16 (TIrq)×W .i64×TMach×TMach×Sl 72 (TEvent)×W .i64×W .i64×Unit) (Sl 16 (TIrq)×W .i64×TMach×TMach×Sl 72 (TEvent)×W .i64×Unit)):=
 .ite (W.lt i (Sl.len irqs)) (.opt (Sl.get? irqs i) fun y1=>
 .ite (W.eq y1.At k) (.opt (Sl.get? irqs i) fun y2=>
 .opt (F_ref11_Raise m.A y2.Lines) fun r3=>
 .ret (.next (irqs,n_2,({ m with A:=r3 }:TMach),t_6,out,k,(W.add i (W.of .i64 1)),())))
 (.ret (.next (irqs,n_2,m,t_6,out,k,(W.add i (W.of .i64 1)),()))))
 (.ret (.out (irqs,n_2,m,t_6,out,k,())))
def L_ref16_Run_20 (a:Sl 16 (TIrq)×W .i64×TMach×TMach×Sl 72 (TEvent)×W .i64×W .i64×Unit):Option (Sl 16 (TIrq)×W .i64×TMach×TMach×Sl 72 (TEvent)×W .i64×Unit):=iter (fun a:Sl 16 (TIrq)×W .i64×TMach×TMach×Sl 72 (TEvent)×W .i64×W .i64×Unit=>(B_ref16_Run_20 a.1 a.2.1 a.2.2.1 a.2.2.2.1 a.2.2.2.2.1 a.2.2.2.2.2.1 a.2.2.2.2.2.2.1).eval) fuel a
def B_ref16_Run_11 (irqs:Sl 16 (TIrq)) (n_2:W .i64) (m t_6:TMach) (out:Sl 72 (TEvent)) (k:W .i64):Tree (Rnd (Sl 16 (TIrq)×W .i64×TMach×TMach×Sl 72 (TEvent)×W .i64×Unit) ((TMach×TMach×Unit×Sl 72 (TEvent)×Unit)⊕(TMach×TMach×Unit×Sl 72 (TEvent)×Unit))):=
 .ite (W.lt k n_2) (.opt (L_ref16_Run_20 ((irqs,n_2,m,t_6,out,k,(W.of .i64 0),()))) fun o4=>
 .opt (F_ref15_Step o4.2.2.1) fun r5=>
 .ite (!r5.2.2) (.ret (.out (.inl (o4.2.2.1,o4.2.2.1,(),o4.2.2.2.2.1,()))))
 (.opt (Sl.app? o4.2.2.2.2.1 (Sl.lit 72 [r5.2.1] rfl:Sl 72 (TEvent))) fun l6=>
 .ret (.next (o4.1,o4.2.1,r5.1,o4.2.2.2.1,l6,(W.add o4.2.2.2.2.2.1 (W.of .i64 1)),()))))
 (.ret (.out (.inr (m,t_6,(),out,()))))
def L_ref16_Run_11 (a:Sl 16 (TIrq)×W .i64×TMach×TMach×Sl 72 (TEvent)×W .i64×Unit):Option ((TMach×TMach×Unit×Sl 72 (TEvent)×Unit)⊕(TMach×TMach×Unit×Sl 72 (TEvent)×Unit)):=iter (fun a:Sl 16 (TIrq)×W .i64×TMach×TMach×Sl 72 (TEvent)×W .i64×Unit=>(B_ref16_Run_11 a.1 a.2.1 a.2.2.1 a.2.2.2.1 a.2.2.2.2.1 a.2.2.2.2.2.1).eval) fuel a
def T_ref16_Run (m:TMach) (irqs:Sl 16 (TIrq)) (n_2:W .i64):Tree (TMach×Sl 72 (TEvent)):=
 .ite (W.gt n_2 (W.of .i64 4096)) (.opt (L_ref16_Run_11 ((irqs,(W.of .i64 4096),m,(TMach.mk (TArch.mk (W.of .u32 0) (Arr.rep 16 (W.of .u32 0):Arr 16 (W .u32)) (Arr.rep 12 (W.of .u32 0):Arr 12 (W .u32)) false) (Sl.nil:Sl 1 (W .u8)) (Sl.nil:Sl 1 (W .u8)) (Sl.nil:Sl 4 (W .u32))),(Sl.lit 72 [] rfl:Sl 72 (TEvent)),(W.of .i64 0),()))) fun o7=>
 .sum o7 (fun p8=>
 .ret (p8.2.1,p8.2.2.2.1))
 (fun o9=>
 .ret (o9.1,o9.2.2.2.1)))
 (.opt (L_ref16_Run_11 ((irqs,n_2,m,(TMach.mk (TArch.mk (W.of .u32 0) (Arr.rep 16 (W.of .u32 0):Arr 16 (W .u32)) (Arr.rep 12 (W.of .u32 0):Arr 12 (W .u32)) false) (Sl.nil:Sl 1 (W .u8)) (Sl.nil:Sl 1 (W .u8)) (Sl.nil:Sl 4 (W .u32))),(Sl.lit 72 [] rfl:Sl 72 (TEvent)),(W.of .i64 0),()))) fun o10=>
 .sum o10 (fun p11=>
 .ret (p11.2.1,p11.2.2.2.1))
 (fun o12=>
 .ret (o12.1,o12.2.2.2.1)))
def F_ref16_Run (m:TMach) (irqs:Sl 16 (TIrq)) (n_2:W .i64):Option (TMach×Sl 72 (TEvent)):=(T_ref16_Run m irqs n_2).eval
end
end Go.Proofs.YtedhidchlfhegaaGreatDoor
