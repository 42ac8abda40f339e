/- YtkddkpmijhionaaGreatDoorTrees: the functions as decision trees. No statement of the seat is proved here. -/
import Derived.Test.YtkddkpmijhionaaGreatDoorTypes
import Derived.Test.YtkddkpmijhionaaGreatDoorA2D
set_option linter.unusedSimpArgs false
set_option linter.unusedVariables false
set_option maxRecDepth 100000
namespace Go.Proofs.YtkddkpmijhionaaGreatDoor
open Go Go.A2
noncomputable section
def T_law45_Light (c:TCore):Tree (Bool):=
 .ite (W.le (Sl.len c.Queue) (W.of .i64 200)) (.ite (W.le (Sl.len c.Rob) (W.of .i64 200)) (.ite (W.le (Sl.len c.Iq) (W.of .i64 200)) (.ite (W.le (Sl.len c.Lq) (W.of .i64 200)) (.ite (W.le (Sl.len c.Sq) (W.of .i64 200)) (.ite (W.le (Sl.len c.Sb) (W.of .i64 200)) (.ite (W.le (Sl.len c.Units) (W.of .i64 200)) (.ite (W.le (Sl.len c.Phys.Val) (W.of .i64 200)) (.ret (W.le (Sl.len c.Names.Free.Ring) (W.of .i64 200)))
 (.ret false))
 (.ret false))
 (.ret false))
 (.ret false))
 (.ret false))
 (.ret false))
 (.ret false))
 (.ret false)
def F_law45_Light (c:TCore):Option (Bool):=(T_law45_Light c).eval
def T_inst_Form (op:W .i64):Tree (W .i64):=
 .ite (W.lt op (W.of .i64 1)) (.ret (W.of .i64 0))
 (.ite (W.gt op (W.of .i64 63)) (.ret (W.of .i64 0))
 (.ite (W.ge op (W.of .i64 21)) (.ite (W.le op (W.of .i64 23)) (.ret (W.of .i64 11))
 (.ite (W.le op (W.of .i64 24)) (.ret (W.of .i64 1))
 (.ite (W.eq op (W.of .i64 33)) (.ret (W.of .i64 5))
 (.ite (W.eq op (W.of .i64 49)) (.ret (W.of .i64 5))
 (.ite (W.le op (W.of .i64 39)) (.ret (W.of .i64 2))
 (.ite (W.eq op (W.of .i64 50)) (.ret (W.of .i64 2))
 (.ite (W.le op (W.of .i64 42)) (.ret (W.of .i64 3))
 (.ite (W.le op (W.of .i64 48)) (.ret (W.of .i64 4))
 (.ite (W.le op (W.of .i64 53)) (.ret (W.of .i64 6))
 (.ite (W.eq op (W.of .i64 56)) (.ret (W.of .i64 7))
 (.ite (W.eq op (W.of .i64 57)) (.ret (W.of .i64 8))
 (.ite (W.eq op (W.of .i64 60)) (.ret (W.of .i64 9))
 (.ite (W.eq op (W.of .i64 62)) (.ret (W.of .i64 9))
 (.ret (W.of .i64 10)))))))))))))))
 (.ite (W.le op (W.of .i64 24)) (.ret (W.of .i64 1))
 (.ite (W.eq op (W.of .i64 33)) (.ret (W.of .i64 5))
 (.ite (W.eq op (W.of .i64 49)) (.ret (W.of .i64 5))
 (.ite (W.le op (W.of .i64 39)) (.ret (W.of .i64 2))
 (.ite (W.eq op (W.of .i64 50)) (.ret (W.of .i64 2))
 (.ite (W.le op (W.of .i64 42)) (.ret (W.of .i64 3))
 (.ite (W.le op (W.of .i64 48)) (.ret (W.of .i64 4))
 (.ite (W.le op (W.of .i64 53)) (.ret (W.of .i64 6))
 (.ite (W.eq op (W.of .i64 56)) (.ret (W.of .i64 7))
 (.ite (W.eq op (W.of .i64 57)) (.ret (W.of .i64 8))
 (.ite (W.eq op (W.of .i64 60)) (.ret (W.of .i64 9))
 (.ite (W.eq op (W.of .i64 62)) (.ret (W.of .i64 9))
 (.ret (W.of .i64 10))))))))))))))))
def F_inst_Form (op:W .i64):Option (W .i64):=(T_inst_Form op).eval
def T_inst_has (op field:W .i64):Tree (Bool):=
 .opt (F_inst_Form op) fun r1=>
 .opt (idx? 12 r1) fun j2=>
 .ret (W.ne (W.and (Arr.get (Arr.lit 12 [(W.of .i64 0),(W.of .i64 7),(W.of .i64 11),(W.of .i64 14),(W.of .i64 14),(W.of .i64 9),(W.of .i64 7),(W.of .i64 9),(W.of .i64 10),(W.of .i64 2),(W.of .i64 0),(W.of .i64 3)] rfl:Arr 12 (W .i64)) j2) field) (W.of .i64 0))
def F_inst_has (op field:W .i64):Option (Bool):=(T_inst_has op field).eval
def T_inst_within (op n_1:W .i64):Tree (Bool):=
 .ite (W.eq op (W.of .i64 30)) (.ite (W.ge n_1 (W.of .i64 0)) (.ret (W.le n_1 (W.of .i64 31)))
 (.ret false))
 (.ite (W.eq op (W.of .i64 31)) (.ite (W.ge n_1 (W.of .i64 0)) (.ret (W.le n_1 (W.of .i64 31)))
 (.ret false))
 (.ite (W.eq op (W.of .i64 32)) (.ite (W.ge n_1 (W.of .i64 0)) (.ret (W.le n_1 (W.of .i64 31)))
 (.ret false))
 (.ite (W.eq op (W.of .i64 33)) (.ite (W.ge n_1 (W.of .i64 0)) (.ret (W.lt n_1 (W.of .i64 262144)))
 (.ret false))
 (.ite (W.eq op (W.of .i64 49)) (.ite (W.ge n_1 (W.of .i64 (-131072))) (.ret (W.lt n_1 (W.of .i64 131072)))
 (.ret false))
 (.ite (W.ge n_1 (W.of .i64 (-8192))) (.ret (W.lt n_1 (W.of .i64 8192)))
 (.ret false))))))
def F_inst_within (op n_1:W .i64):Option (Bool):=(T_inst_within op n_1).eval
def B_inst_Right_11 (i:TInst) (t_18:Arr 3 (TS214)) (t_19:W .i64):Tree (Rnd (TInst×Arr 3 (TS214)×W .i64×Unit) ((TInst×W .i64×Unit)⊕(TInst×Unit×Unit))):=
 .ite (W.lt t_19 (W.of .i64 3)) (.opt (idx? 3 t_19) fun j2=>
 .ite (W.lt (Arr.get t_18 j2).n_ (W.of .i64 0)) (.ret (.out (.inl (i,(W.of .i64 1),()))))
 (.ite (W.gt (Arr.get t_18 j2).n_ (Arr.get t_18 j2).most) (.ret (.out (.inl (i,(W.of .i64 1),()))))
 (.opt (F_inst_has i.Op (Arr.get t_18 j2).bit) fun r3=>
 .ite (!r3) (.ite (W.ne (Arr.get t_18 j2).n_ (W.of .i64 0)) (.ret (.out (.inl (i,(W.of .i64 1),()))))
 (.ret (.next (i,t_18,(W.add t_19 (W.of .i64 1)),()))))
 (.ret (.next (i,t_18,(W.add t_19 (W.of .i64 1)),()))))))
 (.ret (.out (.inr (i,(),()))))
def L_inst_Right_11 (a:TInst×Arr 3 (TS214)×W .i64×Unit):Option ((TInst×W .i64×Unit)⊕(TInst×Unit×Unit)):=iter (fun a:TInst×Arr 3 (TS214)×W .i64×Unit=>(B_inst_Right_11 a.1 a.2.1 a.2.2.1).eval) fuel a
def T_inst_Right (i:TInst):Tree (W .i64):=
 .opt (F_inst_Form i.Op) fun r1=>
 .ite (W.eq r1 (W.of .i64 0)) (.ret (W.of .i64 9))
 (.opt (L_inst_Right_11 ((i,(Arr.lit 3 [(TS214.mk (W.of .i64 1) i.Rd (W.of .i64 15)),(TS214.mk (W.of .i64 2) i.Ra (W.of .i64 15)),(TS214.mk (W.of .i64 4) i.Rb (W.of .i64 15))] rfl:Arr 3 (TS214)),(W.of .i64 0),()))) fun o4=>
 .sum o4 (fun p5=>
 .ret p5.2.1)
 (fun o6=>
 .opt (F_inst_has o6.1.Op (W.of .i64 8)) fun r7=>
 .ite (!r7) (.ite (W.ne o6.1.Imm (W.of .i64 0)) (.ret (W.of .i64 1))
 (.opt (F_inst_has o6.1.Op (W.of .i64 8)) fun r8=>
 .ite r8 (.opt (F_inst_within o6.1.Op o6.1.Imm) fun r9=>
 .ite (!r9) (.ret (W.of .i64 3))
 (.ret (W.of .i64 0)))
 (.ret (W.of .i64 0))))
 (.opt (F_inst_has o6.1.Op (W.of .i64 8)) fun r10=>
 .ite r10 (.opt (F_inst_within o6.1.Op o6.1.Imm) fun r11=>
 .ite (!r11) (.ret (W.of .i64 3))
 (.ret (W.of .i64 0)))
 (.ret (W.of .i64 0)))))
def F_inst_Right (i:TInst):Option (W .i64):=(T_inst_Right i).eval
def T_bits_clamp (n_0 low high:W .i64):Tree (W .i64):=
 .ret (W.min (W.max n_0 low) high)
def F_bits_clamp (n_0 low high:W .i64):Option (W .i64):=(T_bits_clamp n_0 low high).eval
def T_bits_ones (n_0:W .i64):Tree (W .u32):=
 .opt (W.shl? (W.of .u64 1) n_0) fun z1=>
 .ret (W.conv (.u32) (W.sub z1 (W.of .u64 1)))
def F_bits_ones (n_0:W .i64):Option (W .u32):=(T_bits_ones n_0).eval
def T_bits_mask (hi lo:W .i64):Tree (W .u32×W .i64):=
 .opt (F_bits_clamp hi (W.of .i64 0) (W.of .i64 31)) fun r1=>
 .opt (F_bits_clamp lo (W.of .i64 0) (W.of .i64 31)) fun r2=>
 .ite (W.lt r1 r2) (.ret ((W.of .u32 0),(W.of .i64 0)))
 (.opt (F_bits_ones (W.add (W.sub r1 r2) (W.of .i64 1))) fun r3=>
 .opt (W.shl? r3 r2) fun z4=>
 .ret (z4,r2))
def F_bits_mask (hi lo:W .i64):Option (W .u32×W .i64):=(T_bits_mask hi lo).eval
def T_bits_Put (x:W .u32) (hi lo:W .i64) (v:W .u32):Tree (W .u32):=
 .opt (F_bits_mask hi lo) fun r1=>
 .opt (W.shl? v r1.2) fun z2=>
 .ret (W.or (W.andNot x r1.1) (W.and z2 r1.1))
def F_bits_Put (x:W .u32) (hi lo:W .i64) (v:W .u32):Option (W .u32):=(T_bits_Put x hi lo v).eval
def T_inst_width (op:W .i64):Tree (W .i64):=
 .opt (F_inst_Form op) fun r1=>
 .ite (W.eq r1 (W.of .i64 5)) (.ret (W.of .i64 18))
 (.ret (W.of .i64 14))
def F_inst_width (op:W .i64):Option (W .i64):=(T_inst_width op).eval
def T_inst_Enc (i:TInst):Tree (W .u32×W .i64):=
 .opt (F_inst_Right i) fun r1=>
 .ite (W.ne r1 (W.of .i64 0)) (.ret ((W.of .u32 0),r1))
 (.opt (F_bits_Put (W.of .u32 0) (W.of .i64 31) (W.of .i64 26) (W.conv (.u32) i.Op)) fun r2=>
 .opt (F_bits_Put r2 (W.of .i64 25) (W.of .i64 22) (W.conv (.u32) i.Rd)) fun r3=>
 .opt (F_bits_Put r3 (W.of .i64 21) (W.of .i64 18) (W.conv (.u32) i.Ra)) fun r4=>
 .opt (F_bits_Put r4 (W.of .i64 17) (W.of .i64 14) (W.conv (.u32) i.Rb)) fun r5=>
 .opt (F_inst_has i.Op (W.of .i64 8)) fun r6=>
 .ite r6 (.opt (F_inst_width i.Op) fun r7=>
 .opt (F_bits_Put r5 (W.sub r7 (W.of .i64 1)) (W.of .i64 0) (W.conv (.u32) i.Imm)) fun r8=>
 .ret (r8,(W.of .i64 0)))
 (.ret (r5,(W.of .i64 0))))
def F_inst_Enc (i:TInst):Option (W .u32×W .i64):=(T_inst_Enc i).eval
def T_rom_end (s:TSeg):Tree (W .i64):=
 .ret (W.add (W.conv (.i64) s.At) (Sl.len s.Data))
def F_rom_end (s:TSeg):Option (W .i64):=(T_rom_end s).eval
def B_rom_Right_13 (last:W .i64) (t_11:Sl 32 (TSeg)) (t_12 t_13:W .i64):Tree (Rnd (W .i64×Sl 32 (TSeg)×W .i64×W .i64×Unit) ((W .i64×Unit)⊕(Unit×Unit))):=
 .ite (W.lt t_13 t_12) (.opt (Sl.get? t_11 t_13) fun y1=>
 .ite (W.eq (Sl.len y1.Data) (W.of .i64 0)) (.ret (.out (.inl ((W.of .i64 1),()))))
 (.opt (F_rom_end y1) fun r2=>
 .ite (W.gt r2 (W.of .i64 16384)) (.ret (.out (.inl ((W.of .i64 3),()))))
 (.ite (W.lt (W.conv (.i64) y1.At) last) (.ret (.out (.inl ((W.of .i64 7),()))))
 (.opt (F_rom_end y1) fun r3=>
 .ret (.next (r3,t_11,t_12,(W.add t_13 (W.of .i64 1)),()))))))
 (.ret (.out (.inr ((),()))))
def L_rom_Right_13 (a:W .i64×Sl 32 (TSeg)×W .i64×W .i64×Unit):Option ((W .i64×Unit)⊕(Unit×Unit)):=iter (fun a:W .i64×Sl 32 (TSeg)×W .i64×W .i64×Unit=>(B_rom_Right_13 a.1 a.2.1 a.2.2.1 a.2.2.2.1).eval) fuel a
def T_rom_Right (im:TImage):Tree (W .i64):=
 .ite (W.gt (Sl.len im.Segs) (W.of .i64 64)) (.ret (W.of .i64 4))
 (.opt (L_rom_Right_13 (((W.of .i64 0),im.Segs,(Sl.len im.Segs),(W.of .i64 0),()))) fun o4=>
 .sum o4 (fun p5=>
 .ret p5.1)
 (fun o6=>
 .ret (W.of .i64 0)))
def F_rom_Right (im:TImage):Option (W .i64):=(T_rom_Right im).eval
def B_rom_Load_21 (size:W .i64) (m:Sl 1 (W .u8)) (t_29:Sl 32 (TSeg)) (t_30 t_31:W .i64):Tree (Rnd (W .i64×Sl 1 (W .u8)×Sl 32 (TSeg)×W .i64×W .i64×Unit) ((Sl 1 (W .u8)×W .i64×Sl 1 (W .u8)×Unit)⊕(Unit×Unit×Sl 1 (W .u8)×Unit))):=
 .ite (W.lt t_31 t_30) (.opt (Sl.get? t_29 t_31) fun y3=>
 .opt (F_rom_end y3) fun r4=>
 .ite (W.gt r4 size) (.ret (.out (.inl ((Sl.nil:Sl 1 (W .u8)),(W.of .i64 3),m,()))))
 (.opt (nat? y3.At) fun n5=>
 .opt (vw? (List.length m.l) (some n5) (none)) fun j6=>
 .ret (.next (size,(Sl.copy m n5 y3.Data),t_29,t_30,(W.add t_31 (W.of .i64 1)),()))))
 (.ret (.out (.inr ((),(),m,()))))
def L_rom_Load_21 (a:W .i64×Sl 1 (W .u8)×Sl 32 (TSeg)×W .i64×W .i64×Unit):Option ((Sl 1 (W .u8)×W .i64×Sl 1 (W .u8)×Unit)⊕(Unit×Unit×Sl 1 (W .u8)×Unit)):=iter (fun a:W .i64×Sl 1 (W .u8)×Sl 32 (TSeg)×W .i64×W .i64×Unit=>(B_rom_Load_21 a.1 a.2.1 a.2.2.1 a.2.2.2.1 a.2.2.2.2.1).eval) fuel a
def T_rom_Load (size:W .i64) (im:TImage):Tree (Sl 1 (W .u8)×W .i64):=
 .ite (W.ne (W.rem size (W.of .i64 64)) (W.of .i64 0)) (.ret ((Sl.nil:Sl 1 (W .u8)),(W.of .i64 1)))
 (.ite (W.lt size (W.of .i64 64)) (.ret ((Sl.nil:Sl 1 (W .u8)),(W.of .i64 1)))
 (.ite (W.gt size (W.of .i64 16384)) (.ret ((Sl.nil:Sl 1 (W .u8)),(W.of .i64 1)))
 (.opt (F_rom_Right im) fun r1=>
 .ite (W.ne r1 (W.of .i64 0)) (.ret ((Sl.nil:Sl 1 (W .u8)),r1))
 (.opt (Sl.make? 1 (W.of .u8 0) size size) fun l2=>
 .opt (L_rom_Load_21 ((size,l2,im.Segs,(Sl.len im.Segs),(W.of .i64 0),()))) fun o7=>
 .sum o7 (fun p8=>
 .ret (p8.1,p8.2.1))
 (fun o9=>
 .ret (o9.2.2.1,(W.of .i64 0)))))))
def F_rom_Load (size:W .i64) (im:TImage):Option (Sl 1 (W .u8)×W .i64):=(T_rom_Load size im).eval
def T_step_New (im:TImage) (size:W .i64):Tree (TMach×W .i64):=
 .opt (F_rom_Load size im) fun r1=>
 .ite (W.ne r1.2 (W.of .i64 0)) (.ret ((TMach.mk (TArch.mk (W.of .u32 0) (Arr.rep 16 (W.of .u32 0):Arr 16 (W .u32)) (Arr.rep 12 (W.of .u32 0):Arr 12 (W .u32)) false) (Sl.nil:Sl 1 (W .u8)) (Sl.nil:Sl 1 (W .u8)) (Sl.nil:Sl 4 (W .u32))),r1.2))
 (.ret ((TMach.mk (TArch.mk im.Start (Arr.rep 16 (W.of .u32 0):Arr 16 (W .u32)) (Arr.set (Arr.rep 12 (W.of .u32 0):Arr 12 (W .u32)) 0 (W.of .u32 1)) false) r1.1 r1.1 (Sl.nil:Sl 4 (W .u32))),(W.of .i64 0)))
def F_step_New (im:TImage) (size:W .i64):Option (TMach×W .i64):=(T_step_New im size).eval
def T_core_Plain :Tree (TConf):=
 .ret (TConf.mk (W.of .i64 2) (W.of .i64 2) (W.of .i64 2) (W.of .i64 2) (W.of .i64 8) (W.of .i64 16) (W.of .i64 8) (W.of .i64 4) (W.of .i64 4) (W.of .i64 4) (W.of .i64 32) (W.of .i64 4) (W.of .i64 4) (W.of .i64 4) (W.of .i64 4) (W.of .i64 4) (W.of .i64 3) (W.of .i64 8) (W.of .i64 4) (W.of .i64 4) (W.of .i64 2) true)
def F_core_Plain :Option (TConf):=(T_core_Plain).eval
def T_core_bounds (c:TConf):Tree (Sl 24 (TBound)):=
 .ret (Sl.lit 24 [(TBound.mk c.Fetch (W.of .i64 1) (W.of .i64 4)),(TBound.mk c.Wide (W.of .i64 1) (W.of .i64 4)),(TBound.mk c.Issue (W.of .i64 1) (W.of .i64 4)),(TBound.mk c.Retire (W.of .i64 1) (W.of .i64 4)),(TBound.mk c.Queue (W.of .i64 1) (W.of .i64 16)),(TBound.mk c.Rob (W.of .i64 2) (W.of .i64 64)),(TBound.mk c.Iq (W.of .i64 2) (W.of .i64 32)),(TBound.mk c.Lq (W.of .i64 1) (W.of .i64 16)),(TBound.mk c.Sq (W.of .i64 1) (W.of .i64 16)),(TBound.mk c.Sb (W.of .i64 1) (W.of .i64 8)),(TBound.mk c.Phys (W.of .i64 18) (W.of .i64 96)),(TBound.mk c.Hist (W.of .i64 0) (W.of .i64 8)),(TBound.mk c.Btb (W.of .i64 0) (W.of .i64 16)),(TBound.mk c.Ras (W.of .i64 0) (W.of .i64 16)),(TBound.mk c.Dep (W.of .i64 0) (W.of .i64 16)),(TBound.mk c.Tlb (W.of .i64 0) (W.of .i64 8)),(TBound.mk c.MulLat (W.of .i64 1) (W.of .i64 32)),(TBound.mk c.DivLat (W.of .i64 1) (W.of .i64 32)),(TBound.mk c.MemLat (W.of .i64 1) (W.of .i64 32)),(TBound.mk c.Sets (W.of .i64 1) (W.of .i64 8)),(TBound.mk c.Ways (W.of .i64 1) (W.of .i64 4))] rfl:Sl 24 (TBound))
def F_core_bounds (c:TConf):Option (Sl 24 (TBound)):=(T_core_bounds c).eval
def T_core_Conf_1 (b:TBound):Tree (Bool):=
 .ite (W.lt b.n_ b.least) (.ret true)
 (.ret (W.gt b.n_ b.most))
def F_core_Conf_1 (b:TBound):Option (Bool):=(T_core_Conf_1 b).eval
def B_slices_IndexFunc_bound_of_core_Conf_1_5 (s:Sl 24 (TBound)) (t_7 t_8:W .i64):Tree (Rnd (Sl 24 (TBound)×((Unit)×(Unit))×W .i64×W .i64×Unit) ((W .i64×Unit)⊕(Unit×Unit))):=
 .ite (W.lt t_8 t_7) (.opt (Sl.get? s t_8) fun y1=>
 .opt (F_core_Conf_1 y1) fun r2=>
 .ite r2 (.ret (.out (.inl (t_8,()))))
 (.ret (.next (s,((),()),t_7,(W.add t_8 (W.of .i64 1)),()))))
 (.ret (.out (.inr ((),()))))
def L_slices_IndexFunc_bound_of_core_Conf_1_5 (a:Sl 24 (TBound)×((Unit)×(Unit))×W .i64×W .i64×Unit):Option ((W .i64×Unit)⊕(Unit×Unit)):=iter (fun a:Sl 24 (TBound)×((Unit)×(Unit))×W .i64×W .i64×Unit=>(B_slices_IndexFunc_bound_of_core_Conf_1_5 a.1 a.2.2.1 a.2.2.2.1).eval) fuel a
def T_slices_IndexFunc_bound_of_core_Conf_1 (s:Sl 24 (TBound)):Tree (W .i64):=
 .opt (L_slices_IndexFunc_bound_of_core_Conf_1_5 ((s,((),()),(Sl.len s),(W.of .i64 0),()))) fun o3=>
 .sum o3 (fun p4=>
 .ret p4.1)
 (fun o5=>
 .ret (W.of .i64 (-1)))
def F_slices_IndexFunc_bound_of_core_Conf_1 (s:Sl 24 (TBound)):Option (W .i64):=(T_slices_IndexFunc_bound_of_core_Conf_1 s).eval
def T_slices_ContainsFunc_bound_of_core_Conf_1 (s:Sl 24 (TBound)):Tree (Bool):=
 .opt (F_slices_IndexFunc_bound_of_core_Conf_1 s) fun r1=>
 .ret (W.ge r1 (W.of .i64 0))
def F_slices_ContainsFunc_bound_of_core_Conf_1 (s:Sl 24 (TBound)):Option (Bool):=(T_slices_ContainsFunc_bound_of_core_Conf_1 s).eval
def T_core_Conf (c:TConf):Tree (W .i64):=
 .opt (F_core_bounds c) fun r1=>
 .opt (F_slices_ContainsFunc_bound_of_core_Conf_1 r1) fun r2=>
 .ite r2 (.ret (W.of .i64 3))
 (.ret (W.of .i64 0))
def F_core_Conf (c:TConf):Option (W .i64):=(T_core_Conf c).eval
def T_csr_Masked (n_0:W .i64):Tree (W .u32):=
 .ite (W.lt n_0 (W.of .i64 0)) (.ret (W.of .u32 0))
 (.ite (W.ge n_0 (W.of .i64 12)) (.ret (W.of .u32 0))
 (.opt (idx? 12 n_0) fun j1=>
 .ret (Arr.get (Arr.lit 12 [(W.of .u32 63),(W.of .u32 31),(W.of .u32 4294967295),(W.of .u32 4294967295),(W.of .u32 4294967295),(W.of .u32 4294967232),(W.of .u32 4294967295),(W.of .u32 4294967295),(W.of .u32 4294967295),(W.of .u32 7),(W.of .u32 7),(W.of .u32 4294967295)] rfl:Arr 12 (W .u32)) j1)))
def F_csr_Masked (n_0:W .i64):Option (W .u32):=(T_csr_Masked n_0).eval
def B_core_clean_5 (a:TArch) (t_6:Arr 12 (W .u32)) (t_7:W .i64):Tree (Rnd (TArch×Arr 12 (W .u32)×W .i64×Unit) ((TArch×Bool×Unit)⊕(TArch×Unit×Unit))):=
 .ite (W.lt t_7 (W.of .i64 12)) (.opt (idx? 12 t_7) fun j1=>
 .opt (F_csr_Masked t_7) fun r2=>
 .ite (W.ne (W.andNot (Arr.get t_6 j1) r2) (W.of .u32 0)) (.ret (.out (.inl (a,false,()))))
 (.ret (.next (a,t_6,(W.add t_7 (W.of .i64 1)),()))))
 (.ret (.out (.inr (a,(),()))))
def L_core_clean_5 (a:TArch×Arr 12 (W .u32)×W .i64×Unit):Option ((TArch×Bool×Unit)⊕(TArch×Unit×Unit)):=iter (fun a:TArch×Arr 12 (W .u32)×W .i64×Unit=>(B_core_clean_5 a.1 a.2.1 a.2.2.1).eval) fuel a
def T_core_clean (a:TArch):Tree (Bool):=
 .opt (L_core_clean_5 ((a,a.C,(W.of .i64 0),()))) fun o3=>
 .sum o3 (fun p4=>
 .ret p4.2.1)
 (fun o5=>
 .ret (W.eq (Arr.get o5.1.R 0) (W.of .u32 0)))
def F_core_clean (a:TArch):Option (Bool):=(T_core_clean a).eval
def T_core_right (m:TMach):Tree (Bool):=
 .ite (W.ne (W.rem (Sl.len m.Mem) (W.of .i64 64)) (W.of .i64 0)) (.ret false)
 (.ite (W.lt (Sl.len m.Mem) (W.of .i64 64)) (.ret false)
 (.ite (W.gt (Sl.len m.Mem) (W.of .i64 16384)) (.ret false)
 (.ite (W.ne (Sl.len m.Shadow) (Sl.len m.Mem)) (.ret false)
 (.opt (F_core_clean m.A) fun r1=>
 .ret r1))))
def F_core_right (m:TMach):Option (Bool):=(T_core_right m).eval
def T_step_Copy (m:TMach):Tree (TMach):=
 .ret ({ m with Mem:=m.Mem,Shadow:=m.Shadow,Out:=m.Out }:TMach)
def F_step_Copy (m:TMach):Option (TMach):=(T_step_Copy m).eval
def T_pht_clamp (bits:W .i64):Tree (W .i64):=
 .ret (W.min (W.max bits (W.of .i64 0)) (W.of .i64 8))
def F_pht_clamp (bits:W .i64):Option (W .i64):=(T_pht_clamp bits).eval
def T_bits_Mul64 (x y:W .u64):Tree (W .u64×W .u64):=
 .ret ((W.add (W.add (W.mul (W.shr x (W.of .u64 32)) (W.shr y (W.of .u64 32))) (W.shr (W.add (W.mul (W.shr x (W.of .u64 32)) (W.and y (W.of .u64 4294967295))) (W.shr (W.mul (W.and x (W.of .u64 4294967295)) (W.and y (W.of .u64 4294967295))) (W.of .u64 32))) (W.of .u64 32))) (W.shr (W.add (W.and (W.add (W.mul (W.shr x (W.of .u64 32)) (W.and y (W.of .u64 4294967295))) (W.shr (W.mul (W.and x (W.of .u64 4294967295)) (W.and y (W.of .u64 4294967295))) (W.of .u64 32))) (W.of .u64 4294967295)) (W.mul (W.and x (W.of .u64 4294967295)) (W.shr y (W.of .u64 32)))) (W.of .u64 32))),(W.mul x y))
def F_bits_Mul64 (x y:W .u64):Option (W .u64×W .u64):=(T_bits_Mul64 x y).eval
def T_bits_Mul (x y:W .u64):Tree (W .u64×W .u64):=
 .opt (F_bits_Mul64 x y) fun r1=>
 .ret (r1.1,r1.2)
def F_bits_Mul (x y:W .u64):Option (W .u64×W .u64):=(T_bits_Mul x y).eval
def B_slices_Repeat_uint8_17 (newslice:Sl 1 (W .u8)) (n_8:W .i64):Tree (Rnd (Sl 1 (W .u8)×W .i64×Unit) (Sl 1 (W .u8)×Unit)):=
 .ite (W.lt n_8 (Sl.len newslice)) (.opt (nat? n_8) fun n3=>
 .opt (vw? (List.length newslice.l) (some n3) (none)) fun j4=>
 .opt (nat? n_8) fun n5=>
 .opt (vw? (List.length newslice.l) (none) (some n5)) fun j6=>
 .ret (.next ((Sl.copy newslice n3 (Sl.cut newslice 0 n5)),(W.add n_8 (Sl.copyLen newslice n3 (Sl.cut newslice 0 n5))),())))
 (.ret (.out (newslice,())))
def L_slices_Repeat_uint8_17 (a:Sl 1 (W .u8)×W .i64×Unit):Option (Sl 1 (W .u8)×Unit):=iter (fun a:Sl 1 (W .u8)×W .i64×Unit=>(B_slices_Repeat_uint8_17 a.1 a.2.1).eval) fuel a
def T_slices_Repeat_uint8 (x:Sl 1 (W .u8)) (count:W .i64):Tree (Sl 1 (W .u8)):=
 .ite (W.lt count (W.of .i64 0)) (.fail)
 (.opt (F_bits_Mul (W.conv (.u64) (Sl.len x)) (W.conv (.u64) count)) fun r1=>
 .ite (W.gt r1.1 (W.of .u64 0)) (.fail)
 (.ite (W.gt r1.2 (W.of .u64 9223372036854775807)) (.fail)
 (.opt (Sl.make? 1 (W.of .u8 0) (W.conv (.i64) r1.2) (W.conv (.i64) r1.2)) fun l2=>
 .opt (L_slices_Repeat_uint8_17 (((Sl.copy l2 0 x),(Sl.copyLen l2 0 x),()))) fun o7=>
 .ret o7.1)))
def F_slices_Repeat_uint8 (x:Sl 1 (W .u8)) (count:W .i64):Option (Sl 1 (W .u8)):=(T_slices_Repeat_uint8 x count).eval
def T_pht_New (bits:W .i64):Tree (Sl 1 (W .u8)):=
 .opt (F_pht_clamp bits) fun r1=>
 .opt (W.shl? (W.of .i64 1) r1) fun z2=>
 .opt (F_slices_Repeat_uint8 (Sl.lit 1 [(W.of .u8 1)] rfl:Sl 1 (W .u8)) z2) fun r3=>
 .ret r3
def F_pht_New (bits:W .i64):Option (Sl 1 (W .u8)):=(T_pht_New bits).eval
def T_btb_New (n_0:W .i64):Tree (Sl 16 (TBtb)):=
 .opt (Sl.make? 16 (TBtb.mk (W.of .u32 0) (W.of .u32 0) (W.of .i64 0)) (W.min (W.max n_0 (W.of .i64 0)) (W.of .i64 16)) (W.min (W.max n_0 (W.of .i64 0)) (W.of .i64 16))) fun l1=>
 .ret l1
def F_btb_New (n_0:W .i64):Option (Sl 16 (TBtb)):=(T_btb_New n_0).eval
def T_ras_New (n_0:W .i64):Tree (Sl 4 (W .u32)):=
 .opt (Sl.make? 4 (W.of .u32 0) (W.min (W.max n_0 (W.of .i64 0)) (W.of .i64 16)) (W.min (W.max n_0 (W.of .i64 0)) (W.of .i64 16))) fun l1=>
 .ret l1
def F_ras_New (n_0:W .i64):Option (Sl 4 (W .u32)):=(T_ras_New n_0).eval
def T_pred_New (c:TConf):Tree (TPred):=
 .opt (F_pht_New c.Hist) fun r1=>
 .opt (F_btb_New c.Btb) fun r2=>
 .opt (F_ras_New c.Ras) fun r3=>
 .ret (TPred.mk (W.of .u32 0) r1 r2 (W.of .i64 0) r3 (W.of .i64 0))
def F_pred_New (c:TConf):Option (TPred):=(T_pred_New c).eval
def T_tlb_New (n_0:W .i64):Tree (Sl 24 (TTlb)):=
 .opt (Sl.make? 24 (TTlb.mk false (W.of .u32 0) (TPte.mk (W.of .u32 0) (W.of .i64 0))) (W.min (W.max n_0 (W.of .i64 0)) (W.of .i64 8)) (W.min (W.max n_0 (W.of .i64 0)) (W.of .i64 8))) fun l1=>
 .ret l1
def F_tlb_New (n_0:W .i64):Option (Sl 24 (TTlb)):=(T_tlb_New n_0).eval
def T_dep_New (n_0:W .i64):Tree (Sl 1 (W .u8)):=
 .opt (Sl.make? 1 (W.of .u8 0) (W.min (W.max n_0 (W.of .i64 0)) (W.of .i64 16)) (W.min (W.max n_0 (W.of .i64 0)) (W.of .i64 16))) fun l1=>
 .ret l1
def F_dep_New (n_0:W .i64):Option (Sl 1 (W .u8)):=(T_dep_New n_0).eval
def B_rat_New_7 (t_0 m:Arr 16 (W .i64)) (r:W .i64):Tree (Rnd (Arr 16 (W .i64)×Arr 16 (W .i64)×W .i64×Unit) (Arr 16 (W .i64)×Arr 16 (W .i64)×Unit)):=
 .ite (W.lt r (W.of .i64 16)) (.opt (idx? 16 r) fun j1=>
 .ret (.next (t_0,(Arr.set m j1 r),(W.add r (W.of .i64 1)),())))
 (.ret (.out (t_0,m,())))
def L_rat_New_7 (a:Arr 16 (W .i64)×Arr 16 (W .i64)×W .i64×Unit):Option (Arr 16 (W .i64)×Arr 16 (W .i64)×Unit):=iter (fun a:Arr 16 (W .i64)×Arr 16 (W .i64)×W .i64×Unit=>(B_rat_New_7 a.1 a.2.1 a.2.2.1).eval) fuel a
def T_rat_New :Tree (Arr 16 (W .i64)):=
 .opt (L_rat_New_7 (((Arr.rep 16 (W.of .i64 0):Arr 16 (W .i64)),(Arr.lit 16 [(W.of .i64 (-1)),(W.of .i64 0),(W.of .i64 0),(W.of .i64 0),(W.of .i64 0),(W.of .i64 0),(W.of .i64 0),(W.of .i64 0),(W.of .i64 0),(W.of .i64 0),(W.of .i64 0),(W.of .i64 0),(W.of .i64 0),(W.of .i64 0),(W.of .i64 0),(W.of .i64 0)] rfl:Arr 16 (W .i64)),(W.of .i64 1),()))) fun o2=>
 .ret o2.2.1
def F_rat_New :Option (Arr 16 (W .i64)):=(T_rat_New).eval
def B_freel_New_11 (used:W .i64) (t_4 f:TFree) (t_21 t_22:W .i64):Tree (Rnd (W .i64×TFree×TFree×W .i64×W .i64×Unit) (TFree×TFree×Unit)):=
 .ite (W.lt t_22 t_21) (.opt (idx? (List.length f.Ring.l) t_22) fun j2=>
 .ret (.next (used,t_4,({ f with Ring:=(Sl.set f.Ring j2 (W.add used t_22)) }:TFree),t_21,(W.add t_22 (W.of .i64 1)),())))
 (.ret (.out (t_4,f,())))
def L_freel_New_11 (a:W .i64×TFree×TFree×W .i64×W .i64×Unit):Option (TFree×TFree×Unit):=iter (fun a:W .i64×TFree×TFree×W .i64×W .i64×Unit=>(B_freel_New_11 a.1 a.2.1 a.2.2.1 a.2.2.2.1 a.2.2.2.2.1).eval) fuel a
def T_freel_New (n_0 used:W .i64):Tree (TFree):=
 .opt (Sl.make? 8 (W.of .i64 0) (W.min (W.max n_0 (W.of .i64 0)) (W.of .i64 96)) (W.min (W.max n_0 (W.of .i64 0)) (W.of .i64 96))) fun l1=>
 .opt (L_freel_New_11 (((W.min (W.max used (W.of .i64 0)) (W.min (W.max n_0 (W.of .i64 0)) (W.of .i64 96))),(TFree.mk (Sl.nil:Sl 8 (W .i64)) (W.of .i64 0) (W.of .i64 0)),(TFree.mk l1 (W.of .i64 0) (W.sub (W.min (W.max n_0 (W.of .i64 0)) (W.of .i64 96)) (W.min (W.max used (W.of .i64 0)) (W.min (W.max n_0 (W.of .i64 0)) (W.of .i64 96))))),(W.sub (W.min (W.max n_0 (W.of .i64 0)) (W.of .i64 96)) (W.min (W.max used (W.of .i64 0)) (W.min (W.max n_0 (W.of .i64 0)) (W.of .i64 96)))),(W.of .i64 0),()))) fun o3=>
 .ret o3.2.1
def F_freel_New (n_0 used:W .i64):Option (TFree):=(T_freel_New n_0 used).eval
def T_rename_New (n_0:W .i64):Tree (TNames):=
 .opt (F_rat_New) fun r1=>
 .opt (F_rat_New) fun r2=>
 .opt (F_freel_New n_0 (W.of .i64 16)) fun r3=>
 .ret (TNames.mk r1 r2 r3 (W.of .u64 1))
def F_rename_New (n_0:W .i64):Option (TNames):=(T_rename_New n_0).eval
def B_slices_Repeat_bool_17 (newslice:Sl 1 (Bool)) (n_8:W .i64):Tree (Rnd (Sl 1 (Bool)×W .i64×Unit) (Sl 1 (Bool)×Unit)):=
 .ite (W.lt n_8 (Sl.len newslice)) (.opt (nat? n_8) fun n3=>
 .opt (vw? (List.length newslice.l) (some n3) (none)) fun j4=>
 .opt (nat? n_8) fun n5=>
 .opt (vw? (List.length newslice.l) (none) (some n5)) fun j6=>
 .ret (.next ((Sl.copy newslice n3 (Sl.cut newslice 0 n5)),(W.add n_8 (Sl.copyLen newslice n3 (Sl.cut newslice 0 n5))),())))
 (.ret (.out (newslice,())))
def L_slices_Repeat_bool_17 (a:Sl 1 (Bool)×W .i64×Unit):Option (Sl 1 (Bool)×Unit):=iter (fun a:Sl 1 (Bool)×W .i64×Unit=>(B_slices_Repeat_bool_17 a.1 a.2.1).eval) fuel a
def T_slices_Repeat_bool (x:Sl 1 (Bool)) (count:W .i64):Tree (Sl 1 (Bool)):=
 .ite (W.lt count (W.of .i64 0)) (.fail)
 (.opt (F_bits_Mul (W.conv (.u64) (Sl.len x)) (W.conv (.u64) count)) fun r1=>
 .ite (W.gt r1.1 (W.of .u64 0)) (.fail)
 (.ite (W.gt r1.2 (W.of .u64 9223372036854775807)) (.fail)
 (.opt (Sl.make? 1 false (W.conv (.i64) r1.2) (W.conv (.i64) r1.2)) fun l2=>
 .opt (L_slices_Repeat_bool_17 (((Sl.copy l2 0 x),(Sl.copyLen l2 0 x),()))) fun o7=>
 .ret o7.1)))
def F_slices_Repeat_bool (x:Sl 1 (Bool)) (count:W .i64):Option (Sl 1 (Bool)):=(T_slices_Repeat_bool x count).eval
def T_prf_New (n_0:W .i64):Tree (TPhys):=
 .opt (Sl.make? 4 (W.of .u32 0) (W.min (W.max n_0 (W.of .i64 0)) (W.of .i64 96)) (W.min (W.max n_0 (W.of .i64 0)) (W.of .i64 96))) fun l1=>
 .opt (F_slices_Repeat_bool (Sl.lit 1 [true] rfl:Sl 1 (Bool)) (W.min (W.max n_0 (W.of .i64 0)) (W.of .i64 96))) fun r2=>
 .ret (TPhys.mk l1 r2)
def F_prf_New (n_0:W .i64):Option (TPhys):=(T_prf_New n_0).eval
def F_slices_Clone_uint32 (s:Sl 4 (W .u32)):Option (Sl 4 (W .u32)):=some s
def F_slices_Clone_bool (s:Sl 1 (Bool)):Option (Sl 1 (Bool)):=some s
def T_prf_has (f:TPhys) (p:W .i64):Tree (Bool):=
 .ite (W.ge p (W.of .i64 0)) (.ite (W.lt p (Sl.len f.Val)) (.ret (W.lt p (Sl.len f.Ready)))
 (.ret false))
 (.ret false)
def F_prf_has (f:TPhys) (p:W .i64):Option (Bool):=(T_prf_has f p).eval
def T_prf_Put (f:TPhys) (p:W .i64) (v:W .u32):Tree (TPhys):=
 .opt (F_slices_Clone_uint32 f.Val) fun r1=>
 .opt (F_slices_Clone_bool f.Ready) fun r2=>
 .opt (F_prf_has f p) fun r3=>
 .ite r3 (.opt (idx? (List.length r1.l) p) fun j4=>
 .opt (idx? (List.length r2.l) p) fun j5=>
 .ret (TPhys.mk (Sl.set r1 j4 v) (Sl.set r2 j5 true)))
 (.ret (TPhys.mk r1 r2))
def F_prf_Put (f:TPhys) (p:W .i64) (v:W .u32):Option (TPhys):=(T_prf_Put f p v).eval
def B_core_New_27 (m:TMach) (t_4 k:TCore) (r:W .i64):Tree (Rnd (TMach×TCore×TCore×W .i64×Unit) (TCore×TCore×Unit)):=
 .ite (W.lt r (W.of .i64 16)) (.opt (idx? 16 r) fun j9=>
 .opt (F_prf_Put k.Phys r (Arr.get m.A.R j9)) fun r10=>
 .ret (.next (m,t_4,({ k with Phys:=r10 }:TCore),(W.add r (W.of .i64 1)),())))
 (.ret (.out (t_4,k,())))
def L_core_New_27 (a:TMach×TCore×TCore×W .i64×Unit):Option (TCore×TCore×Unit):=iter (fun a:TMach×TCore×TCore×W .i64×Unit=>(B_core_New_27 a.1 a.2.1 a.2.2.1 a.2.2.2.1).eval) fuel a
def T_core_New (c:TConf) (m:TMach):Tree (TCore×W .i64):=
 .opt (F_core_Conf c) fun r1=>
 .ite (W.ne r1 (W.of .i64 0)) (.ret ((TCore.mk (TConf.mk (W.of .i64 0) (W.of .i64 0) (W.of .i64 0) (W.of .i64 0) (W.of .i64 0) (W.of .i64 0) (W.of .i64 0) (W.of .i64 0) (W.of .i64 0) (W.of .i64 0) (W.of .i64 0) (W.of .i64 0) (W.of .i64 0) (W.of .i64 0) (W.of .i64 0) (W.of .i64 0) (W.of .i64 0) (W.of .i64 0) (W.of .i64 0) (W.of .i64 0) (W.of .i64 0) false) (TArch.mk (W.of .u32 0) (Arr.rep 16 (W.of .u32 0):Arr 16 (W .u32)) (Arr.rep 12 (W.of .u32 0):Arr 12 (W .u32)) false) (Sl.nil:Sl 1 (W .u8)) (Sl.nil:Sl 4 (W .u32)) (W.of .u32 0) false (TPred.mk (W.of .u32 0) (Sl.nil:Sl 1 (W .u8)) (Sl.nil:Sl 16 (TBtb)) (W.of .i64 0) (Sl.nil:Sl 4 (W .u32)) (W.of .i64 0)) (Sl.nil:Sl 24 (TTlb)) (W.of .i64 0) (Sl.nil:Sl 56 (TSlot)) (TNames.mk (Arr.rep 16 (W.of .i64 0):Arr 16 (W .i64)) (Arr.rep 16 (W.of .i64 0):Arr 16 (W .i64)) (TFree.mk (Sl.nil:Sl 8 (W .i64)) (W.of .i64 0) (W.of .i64 0)) (W.of .u64 0)) (TPhys.mk (Sl.nil:Sl 4 (W .u32)) (Sl.nil:Sl 1 (Bool))) (Sl.nil:Sl 248 (TRob)) (Sl.nil:Sl 224 (TIq)) (Sl.nil:Sl 48 (TLq)) (Sl.nil:Sl 32 (TSq)) (Sl.nil:Sl 16 (TSb)) (Sl.nil:Sl 256 (TFlight)) (Sl.nil:Sl 1 (W .u8)) (W.of .i64 0) (W.of .i64 0)),r1))
 (.opt (F_core_right m) fun r2=>
 .ite (!r2) (.ret ((TCore.mk (TConf.mk (W.of .i64 0) (W.of .i64 0) (W.of .i64 0) (W.of .i64 0) (W.of .i64 0) (W.of .i64 0) (W.of .i64 0) (W.of .i64 0) (W.of .i64 0) (W.of .i64 0) (W.of .i64 0) (W.of .i64 0) (W.of .i64 0) (W.of .i64 0) (W.of .i64 0) (W.of .i64 0) (W.of .i64 0) (W.of .i64 0) (W.of .i64 0) (W.of .i64 0) (W.of .i64 0) false) (TArch.mk (W.of .u32 0) (Arr.rep 16 (W.of .u32 0):Arr 16 (W .u32)) (Arr.rep 12 (W.of .u32 0):Arr 12 (W .u32)) false) (Sl.nil:Sl 1 (W .u8)) (Sl.nil:Sl 4 (W .u32)) (W.of .u32 0) false (TPred.mk (W.of .u32 0) (Sl.nil:Sl 1 (W .u8)) (Sl.nil:Sl 16 (TBtb)) (W.of .i64 0) (Sl.nil:Sl 4 (W .u32)) (W.of .i64 0)) (Sl.nil:Sl 24 (TTlb)) (W.of .i64 0) (Sl.nil:Sl 56 (TSlot)) (TNames.mk (Arr.rep 16 (W.of .i64 0):Arr 16 (W .i64)) (Arr.rep 16 (W.of .i64 0):Arr 16 (W .i64)) (TFree.mk (Sl.nil:Sl 8 (W .i64)) (W.of .i64 0) (W.of .i64 0)) (W.of .u64 0)) (TPhys.mk (Sl.nil:Sl 4 (W .u32)) (Sl.nil:Sl 1 (Bool))) (Sl.nil:Sl 248 (TRob)) (Sl.nil:Sl 224 (TIq)) (Sl.nil:Sl 48 (TLq)) (Sl.nil:Sl 32 (TSq)) (Sl.nil:Sl 16 (TSb)) (Sl.nil:Sl 256 (TFlight)) (Sl.nil:Sl 1 (W .u8)) (W.of .i64 0) (W.of .i64 0)),(W.of .i64 1)))
 (.opt (F_step_Copy m) fun r3=>
 .opt (F_pred_New c) fun r4=>
 .opt (F_tlb_New c.Tlb) fun r5=>
 .opt (F_dep_New c.Dep) fun r6=>
 .opt (F_rename_New c.Phys) fun r7=>
 .opt (F_prf_New c.Phys) fun r8=>
 .opt (L_core_New_27 ((r3,(TCore.mk (TConf.mk (W.of .i64 0) (W.of .i64 0) (W.of .i64 0) (W.of .i64 0) (W.of .i64 0) (W.of .i64 0) (W.of .i64 0) (W.of .i64 0) (W.of .i64 0) (W.of .i64 0) (W.of .i64 0) (W.of .i64 0) (W.of .i64 0) (W.of .i64 0) (W.of .i64 0) (W.of .i64 0) (W.of .i64 0) (W.of .i64 0) (W.of .i64 0) (W.of .i64 0) (W.of .i64 0) false) (TArch.mk (W.of .u32 0) (Arr.rep 16 (W.of .u32 0):Arr 16 (W .u32)) (Arr.rep 12 (W.of .u32 0):Arr 12 (W .u32)) false) (Sl.nil:Sl 1 (W .u8)) (Sl.nil:Sl 4 (W .u32)) (W.of .u32 0) false (TPred.mk (W.of .u32 0) (Sl.nil:Sl 1 (W .u8)) (Sl.nil:Sl 16 (TBtb)) (W.of .i64 0) (Sl.nil:Sl 4 (W .u32)) (W.of .i64 0)) (Sl.nil:Sl 24 (TTlb)) (W.of .i64 0) (Sl.nil:Sl 56 (TSlot)) (TNames.mk (Arr.rep 16 (W.of .i64 0):Arr 16 (W .i64)) (Arr.rep 16 (W.of .i64 0):Arr 16 (W .i64)) (TFree.mk (Sl.nil:Sl 8 (W .i64)) (W.of .i64 0) (W.of .i64 0)) (W.of .u64 0)) (TPhys.mk (Sl.nil:Sl 4 (W .u32)) (Sl.nil:Sl 1 (Bool))) (Sl.nil:Sl 248 (TRob)) (Sl.nil:Sl 224 (TIq)) (Sl.nil:Sl 48 (TLq)) (Sl.nil:Sl 32 (TSq)) (Sl.nil:Sl 16 (TSb)) (Sl.nil:Sl 256 (TFlight)) (Sl.nil:Sl 1 (W .u8)) (W.of .i64 0) (W.of .i64 0)),(TCore.mk c r3.A r3.Shadow r3.Out r3.A.PC false r4 r5 (W.of .i64 0) (Sl.nil:Sl 56 (TSlot)) r7 r8 (Sl.nil:Sl 248 (TRob)) (Sl.nil:Sl 224 (TIq)) (Sl.nil:Sl 48 (TLq)) (Sl.nil:Sl 32 (TSq)) (Sl.nil:Sl 16 (TSb)) (Sl.nil:Sl 256 (TFlight)) r6 (W.of .i64 0) (W.of .i64 0)),(W.of .i64 1),()))) fun o11=>
 .ret (o11.2.1,(W.of .i64 0))))
def F_core_New (c:TConf) (m:TMach):Option (TCore×W .i64):=(T_core_New c m).eval
def T_crack_none :Tree (Arr 3 (W .i64)):=
 .ret (Arr.lit 3 [(W.of .i64 (-1)),(W.of .i64 (-1)),(W.of .i64 (-1))] rfl:Arr 3 (W .i64))
def F_crack_none :Option (Arr 3 (W .i64)):=(T_crack_none).eval
def T_crack_trap (s:TSlot) (cause:W .i64) (val:W .u32):Tree (Sl 168 (TUop)):=
 .opt (F_crack_none) fun r1=>
 .ret (Sl.lit 168 [(TUop.mk (TInst.mk (W.of .i64 0) (W.of .i64 0) (W.of .i64 0) (W.of .i64 0) (W.of .i64 0)) s (W.of .i64 7) (W.of .i64 0) true r1 (W.of .i64 (-1)) cause val)] rfl:Sl 168 (TUop))
def F_crack_trap (s:TSlot) (cause:W .i64) (val:W .u32):Option (Sl 168 (TUop)):=(T_crack_trap s cause val).eval
def T_bits_Field (x:W .u32) (hi lo:W .i64):Tree (W .u32):=
 .opt (F_bits_mask hi lo) fun r1=>
 .opt (W.shr? (W.and x r1.1) r1.2) fun z2=>
 .ret z2
def F_bits_Field (x:W .u32) (hi lo:W .i64):Option (W .u32):=(T_bits_Field x hi lo).eval
def T_bits_Zext (x:W .u32) (n_1:W .i64):Tree (W .u32):=
 .opt (F_bits_clamp n_1 (W.of .i64 0) (W.of .i64 32)) fun r1=>
 .opt (F_bits_ones r1) fun r2=>
 .ret (W.and x r2)
def F_bits_Zext (x:W .u32) (n_1:W .i64):Option (W .u32):=(T_bits_Zext x n_1).eval
def T_bits_Sext (x:W .u32) (n_1:W .i64):Tree (W .u32):=
 .opt (F_bits_clamp n_1 (W.of .i64 0) (W.of .i64 32)) fun r1=>
 .opt (W.shl? x (W.sub (W.of .i64 32) r1)) fun z2=>
 .opt (W.shr? (W.conv (.i32) z2) (W.sub (W.of .i64 32) r1)) fun z3=>
 .ret (W.conv (.u32) z3)
def F_bits_Sext (x:W .u32) (n_1:W .i64):Option (W .u32):=(T_bits_Sext x n_1).eval
def T_inst_number (op:W .i64) (w:W .u32):Tree (W .i64):=
 .ite (W.eq op (W.of .i64 33)) (.opt (F_bits_Zext w (W.of .i64 18)) fun r1=>
 .ret (W.conv (.i64) r1))
 (.opt (F_inst_width op) fun r2=>
 .opt (F_bits_Sext w r2) fun r3=>
 .ret (W.conv (.i64) (W.conv (.i32) r3)))
def F_inst_number (op:W .i64) (w:W .u32):Option (W .i64):=(T_inst_number op w).eval
def T_inst_Dec (w:W .u32):Tree (TInst×W .i64):=
 .opt (F_bits_Field w (W.of .i64 31) (W.of .i64 26)) fun r1=>
 .ite (W.eq (W.conv (.i64) r1) (W.of .i64 0)) (.ret ((TInst.mk (W.of .i64 0) (W.of .i64 0) (W.of .i64 0) (W.of .i64 0) (W.of .i64 0)),(W.of .i64 9)))
 (.opt (F_inst_has (W.conv (.i64) r1) (W.of .i64 1)) fun r2=>
 .ite r2 (.opt (F_bits_Field w (W.of .i64 25) (W.of .i64 22)) fun r3=>
 .opt (F_inst_has (W.conv (.i64) r1) (W.of .i64 2)) fun r4=>
 .ite r4 (.opt (F_bits_Field w (W.of .i64 21) (W.of .i64 18)) fun r5=>
 .opt (F_inst_has (W.conv (.i64) r1) (W.of .i64 4)) fun r6=>
 .ite r6 (.opt (F_bits_Field w (W.of .i64 17) (W.of .i64 14)) fun r7=>
 .opt (F_inst_has (W.conv (.i64) r1) (W.of .i64 8)) fun r8=>
 .ite r8 (.opt (F_inst_number (W.conv (.i64) r1) w) fun r9=>
 .opt (F_inst_Enc (TInst.mk (W.conv (.i64) r1) (W.conv (.i64) r3) (W.conv (.i64) r5) (W.conv (.i64) r7) r9)) fun r10=>
 .ite (W.ne r10.2 (W.of .i64 0)) (.ret ((TInst.mk (W.of .i64 0) (W.of .i64 0) (W.of .i64 0) (W.of .i64 0) (W.of .i64 0)),(W.of .i64 2)))
 (.ite (W.ne r10.1 w) (.ret ((TInst.mk (W.of .i64 0) (W.of .i64 0) (W.of .i64 0) (W.of .i64 0) (W.of .i64 0)),(W.of .i64 2)))
 (.ret ((TInst.mk (W.conv (.i64) r1) (W.conv (.i64) r3) (W.conv (.i64) r5) (W.conv (.i64) r7) r9),(W.of .i64 0)))))
 (.opt (F_inst_Enc (TInst.mk (W.conv (.i64) r1) (W.conv (.i64) r3) (W.conv (.i64) r5) (W.conv (.i64) r7) (W.of .i64 0))) fun r11=>
 .ite (W.ne r11.2 (W.of .i64 0)) (.ret ((TInst.mk (W.of .i64 0) (W.of .i64 0) (W.of .i64 0) (W.of .i64 0) (W.of .i64 0)),(W.of .i64 2)))
 (.ite (W.ne r11.1 w) (.ret ((TInst.mk (W.of .i64 0) (W.of .i64 0) (W.of .i64 0) (W.of .i64 0) (W.of .i64 0)),(W.of .i64 2)))
 (.ret ((TInst.mk (W.conv (.i64) r1) (W.conv (.i64) r3) (W.conv (.i64) r5) (W.conv (.i64) r7) (W.of .i64 0)),(W.of .i64 0))))))
 (.opt (F_inst_has (W.conv (.i64) r1) (W.of .i64 8)) fun r12=>
 .ite r12 (.opt (F_inst_number (W.conv (.i64) r1) w) fun r13=>
 .opt (F_inst_Enc (TInst.mk (W.conv (.i64) r1) (W.conv (.i64) r3) (W.conv (.i64) r5) (W.of .i64 0) r13)) fun r14=>
 .ite (W.ne r14.2 (W.of .i64 0)) (.ret ((TInst.mk (W.of .i64 0) (W.of .i64 0) (W.of .i64 0) (W.of .i64 0) (W.of .i64 0)),(W.of .i64 2)))
 (.ite (W.ne r14.1 w) (.ret ((TInst.mk (W.of .i64 0) (W.of .i64 0) (W.of .i64 0) (W.of .i64 0) (W.of .i64 0)),(W.of .i64 2)))
 (.ret ((TInst.mk (W.conv (.i64) r1) (W.conv (.i64) r3) (W.conv (.i64) r5) (W.of .i64 0) r13),(W.of .i64 0)))))
 (.opt (F_inst_Enc (TInst.mk (W.conv (.i64) r1) (W.conv (.i64) r3) (W.conv (.i64) r5) (W.of .i64 0) (W.of .i64 0))) fun r15=>
 .ite (W.ne r15.2 (W.of .i64 0)) (.ret ((TInst.mk (W.of .i64 0) (W.of .i64 0) (W.of .i64 0) (W.of .i64 0) (W.of .i64 0)),(W.of .i64 2)))
 (.ite (W.ne r15.1 w) (.ret ((TInst.mk (W.of .i64 0) (W.of .i64 0) (W.of .i64 0) (W.of .i64 0) (W.of .i64 0)),(W.of .i64 2)))
 (.ret ((TInst.mk (W.conv (.i64) r1) (W.conv (.i64) r3) (W.conv (.i64) r5) (W.of .i64 0) (W.of .i64 0)),(W.of .i64 0)))))))
 (.opt (F_inst_has (W.conv (.i64) r1) (W.of .i64 4)) fun r16=>
 .ite r16 (.opt (F_bits_Field w (W.of .i64 17) (W.of .i64 14)) fun r17=>
 .opt (F_inst_has (W.conv (.i64) r1) (W.of .i64 8)) fun r18=>
 .ite r18 (.opt (F_inst_number (W.conv (.i64) r1) w) fun r19=>
 .opt (F_inst_Enc (TInst.mk (W.conv (.i64) r1) (W.conv (.i64) r3) (W.of .i64 0) (W.conv (.i64) r17) r19)) fun r20=>
 .ite (W.ne r20.2 (W.of .i64 0)) (.ret ((TInst.mk (W.of .i64 0) (W.of .i64 0) (W.of .i64 0) (W.of .i64 0) (W.of .i64 0)),(W.of .i64 2)))
 (.ite (W.ne r20.1 w) (.ret ((TInst.mk (W.of .i64 0) (W.of .i64 0) (W.of .i64 0) (W.of .i64 0) (W.of .i64 0)),(W.of .i64 2)))
 (.ret ((TInst.mk (W.conv (.i64) r1) (W.conv (.i64) r3) (W.of .i64 0) (W.conv (.i64) r17) r19),(W.of .i64 0)))))
 (.opt (F_inst_Enc (TInst.mk (W.conv (.i64) r1) (W.conv (.i64) r3) (W.of .i64 0) (W.conv (.i64) r17) (W.of .i64 0))) fun r21=>
 .ite (W.ne r21.2 (W.of .i64 0)) (.ret ((TInst.mk (W.of .i64 0) (W.of .i64 0) (W.of .i64 0) (W.of .i64 0) (W.of .i64 0)),(W.of .i64 2)))
 (.ite (W.ne r21.1 w) (.ret ((TInst.mk (W.of .i64 0) (W.of .i64 0) (W.of .i64 0) (W.of .i64 0) (W.of .i64 0)),(W.of .i64 2)))
 (.ret ((TInst.mk (W.conv (.i64) r1) (W.conv (.i64) r3) (W.of .i64 0) (W.conv (.i64) r17) (W.of .i64 0)),(W.of .i64 0))))))
 (.opt (F_inst_has (W.conv (.i64) r1) (W.of .i64 8)) fun r22=>
 .ite r22 (.opt (F_inst_number (W.conv (.i64) r1) w) fun r23=>
 .opt (F_inst_Enc (TInst.mk (W.conv (.i64) r1) (W.conv (.i64) r3) (W.of .i64 0) (W.of .i64 0) r23)) fun r24=>
 .ite (W.ne r24.2 (W.of .i64 0)) (.ret ((TInst.mk (W.of .i64 0) (W.of .i64 0) (W.of .i64 0) (W.of .i64 0) (W.of .i64 0)),(W.of .i64 2)))
 (.ite (W.ne r24.1 w) (.ret ((TInst.mk (W.of .i64 0) (W.of .i64 0) (W.of .i64 0) (W.of .i64 0) (W.of .i64 0)),(W.of .i64 2)))
 (.ret ((TInst.mk (W.conv (.i64) r1) (W.conv (.i64) r3) (W.of .i64 0) (W.of .i64 0) r23),(W.of .i64 0)))))
 (.opt (F_inst_Enc (TInst.mk (W.conv (.i64) r1) (W.conv (.i64) r3) (W.of .i64 0) (W.of .i64 0) (W.of .i64 0))) fun r25=>
 .ite (W.ne r25.2 (W.of .i64 0)) (.ret ((TInst.mk (W.of .i64 0) (W.of .i64 0) (W.of .i64 0) (W.of .i64 0) (W.of .i64 0)),(W.of .i64 2)))
 (.ite (W.ne r25.1 w) (.ret ((TInst.mk (W.of .i64 0) (W.of .i64 0) (W.of .i64 0) (W.of .i64 0) (W.of .i64 0)),(W.of .i64 2)))
 (.ret ((TInst.mk (W.conv (.i64) r1) (W.conv (.i64) r3) (W.of .i64 0) (W.of .i64 0) (W.of .i64 0)),(W.of .i64 0))))))))
 (.opt (F_inst_has (W.conv (.i64) r1) (W.of .i64 2)) fun r26=>
 .ite r26 (.opt (F_bits_Field w (W.of .i64 21) (W.of .i64 18)) fun r27=>
 .opt (F_inst_has (W.conv (.i64) r1) (W.of .i64 4)) fun r28=>
 .ite r28 (.opt (F_bits_Field w (W.of .i64 17) (W.of .i64 14)) fun r29=>
 .opt (F_inst_has (W.conv (.i64) r1) (W.of .i64 8)) fun r30=>
 .ite r30 (.opt (F_inst_number (W.conv (.i64) r1) w) fun r31=>
 .opt (F_inst_Enc (TInst.mk (W.conv (.i64) r1) (W.of .i64 0) (W.conv (.i64) r27) (W.conv (.i64) r29) r31)) fun r32=>
 .ite (W.ne r32.2 (W.of .i64 0)) (.ret ((TInst.mk (W.of .i64 0) (W.of .i64 0) (W.of .i64 0) (W.of .i64 0) (W.of .i64 0)),(W.of .i64 2)))
 (.ite (W.ne r32.1 w) (.ret ((TInst.mk (W.of .i64 0) (W.of .i64 0) (W.of .i64 0) (W.of .i64 0) (W.of .i64 0)),(W.of .i64 2)))
 (.ret ((TInst.mk (W.conv (.i64) r1) (W.of .i64 0) (W.conv (.i64) r27) (W.conv (.i64) r29) r31),(W.of .i64 0)))))
 (.opt (F_inst_Enc (TInst.mk (W.conv (.i64) r1) (W.of .i64 0) (W.conv (.i64) r27) (W.conv (.i64) r29) (W.of .i64 0))) fun r33=>
 .ite (W.ne r33.2 (W.of .i64 0)) (.ret ((TInst.mk (W.of .i64 0) (W.of .i64 0) (W.of .i64 0) (W.of .i64 0) (W.of .i64 0)),(W.of .i64 2)))
 (.ite (W.ne r33.1 w) (.ret ((TInst.mk (W.of .i64 0) (W.of .i64 0) (W.of .i64 0) (W.of .i64 0) (W.of .i64 0)),(W.of .i64 2)))
 (.ret ((TInst.mk (W.conv (.i64) r1) (W.of .i64 0) (W.conv (.i64) r27) (W.conv (.i64) r29) (W.of .i64 0)),(W.of .i64 0))))))
 (.opt (F_inst_has (W.conv (.i64) r1) (W.of .i64 8)) fun r34=>
 .ite r34 (.opt (F_inst_number (W.conv (.i64) r1) w) fun r35=>
 .opt (F_inst_Enc (TInst.mk (W.conv (.i64) r1) (W.of .i64 0) (W.conv (.i64) r27) (W.of .i64 0) r35)) fun r36=>
 .ite (W.ne r36.2 (W.of .i64 0)) (.ret ((TInst.mk (W.of .i64 0) (W.of .i64 0) (W.of .i64 0) (W.of .i64 0) (W.of .i64 0)),(W.of .i64 2)))
 (.ite (W.ne r36.1 w) (.ret ((TInst.mk (W.of .i64 0) (W.of .i64 0) (W.of .i64 0) (W.of .i64 0) (W.of .i64 0)),(W.of .i64 2)))
 (.ret ((TInst.mk (W.conv (.i64) r1) (W.of .i64 0) (W.conv (.i64) r27) (W.of .i64 0) r35),(W.of .i64 0)))))
 (.opt (F_inst_Enc (TInst.mk (W.conv (.i64) r1) (W.of .i64 0) (W.conv (.i64) r27) (W.of .i64 0) (W.of .i64 0))) fun r37=>
 .ite (W.ne r37.2 (W.of .i64 0)) (.ret ((TInst.mk (W.of .i64 0) (W.of .i64 0) (W.of .i64 0) (W.of .i64 0) (W.of .i64 0)),(W.of .i64 2)))
 (.ite (W.ne r37.1 w) (.ret ((TInst.mk (W.of .i64 0) (W.of .i64 0) (W.of .i64 0) (W.of .i64 0) (W.of .i64 0)),(W.of .i64 2)))
 (.ret ((TInst.mk (W.conv (.i64) r1) (W.of .i64 0) (W.conv (.i64) r27) (W.of .i64 0) (W.of .i64 0)),(W.of .i64 0)))))))
 (.opt (F_inst_has (W.conv (.i64) r1) (W.of .i64 4)) fun r38=>
 .ite r38 (.opt (F_bits_Field w (W.of .i64 17) (W.of .i64 14)) fun r39=>
 .opt (F_inst_has (W.conv (.i64) r1) (W.of .i64 8)) fun r40=>
 .ite r40 (.opt (F_inst_number (W.conv (.i64) r1) w) fun r41=>
 .opt (F_inst_Enc (TInst.mk (W.conv (.i64) r1) (W.of .i64 0) (W.of .i64 0) (W.conv (.i64) r39) r41)) fun r42=>
 .ite (W.ne r42.2 (W.of .i64 0)) (.ret ((TInst.mk (W.of .i64 0) (W.of .i64 0) (W.of .i64 0) (W.of .i64 0) (W.of .i64 0)),(W.of .i64 2)))
 (.ite (W.ne r42.1 w) (.ret ((TInst.mk (W.of .i64 0) (W.of .i64 0) (W.of .i64 0) (W.of .i64 0) (W.of .i64 0)),(W.of .i64 2)))
 (.ret ((TInst.mk (W.conv (.i64) r1) (W.of .i64 0) (W.of .i64 0) (W.conv (.i64) r39) r41),(W.of .i64 0)))))
 (.opt (F_inst_Enc (TInst.mk (W.conv (.i64) r1) (W.of .i64 0) (W.of .i64 0) (W.conv (.i64) r39) (W.of .i64 0))) fun r43=>
 .ite (W.ne r43.2 (W.of .i64 0)) (.ret ((TInst.mk (W.of .i64 0) (W.of .i64 0) (W.of .i64 0) (W.of .i64 0) (W.of .i64 0)),(W.of .i64 2)))
 (.ite (W.ne r43.1 w) (.ret ((TInst.mk (W.of .i64 0) (W.of .i64 0) (W.of .i64 0) (W.of .i64 0) (W.of .i64 0)),(W.of .i64 2)))
 (.ret ((TInst.mk (W.conv (.i64) r1) (W.of .i64 0) (W.of .i64 0) (W.conv (.i64) r39) (W.of .i64 0)),(W.of .i64 0))))))
 (.opt (F_inst_has (W.conv (.i64) r1) (W.of .i64 8)) fun r44=>
 .ite r44 (.opt (F_inst_number (W.conv (.i64) r1) w) fun r45=>
 .opt (F_inst_Enc (TInst.mk (W.conv (.i64) r1) (W.of .i64 0) (W.of .i64 0) (W.of .i64 0) r45)) fun r46=>
 .ite (W.ne r46.2 (W.of .i64 0)) (.ret ((TInst.mk (W.of .i64 0) (W.of .i64 0) (W.of .i64 0) (W.of .i64 0) (W.of .i64 0)),(W.of .i64 2)))
 (.ite (W.ne r46.1 w) (.ret ((TInst.mk (W.of .i64 0) (W.of .i64 0) (W.of .i64 0) (W.of .i64 0) (W.of .i64 0)),(W.of .i64 2)))
 (.ret ((TInst.mk (W.conv (.i64) r1) (W.of .i64 0) (W.of .i64 0) (W.of .i64 0) r45),(W.of .i64 0)))))
 (.opt (F_inst_Enc (TInst.mk (W.conv (.i64) r1) (W.of .i64 0) (W.of .i64 0) (W.of .i64 0) (W.of .i64 0))) fun r47=>
 .ite (W.ne r47.2 (W.of .i64 0)) (.ret ((TInst.mk (W.of .i64 0) (W.of .i64 0) (W.of .i64 0) (W.of .i64 0) (W.of .i64 0)),(W.of .i64 2)))
 (.ite (W.ne r47.1 w) (.ret ((TInst.mk (W.of .i64 0) (W.of .i64 0) (W.of .i64 0) (W.of .i64 0) (W.of .i64 0)),(W.of .i64 2)))
 (.ret ((TInst.mk (W.conv (.i64) r1) (W.of .i64 0) (W.of .i64 0) (W.of .i64 0) (W.of .i64 0)),(W.of .i64 0)))))))))
def F_inst_Dec (w:W .u32):Option (TInst×W .i64):=(T_inst_Dec w).eval
def T_crack_Serial (op:W .i64):Tree (Bool):=
 .ite (W.ge op (W.of .i64 51)) (.ret (W.le op (W.of .i64 62)))
 (.ret false)
def F_crack_Serial (op:W .i64):Option (Bool):=(T_crack_Serial op).eval
def T_crack_Unit (op:W .i64):Tree (W .i64):=
 .ite (W.lt op (W.of .i64 1)) (.ret (W.of .i64 0))
 (.ite (W.gt op (W.of .i64 63)) (.ret (W.of .i64 0))
 (.ite (W.ge op (W.of .i64 11)) (.ite (W.le op (W.of .i64 13)) (.ret (W.of .i64 2))
 (.ite (W.ge op (W.of .i64 14)) (.ite (W.le op (W.of .i64 17)) (.ret (W.of .i64 3))
 (.ite (W.ge op (W.of .i64 34)) (.ite (W.le op (W.of .i64 39)) (.ret (W.of .i64 5))
 (.ite (W.ge op (W.of .i64 40)) (.ite (W.le op (W.of .i64 42)) (.ret (W.of .i64 6))
 (.ite (W.ge op (W.of .i64 43)) (.ite (W.le op (W.of .i64 50)) (.ret (W.of .i64 4))
 (.opt (F_crack_Serial op) fun r1=>
 .ite r1 (.ret (W.of .i64 7))
 (.ret (W.of .i64 1))))
 (.opt (F_crack_Serial op) fun r2=>
 .ite r2 (.ret (W.of .i64 7))
 (.ret (W.of .i64 1)))))
 (.ite (W.ge op (W.of .i64 43)) (.ite (W.le op (W.of .i64 50)) (.ret (W.of .i64 4))
 (.opt (F_crack_Serial op) fun r3=>
 .ite r3 (.ret (W.of .i64 7))
 (.ret (W.of .i64 1))))
 (.opt (F_crack_Serial op) fun r4=>
 .ite r4 (.ret (W.of .i64 7))
 (.ret (W.of .i64 1))))))
 (.ite (W.ge op (W.of .i64 40)) (.ite (W.le op (W.of .i64 42)) (.ret (W.of .i64 6))
 (.ite (W.ge op (W.of .i64 43)) (.ite (W.le op (W.of .i64 50)) (.ret (W.of .i64 4))
 (.opt (F_crack_Serial op) fun r5=>
 .ite r5 (.ret (W.of .i64 7))
 (.ret (W.of .i64 1))))
 (.opt (F_crack_Serial op) fun r6=>
 .ite r6 (.ret (W.of .i64 7))
 (.ret (W.of .i64 1)))))
 (.ite (W.ge op (W.of .i64 43)) (.ite (W.le op (W.of .i64 50)) (.ret (W.of .i64 4))
 (.opt (F_crack_Serial op) fun r7=>
 .ite r7 (.ret (W.of .i64 7))
 (.ret (W.of .i64 1))))
 (.opt (F_crack_Serial op) fun r8=>
 .ite r8 (.ret (W.of .i64 7))
 (.ret (W.of .i64 1)))))))
 (.ite (W.ge op (W.of .i64 34)) (.ite (W.le op (W.of .i64 39)) (.ret (W.of .i64 5))
 (.ite (W.ge op (W.of .i64 40)) (.ite (W.le op (W.of .i64 42)) (.ret (W.of .i64 6))
 (.ite (W.ge op (W.of .i64 43)) (.ite (W.le op (W.of .i64 50)) (.ret (W.of .i64 4))
 (.opt (F_crack_Serial op) fun r9=>
 .ite r9 (.ret (W.of .i64 7))
 (.ret (W.of .i64 1))))
 (.opt (F_crack_Serial op) fun r10=>
 .ite r10 (.ret (W.of .i64 7))
 (.ret (W.of .i64 1)))))
 (.ite (W.ge op (W.of .i64 43)) (.ite (W.le op (W.of .i64 50)) (.ret (W.of .i64 4))
 (.opt (F_crack_Serial op) fun r11=>
 .ite r11 (.ret (W.of .i64 7))
 (.ret (W.of .i64 1))))
 (.opt (F_crack_Serial op) fun r12=>
 .ite r12 (.ret (W.of .i64 7))
 (.ret (W.of .i64 1))))))
 (.ite (W.ge op (W.of .i64 40)) (.ite (W.le op (W.of .i64 42)) (.ret (W.of .i64 6))
 (.ite (W.ge op (W.of .i64 43)) (.ite (W.le op (W.of .i64 50)) (.ret (W.of .i64 4))
 (.opt (F_crack_Serial op) fun r13=>
 .ite r13 (.ret (W.of .i64 7))
 (.ret (W.of .i64 1))))
 (.opt (F_crack_Serial op) fun r14=>
 .ite r14 (.ret (W.of .i64 7))
 (.ret (W.of .i64 1)))))
 (.ite (W.ge op (W.of .i64 43)) (.ite (W.le op (W.of .i64 50)) (.ret (W.of .i64 4))
 (.opt (F_crack_Serial op) fun r15=>
 .ite r15 (.ret (W.of .i64 7))
 (.ret (W.of .i64 1))))
 (.opt (F_crack_Serial op) fun r16=>
 .ite r16 (.ret (W.of .i64 7))
 (.ret (W.of .i64 1))))))))
 (.ite (W.ge op (W.of .i64 14)) (.ite (W.le op (W.of .i64 17)) (.ret (W.of .i64 3))
 (.ite (W.ge op (W.of .i64 34)) (.ite (W.le op (W.of .i64 39)) (.ret (W.of .i64 5))
 (.ite (W.ge op (W.of .i64 40)) (.ite (W.le op (W.of .i64 42)) (.ret (W.of .i64 6))
 (.ite (W.ge op (W.of .i64 43)) (.ite (W.le op (W.of .i64 50)) (.ret (W.of .i64 4))
 (.opt (F_crack_Serial op) fun r17=>
 .ite r17 (.ret (W.of .i64 7))
 (.ret (W.of .i64 1))))
 (.opt (F_crack_Serial op) fun r18=>
 .ite r18 (.ret (W.of .i64 7))
 (.ret (W.of .i64 1)))))
 (.ite (W.ge op (W.of .i64 43)) (.ite (W.le op (W.of .i64 50)) (.ret (W.of .i64 4))
 (.opt (F_crack_Serial op) fun r19=>
 .ite r19 (.ret (W.of .i64 7))
 (.ret (W.of .i64 1))))
 (.opt (F_crack_Serial op) fun r20=>
 .ite r20 (.ret (W.of .i64 7))
 (.ret (W.of .i64 1))))))
 (.ite (W.ge op (W.of .i64 40)) (.ite (W.le op (W.of .i64 42)) (.ret (W.of .i64 6))
 (.ite (W.ge op (W.of .i64 43)) (.ite (W.le op (W.of .i64 50)) (.ret (W.of .i64 4))
 (.opt (F_crack_Serial op) fun r21=>
 .ite r21 (.ret (W.of .i64 7))
 (.ret (W.of .i64 1))))
 (.opt (F_crack_Serial op) fun r22=>
 .ite r22 (.ret (W.of .i64 7))
 (.ret (W.of .i64 1)))))
 (.ite (W.ge op (W.of .i64 43)) (.ite (W.le op (W.of .i64 50)) (.ret (W.of .i64 4))
 (.opt (F_crack_Serial op) fun r23=>
 .ite r23 (.ret (W.of .i64 7))
 (.ret (W.of .i64 1))))
 (.opt (F_crack_Serial op) fun r24=>
 .ite r24 (.ret (W.of .i64 7))
 (.ret (W.of .i64 1)))))))
 (.ite (W.ge op (W.of .i64 34)) (.ite (W.le op (W.of .i64 39)) (.ret (W.of .i64 5))
 (.ite (W.ge op (W.of .i64 40)) (.ite (W.le op (W.of .i64 42)) (.ret (W.of .i64 6))
 (.ite (W.ge op (W.of .i64 43)) (.ite (W.le op (W.of .i64 50)) (.ret (W.of .i64 4))
 (.opt (F_crack_Serial op) fun r25=>
 .ite r25 (.ret (W.of .i64 7))
 (.ret (W.of .i64 1))))
 (.opt (F_crack_Serial op) fun r26=>
 .ite r26 (.ret (W.of .i64 7))
 (.ret (W.of .i64 1)))))
 (.ite (W.ge op (W.of .i64 43)) (.ite (W.le op (W.of .i64 50)) (.ret (W.of .i64 4))
 (.opt (F_crack_Serial op) fun r27=>
 .ite r27 (.ret (W.of .i64 7))
 (.ret (W.of .i64 1))))
 (.opt (F_crack_Serial op) fun r28=>
 .ite r28 (.ret (W.of .i64 7))
 (.ret (W.of .i64 1))))))
 (.ite (W.ge op (W.of .i64 40)) (.ite (W.le op (W.of .i64 42)) (.ret (W.of .i64 6))
 (.ite (W.ge op (W.of .i64 43)) (.ite (W.le op (W.of .i64 50)) (.ret (W.of .i64 4))
 (.opt (F_crack_Serial op) fun r29=>
 .ite r29 (.ret (W.of .i64 7))
 (.ret (W.of .i64 1))))
 (.opt (F_crack_Serial op) fun r30=>
 .ite r30 (.ret (W.of .i64 7))
 (.ret (W.of .i64 1)))))
 (.ite (W.ge op (W.of .i64 43)) (.ite (W.le op (W.of .i64 50)) (.ret (W.of .i64 4))
 (.opt (F_crack_Serial op) fun r31=>
 .ite r31 (.ret (W.of .i64 7))
 (.ret (W.of .i64 1))))
 (.opt (F_crack_Serial op) fun r32=>
 .ite r32 (.ret (W.of .i64 7))
 (.ret (W.of .i64 1)))))))))
def F_crack_Unit (op:W .i64):Option (W .i64):=(T_crack_Unit op).eval
def T_crack_reg (r:W .i64):Tree (W .i64):=
 .ite (W.eq r (W.of .i64 0)) (.ret (W.of .i64 (-1)))
 (.ret r)
def F_crack_reg (r:W .i64):Option (W .i64):=(T_crack_reg r).eval
def T_crack_sources (i:TInst):Tree (Arr 3 (W .i64)):=
 .opt (F_crack_none) fun r1=>
 .opt (F_crack_Serial i.Op) fun r2=>
 .ite r2 (.ret r1)
 (.opt (F_inst_Form i.Op) fun r3=>
 .ite (W.eq r3 (W.of .i64 1)) (.opt (F_crack_reg i.Ra) fun r4=>
 .opt (F_crack_reg i.Rb) fun r5=>
 .ite (W.eq i.Op (W.of .i64 24)) (.opt (F_crack_reg i.Rd) fun r6=>
 .ret (Arr.set (Arr.set (Arr.set r1 0 r4) 1 r5) 2 r6))
 (.ret (Arr.set (Arr.set r1 0 r4) 1 r5)))
 (.ite (W.eq r3 (W.of .i64 3)) (.opt (F_crack_reg i.Ra) fun r7=>
 .opt (F_crack_reg i.Rb) fun r8=>
 .ite (W.eq i.Op (W.of .i64 24)) (.opt (F_crack_reg i.Rd) fun r9=>
 .ret (Arr.set (Arr.set (Arr.set r1 0 r7) 1 r8) 2 r9))
 (.ret (Arr.set (Arr.set r1 0 r7) 1 r8)))
 (.ite (W.eq r3 (W.of .i64 4)) (.opt (F_crack_reg i.Ra) fun r10=>
 .opt (F_crack_reg i.Rb) fun r11=>
 .ite (W.eq i.Op (W.of .i64 24)) (.opt (F_crack_reg i.Rd) fun r12=>
 .ret (Arr.set (Arr.set (Arr.set r1 0 r10) 1 r11) 2 r12))
 (.ret (Arr.set (Arr.set r1 0 r10) 1 r11)))
 (.ite (W.eq r3 (W.of .i64 2)) (.opt (F_crack_reg i.Ra) fun r13=>
 .ite (W.eq i.Op (W.of .i64 24)) (.opt (F_crack_reg i.Rd) fun r14=>
 .ret (Arr.set (Arr.set r1 0 r13) 2 r14))
 (.ret (Arr.set r1 0 r13)))
 (.ite (W.eq r3 (W.of .i64 11)) (.opt (F_crack_reg i.Ra) fun r15=>
 .ite (W.eq i.Op (W.of .i64 24)) (.opt (F_crack_reg i.Rd) fun r16=>
 .ret (Arr.set (Arr.set r1 0 r15) 2 r16))
 (.ret (Arr.set r1 0 r15)))
 (.ite (W.eq i.Op (W.of .i64 24)) (.opt (F_crack_reg i.Rd) fun r17=>
 .ret (Arr.set r1 2 r17))
 (.ret r1)))))))
def F_crack_sources (i:TInst):Option (Arr 3 (W .i64)):=(T_crack_sources i).eval
def T_crack_target (i:TInst):Tree (W .i64):=
 .opt (F_inst_Form i.Op) fun r1=>
 .ite (W.eq r1 (W.of .i64 1)) (.opt (F_crack_reg i.Rd) fun r2=>
 .ret r2)
 (.ite (W.eq r1 (W.of .i64 2)) (.opt (F_crack_reg i.Rd) fun r3=>
 .ret r3)
 (.ite (W.eq r1 (W.of .i64 5)) (.opt (F_crack_reg i.Rd) fun r4=>
 .ret r4)
 (.ite (W.eq r1 (W.of .i64 6)) (.opt (F_crack_reg i.Rd) fun r5=>
 .ret r5)
 (.ite (W.eq r1 (W.of .i64 7)) (.opt (F_crack_reg i.Rd) fun r6=>
 .ret r6)
 (.ite (W.eq r1 (W.of .i64 11)) (.opt (F_crack_reg i.Rd) fun r7=>
 .ret r7)
 (.ret (W.of .i64 (-1))))))))
def F_crack_target (i:TInst):Option (W .i64):=(T_crack_target i).eval
def T_crack_part (s:TSlot) (i:TInst) (n_2:W .i64) (last:Bool):Tree (TUop):=
 .opt (F_crack_Unit i.Op) fun r1=>
 .opt (F_crack_sources i) fun r2=>
 .opt (F_crack_target i) fun r3=>
 .ret (TUop.mk i s r1 n_2 last r2 r3 (W.of .i64 0) (W.of .u32 0))
def F_crack_part (s:TSlot) (i:TInst) (n_2:W .i64) (last:Bool):Option (TUop):=(T_crack_part s i n_2 last).eval
def T_crack_Uops (s:TSlot):Tree (Sl 168 (TUop)):=
 .ite (W.ne s.Cause (W.of .i64 0)) (.opt (F_crack_trap s s.Cause s.Tval) fun r1=>
 .ret r1)
 (.opt (F_inst_Dec s.Word) fun r2=>
 .ite (W.ne r2.2 (W.of .i64 0)) (.opt (F_crack_trap s (W.of .i64 2) s.Word) fun r3=>
 .ret r3)
 (.ite (W.ne r2.1.Op (W.of .i64 39)) (.opt (F_crack_part s r2.1 (W.of .i64 0) true) fun r4=>
 .ret (Sl.lit 168 [r4] rfl:Sl 168 (TUop)))
 (.ite (W.eq r2.1.Ra (W.of .i64 0)) (.opt (F_crack_part s (TInst.mk (W.of .i64 38) r2.1.Rd r2.1.Ra (W.of .i64 0) (W.of .i64 0)) (W.of .i64 0) true) fun r5=>
 .ret (Sl.lit 168 [r5] rfl:Sl 168 (TUop)))
 (.ite (W.eq r2.1.Ra r2.1.Rd) (.opt (F_crack_part s (TInst.mk (W.of .i64 38) r2.1.Rd r2.1.Ra (W.of .i64 0) (W.of .i64 0)) (W.of .i64 0) true) fun r6=>
 .ret (Sl.lit 168 [r6] rfl:Sl 168 (TUop)))
 (.opt (F_crack_part s (TInst.mk (W.of .i64 38) r2.1.Rd r2.1.Ra (W.of .i64 0) (W.of .i64 0)) (W.of .i64 0) false) fun r7=>
 .opt (F_crack_part s (TInst.mk (W.of .i64 25) r2.1.Ra r2.1.Ra (W.of .i64 0) r2.1.Imm) (W.of .i64 1) true) fun r8=>
 .ret (Sl.lit 168 [r7,r8] rfl:Sl 168 (TUop)))))))
def F_crack_Uops (s:TSlot):Option (Sl 168 (TUop)):=(T_crack_Uops s).eval
def T_place_waits (u:TUop):Tree (Bool):=
 .ret (W.ne u.Unit (W.of .i64 7))
def F_place_waits (u:TUop):Option (Bool):=(T_place_waits u).eval
def B_place_many_7 (n_5:W .i64) (t_8:Sl 168 (TUop)) (t_9 t_10:W .i64):Tree (Rnd (((Unit)×(Unit))×W .i64×Sl 168 (TUop)×W .i64×W .i64×Unit) (W .i64×Unit)):=
 .ite (W.lt t_10 t_9) (.opt (Sl.get? t_8 t_10) fun y1=>
 .opt (F_place_waits y1) fun r2=>
 .ite r2 (.ret (.next (((),()),(W.add n_5 (W.of .i64 1)),t_8,t_9,(W.add t_10 (W.of .i64 1)),())))
 (.ret (.next (((),()),n_5,t_8,t_9,(W.add t_10 (W.of .i64 1)),()))))
 (.ret (.out (n_5,())))
def L_place_many_7 (a:((Unit)×(Unit))×W .i64×Sl 168 (TUop)×W .i64×W .i64×Unit):Option (W .i64×Unit):=iter (fun a:((Unit)×(Unit))×W .i64×Sl 168 (TUop)×W .i64×W .i64×Unit=>(B_place_many_7 a.2.1 a.2.2.1 a.2.2.2.1 a.2.2.2.2.1).eval) fuel a
def T_place_many (l_0:Sl 168 (TUop)):Tree (W .i64):=
 .opt (L_place_many_7 ((((),()),(W.of .i64 0),l_0,(Sl.len l_0),(W.of .i64 0),()))) fun o3=>
 .ret o3.1
def F_place_many (l_0:Sl 168 (TUop)):Option (W .i64):=(T_place_many l_0).eval
def T_place_of (unit:W .i64):Tree (W .i64):=
 .ret unit
def F_place_of (unit:W .i64):Option (W .i64):=(T_place_of unit).eval
def T_place_of_1 (u:TUop) (a:W .i64):Tree (Bool):=
 .ret (W.eq u.Unit a)
def F_place_of_1 (u:TUop) (a:W .i64):Option (Bool):=(T_place_of_1 u a).eval
def B_place_many_v1_7 (soc0 n_5:W .i64) (t_8:Sl 168 (TUop)) (t_9 t_10:W .i64):Tree (Rnd (((Unit)×(W .i64×Unit))×W .i64×Sl 168 (TUop)×W .i64×W .i64×Unit) (W .i64×Unit)):=
 .ite (W.lt t_10 t_9) (.opt (Sl.get? t_8 t_10) fun y1=>
 .opt (F_place_of_1 y1 soc0) fun r2=>
 .ite r2 (.ret (.next (((),(soc0,())),(W.add n_5 (W.of .i64 1)),t_8,t_9,(W.add t_10 (W.of .i64 1)),())))
 (.ret (.next (((),(soc0,())),n_5,t_8,t_9,(W.add t_10 (W.of .i64 1)),()))))
 (.ret (.out (n_5,())))
def L_place_many_v1_7 (a:((Unit)×(W .i64×Unit))×W .i64×Sl 168 (TUop)×W .i64×W .i64×Unit):Option (W .i64×Unit):=iter (fun a:((Unit)×(W .i64×Unit))×W .i64×Sl 168 (TUop)×W .i64×W .i64×Unit=>(B_place_many_v1_7 a.1.2.1 a.2.1 a.2.2.1 a.2.2.2.1 a.2.2.2.2.1).eval) fuel a
def T_place_many_v1 (l_0:Sl 168 (TUop)) (soc0:W .i64):Tree (W .i64):=
 .opt (L_place_many_v1_7 ((((),(soc0,())),(W.of .i64 0),l_0,(Sl.len l_0),(W.of .i64 0),()))) fun o3=>
 .ret o3.1
def F_place_many_v1 (l_0:Sl 168 (TUop)) (soc0:W .i64):Option (W .i64):=(T_place_many_v1 l_0 soc0).eval
def T_place_writes (u:TUop):Tree (Bool):=
 .ite (W.gt u.Dst (W.of .i64 0)) (.ret (W.lt u.Dst (W.of .i64 16)))
 (.ret false)
def F_place_writes (u:TUop):Option (Bool):=(T_place_writes u).eval
def B_place_many_v2_7 (n_5:W .i64) (t_8:Sl 168 (TUop)) (t_9 t_10:W .i64):Tree (Rnd (((Unit)×(Unit))×W .i64×Sl 168 (TUop)×W .i64×W .i64×Unit) (W .i64×Unit)):=
 .ite (W.lt t_10 t_9) (.opt (Sl.get? t_8 t_10) fun y1=>
 .opt (F_place_writes y1) fun r2=>
 .ite r2 (.ret (.next (((),()),(W.add n_5 (W.of .i64 1)),t_8,t_9,(W.add t_10 (W.of .i64 1)),())))
 (.ret (.next (((),()),n_5,t_8,t_9,(W.add t_10 (W.of .i64 1)),()))))
 (.ret (.out (n_5,())))
def L_place_many_v2_7 (a:((Unit)×(Unit))×W .i64×Sl 168 (TUop)×W .i64×W .i64×Unit):Option (W .i64×Unit):=iter (fun a:((Unit)×(Unit))×W .i64×Sl 168 (TUop)×W .i64×W .i64×Unit=>(B_place_many_v2_7 a.2.1 a.2.2.1 a.2.2.2.1 a.2.2.2.2.1).eval) fuel a
def T_place_many_v2 (l_0:Sl 168 (TUop)):Tree (W .i64):=
 .opt (L_place_many_v2_7 ((((),()),(W.of .i64 0),l_0,(Sl.len l_0),(W.of .i64 0),()))) fun o3=>
 .ret o3.1
def F_place_many_v2 (l_0:Sl 168 (TUop)):Option (W .i64):=(T_place_many_v2 l_0).eval
def T_freel_ring_sound (f:TFree):Tree (Bool):=
 .ite (W.le (Sl.len f.Ring) (W.of .i64 96)) (.ite (W.ge f.Head (W.of .i64 0)) (.ite (W.lt f.Head (Sl.len f.Ring)) (.ite (W.ge f.N (W.of .i64 0)) (.ret (W.le f.N (Sl.len f.Ring)))
 (.ret false))
 (.ite (W.eq f.Head (W.of .i64 0)) (.ite (W.ge f.N (W.of .i64 0)) (.ret (W.le f.N (Sl.len f.Ring)))
 (.ret false))
 (.ret false)))
 (.ret false))
 (.ret false)
def F_freel_ring_sound (f:TFree):Option (Bool):=(T_freel_ring_sound f).eval
def T_freel_ring_at (f:TFree) (k:W .i64):Tree (W .i64):=
 .opt (W.rem? (W.add f.Head k) (Sl.len f.Ring)) fun z1=>
 .opt (W.rem? (W.add z1 (Sl.len f.Ring)) (Sl.len f.Ring)) fun z2=>
 .ret z2
def F_freel_ring_at (f:TFree) (k:W .i64):Option (W .i64):=(T_freel_ring_at f k).eval
def B_freel_List_15 (f placef0:TFree) (out:Sl 8 (W .i64)) (t_12 t_13:W .i64):Tree (Rnd (TFree×((TFree×Unit)×(Unit))×Sl 8 (W .i64)×W .i64×W .i64×Unit) (Sl 8 (W .i64)×Unit)):=
 .ite (W.lt t_13 t_12) (.opt (F_freel_ring_at placef0 t_13) fun r2=>
 .opt (Sl.get? f.Ring r2) fun y3=>
 .opt (Sl.app? out (Sl.lit 8 [y3] rfl:Sl 8 (W .i64))) fun l4=>
 .ret (.next (f,((placef0,()),()),l4,t_12,(W.add t_13 (W.of .i64 1)),())))
 (.ret (.out (out,())))
def L_freel_List_15 (a:TFree×((TFree×Unit)×(Unit))×Sl 8 (W .i64)×W .i64×W .i64×Unit):Option (Sl 8 (W .i64)×Unit):=iter (fun a:TFree×((TFree×Unit)×(Unit))×Sl 8 (W .i64)×W .i64×W .i64×Unit=>(B_freel_List_15 a.1 a.2.1.1.1 a.2.2.1 a.2.2.2.1 a.2.2.2.2.1).eval) fuel a
def T_freel_List (f:TFree):Tree (Sl 8 (W .i64)):=
 .opt (F_freel_ring_sound f) fun r1=>
 .ite (!r1) (.ret (Sl.nil:Sl 8 (W .i64)))
 (.opt (L_freel_List_15 ((f,((f,()),()),(Sl.nil:Sl 8 (W .i64)),f.N,(W.of .i64 0),()))) fun o5=>
 .ret o5.1)
def F_freel_List (f:TFree):Option (Sl 8 (W .i64)):=(T_freel_List f).eval
def T_place_Fits (c:TCore) (l_1:Sl 168 (TUop)):Tree (Bool):=
 .ite (W.le (W.add (Sl.len c.Rob) (Sl.len l_1)) c.Conf.Rob) (.opt (F_place_many l_1) fun r1=>
 .ite (W.le (W.add (Sl.len c.Iq) r1) c.Conf.Iq) (.opt (F_place_of (W.of .i64 5)) fun r2=>
 .opt (F_place_many_v1 l_1 r2) fun r3=>
 .ite (W.le (W.add (Sl.len c.Lq) r3) c.Conf.Lq) (.opt (F_place_of (W.of .i64 6)) fun r4=>
 .opt (F_place_many_v1 l_1 r4) fun r5=>
 .ite (W.le (W.add (Sl.len c.Sq) r5) c.Conf.Sq) (.opt (F_place_many_v2 l_1) fun r6=>
 .opt (F_freel_List c.Names.Free) fun r7=>
 .ret (W.le r6 (Sl.len r7)))
 (.ret false))
 (.ret false))
 (.ret false))
 (.ret false)
def F_place_Fits (c:TCore) (l_1:Sl 168 (TUop)):Option (Bool):=(T_place_Fits c l_1).eval
def T_rat_is (r:W .i64):Tree (Bool):=
 .ite (W.gt r (W.of .i64 0)) (.ret (W.lt r (W.of .i64 16)))
 (.ret false)
def F_rat_is (r:W .i64):Option (Bool):=(T_rat_is r).eval
def T_rat_Get (m:Arr 16 (W .i64)) (r:W .i64):Tree (W .i64):=
 .opt (F_rat_is r) fun r1=>
 .ite (!r1) (.ret (W.of .i64 (-1)))
 (.opt (idx? 16 r) fun j2=>
 .ret (Arr.get m j2))
def F_rat_Get (m:Arr 16 (W .i64)) (r:W .i64):Option (W .i64):=(T_rat_Get m r).eval
def T_rename_writes (u:TUop):Tree (Bool):=
 .ite (W.ge u.Dst (W.of .i64 1)) (.ret (W.lt u.Dst (W.of .i64 16)))
 (.ret false)
def F_rename_writes (u:TUop):Option (Bool):=(T_rename_writes u).eval
def T_freel_Take (f:TFree):Tree (TFree×W .i64×Bool):=
 .opt (F_freel_ring_sound f) fun r1=>
 .ite (!r1) (.ret (f,(W.of .i64 0),false))
 (.ite (W.eq f.N (W.of .i64 0)) (.ret (f,(W.of .i64 0),false))
 (.opt (F_freel_ring_at f (W.of .i64 0)) fun r2=>
 .opt (Sl.get? f.Ring r2) fun y3=>
 .opt (F_freel_ring_at f (W.of .i64 1)) fun r4=>
 .ret (({ f with Head:=r4,N:=(W.sub f.N (W.of .i64 1)) }:TFree),y3,true)))
def F_freel_Take (f:TFree):Option (TFree×W .i64×Bool):=(T_freel_Take f).eval
def T_rat_Set (m:Arr 16 (W .i64)) (r p:W .i64):Tree (Arr 16 (W .i64)):=
 .opt (F_rat_is r) fun r1=>
 .ite r1 (.opt (idx? 16 r) fun j2=>
 .ret (Arr.set m j2 p))
 (.ret m)
def F_rat_Set (m:Arr 16 (W .i64)) (r p:W .i64):Option (Arr 16 (W .i64)):=(T_rat_Set m r p).eval
def B_rename_One_7 (s:TNames) (u:TUop) (t_4:TNames) (t_5 r:TRen) (t_18:Arr 3 (W .i64)) (t_19:W .i64):Tree (Rnd (TNames×TUop×TNames×TRen×TRen×Arr 3 (W .i64)×W .i64×Unit) (TNames×TUop×TNames×TRen×TRen×Unit)):=
 .ite (W.lt t_19 (W.of .i64 3)) (.opt (idx? 3 t_19) fun j1=>
 .opt (F_rat_Get s.Map (Arr.get t_18 j1)) fun r2=>
 .opt (idx? 3 t_19) fun j3=>
 .ret (.next (s,u,t_4,t_5,({ r with In:=(Arr.set r.In j3 r2) }:TRen),t_18,(W.add t_19 (W.of .i64 1)),())))
 (.ret (.out (s,u,t_4,t_5,r,())))
def L_rename_One_7 (a:TNames×TUop×TNames×TRen×TRen×Arr 3 (W .i64)×W .i64×Unit):Option (TNames×TUop×TNames×TRen×TRen×Unit):=iter (fun a:TNames×TUop×TNames×TRen×TRen×Arr 3 (W .i64)×W .i64×Unit=>(B_rename_One_7 a.1 a.2.1 a.2.2.1 a.2.2.2.1 a.2.2.2.2.1 a.2.2.2.2.2.1 a.2.2.2.2.2.2.1).eval) fuel a
def T_rename_One (s:TNames) (u:TUop):Tree (TNames×TRen×Bool):=
 .opt (L_rename_One_7 ((s,u,(TNames.mk (Arr.rep 16 (W.of .i64 0):Arr 16 (W .i64)) (Arr.rep 16 (W.of .i64 0):Arr 16 (W .i64)) (TFree.mk (Sl.nil:Sl 8 (W .i64)) (W.of .i64 0) (W.of .i64 0)) (W.of .u64 0)),(TRen.mk (TUop.mk (TInst.mk (W.of .i64 0) (W.of .i64 0) (W.of .i64 0) (W.of .i64 0) (W.of .i64 0)) (TSlot.mk (W.of .u32 0) (W.of .u32 0) (W.of .i64 0) (W.of .u32 0) (TGuess.mk false (W.of .u32 0) (TSave.mk (W.of .u32 0) (W.of .i64 0) (W.of .u32 0)))) (W.of .i64 0) (W.of .i64 0) false (Arr.rep 3 (W.of .i64 0):Arr 3 (W .i64)) (W.of .i64 0) (W.of .i64 0) (W.of .u32 0)) (W.of .u64 0) (Arr.rep 3 (W.of .i64 0):Arr 3 (W .i64)) (W.of .i64 0) (W.of .i64 0)),(TRen.mk u s.Seq (Arr.rep 3 (W.of .i64 0):Arr 3 (W .i64)) (W.of .i64 (-1)) (W.of .i64 (-1))),u.Src,(W.of .i64 0),()))) fun o4=>
 .opt (F_rename_writes o4.2.1) fun r5=>
 .ite r5 (.opt (F_freel_Take o4.1.Free) fun r6=>
 .ite (!r6.2.2) (.ret (o4.1,(TRen.mk (TUop.mk (TInst.mk (W.of .i64 0) (W.of .i64 0) (W.of .i64 0) (W.of .i64 0) (W.of .i64 0)) (TSlot.mk (W.of .u32 0) (W.of .u32 0) (W.of .i64 0) (W.of .u32 0) (TGuess.mk false (W.of .u32 0) (TSave.mk (W.of .u32 0) (W.of .i64 0) (W.of .u32 0)))) (W.of .i64 0) (W.of .i64 0) false (Arr.rep 3 (W.of .i64 0):Arr 3 (W .i64)) (W.of .i64 0) (W.of .i64 0) (W.of .u32 0)) (W.of .u64 0) (Arr.rep 3 (W.of .i64 0):Arr 3 (W .i64)) (W.of .i64 0) (W.of .i64 0)),false))
 (.opt (F_rat_Get o4.1.Map o4.2.1.Dst) fun r7=>
 .opt (F_rat_Set o4.1.Map o4.2.1.Dst r6.2.1) fun r8=>
 .ret (({ o4.1 with Free:=r6.1,Map:=r8,Seq:=(W.add o4.1.Seq (W.of .u64 1)) }:TNames),({ o4.2.2.2.2.1 with Out:=r6.2.1,Old:=r7 }:TRen),true)))
 (.ret (({ o4.1 with Seq:=(W.add o4.1.Seq (W.of .u64 1)) }:TNames),o4.2.2.2.2.1,true))
def F_rename_One (s:TNames) (u:TUop):Option (TNames×TRen×Bool):=(T_rename_One s u).eval
def F_slices_Clone_Rob (s:Sl 248 (TRob)):Option (Sl 248 (TRob)):=some s
def T_rob_Put (l_0:Sl 248 (TRob)) (r:TRen) (most:W .i64):Tree (Sl 248 (TRob)×Bool):=
 .ite (W.ge (Sl.len l_0) most) (.ret ((Sl.nil:Sl 248 (TRob)),false))
 (.opt (F_slices_Clone_Rob l_0) fun r1=>
 .opt (Sl.app? r1 (Sl.lit 248 [(TRob.mk r false (W.of .u32 0) (W.of .u32 0) r.Uop.Cause r.Uop.Tval false)] rfl:Sl 248 (TRob))) fun l2=>
 .ret (l2,true))
def F_rob_Put (l_0:Sl 248 (TRob)) (r:TRen) (most:W .i64):Option (Sl 248 (TRob)×Bool):=(T_rob_Put l_0 r most).eval
def T_place_kept_Rob (was made:Sl 248 (TRob)) (ok:Bool):Tree (Sl 248 (TRob)):=
 .ite ok (.ret made)
 (.ret was)
def F_place_kept_Rob (was made:Sl 248 (TRob)) (ok:Bool):Option (Sl 248 (TRob)):=(T_place_kept_Rob was made ok).eval
def T_prf_Get (f:TPhys) (p:W .i64):Tree (W .u32×Bool):=
 .opt (F_prf_has f p) fun r1=>
 .ite (!r1) (.ret ((W.of .u32 0),true))
 (.opt (Sl.get? f.Ready p) fun y2=>
 .ite (!y2) (.ret ((W.of .u32 0),false))
 (.opt (Sl.get? f.Val p) fun y3=>
 .ret (y3,true)))
def F_prf_Get (f:TPhys) (p:W .i64):Option (W .u32×Bool):=(T_prf_Get f p).eval
def F_slices_Clone_Iq (s:Sl 224 (TIq)):Option (Sl 224 (TIq)):=some s
def T_iq_Put (l_0:Sl 224 (TIq)) (r:TRen) (ready:Arr 3 (Bool)) (most:W .i64):Tree (Sl 224 (TIq)×Bool):=
 .ite (W.ge (Sl.len l_0) most) (.ret ((Sl.nil:Sl 224 (TIq)),false))
 (.opt (F_slices_Clone_Iq l_0) fun r1=>
 .opt (Sl.app? r1 (Sl.lit 224 [(TIq.mk r ready)] rfl:Sl 224 (TIq))) fun l2=>
 .ret (l2,true))
def F_iq_Put (l_0:Sl 224 (TIq)) (r:TRen) (ready:Arr 3 (Bool)) (most:W .i64):Option (Sl 224 (TIq)×Bool):=(T_iq_Put l_0 r ready most).eval
def T_place_kept_Iq (was made:Sl 224 (TIq)) (ok:Bool):Tree (Sl 224 (TIq)):=
 .ite ok (.ret made)
 (.ret was)
def F_place_kept_Iq (was made:Sl 224 (TIq)) (ok:Bool):Option (Sl 224 (TIq)):=(T_place_kept_Iq was made ok).eval
def T_prf_Drop (f:TPhys) (p:W .i64):Tree (TPhys):=
 .opt (F_slices_Clone_uint32 f.Val) fun r1=>
 .opt (F_slices_Clone_bool f.Ready) fun r2=>
 .opt (F_prf_has f p) fun r3=>
 .ite r3 (.opt (idx? (List.length r2.l) p) fun j4=>
 .ret (TPhys.mk r1 (Sl.set r2 j4 false)))
 (.ret (TPhys.mk r1 r2))
def F_prf_Drop (f:TPhys) (p:W .i64):Option (TPhys):=(T_prf_Drop f p).eval
def F_slices_Clone_Lq (s:Sl 48 (TLq)):Option (Sl 48 (TLq)):=some s
def T_lq_Put (l_0:Sl 48 (TLq)) (seq:W .u64) (pc:W .u32) (most:W .i64):Tree (Sl 48 (TLq)×Bool):=
 .ite (W.ge (Sl.len l_0) most) (.ret ((Sl.nil:Sl 48 (TLq)),false))
 (.opt (F_slices_Clone_Lq l_0) fun r1=>
 .opt (Sl.app? r1 (Sl.lit 48 [(TLq.mk seq pc (W.of .u32 0) (W.of .i64 0) false false (W.of .u64 0) false)] rfl:Sl 48 (TLq))) fun l2=>
 .ret (l2,true))
def F_lq_Put (l_0:Sl 48 (TLq)) (seq:W .u64) (pc:W .u32) (most:W .i64):Option (Sl 48 (TLq)×Bool):=(T_lq_Put l_0 seq pc most).eval
def T_place_kept_Lq (was made:Sl 48 (TLq)) (ok:Bool):Tree (Sl 48 (TLq)):=
 .ite ok (.ret made)
 (.ret was)
def F_place_kept_Lq (was made:Sl 48 (TLq)) (ok:Bool):Option (Sl 48 (TLq)):=(T_place_kept_Lq was made ok).eval
def F_slices_Clone_Sq (s:Sl 32 (TSq)):Option (Sl 32 (TSq)):=some s
def T_sq_Put (l_0:Sl 32 (TSq)) (seq:W .u64) (most:W .i64):Tree (Sl 32 (TSq)×Bool):=
 .ite (W.ge (Sl.len l_0) most) (.ret ((Sl.nil:Sl 32 (TSq)),false))
 (.opt (F_slices_Clone_Sq l_0) fun r1=>
 .opt (Sl.app? r1 (Sl.lit 32 [(TSq.mk seq (W.of .u32 0) (W.of .u32 0) (W.of .i64 0) false)] rfl:Sl 32 (TSq))) fun l2=>
 .ret (l2,true))
def F_sq_Put (l_0:Sl 32 (TSq)) (seq:W .u64) (most:W .i64):Option (Sl 32 (TSq)×Bool):=(T_sq_Put l_0 seq most).eval
def T_place_kept_Sq (was made:Sl 32 (TSq)) (ok:Bool):Tree (Sl 32 (TSq)):=
 .ite ok (.ret made)
 (.ret was)
def F_place_kept_Sq (was made:Sl 32 (TSq)) (ok:Bool):Option (Sl 32 (TSq)):=(T_place_kept_Sq was made ok).eval
def B_place_put_19 (c:TCore) (u:TUop) (t_4:TCore) (t_5:TNote) (r:TRen) (k:TConf) (pc:W .u32) (ready:Arr 3 (Bool)) (t_55:Arr 3 (W .i64)) (t_56:W .i64):Tree (Rnd (TCore×TUop×TCore×TNote×TRen×TConf×W .u32×Arr 3 (Bool)×Arr 3 (W .i64)×W .i64×Unit) (TCore×TUop×TCore×TNote×TRen×TConf×W .u32×Arr 3 (Bool)×Unit)):=
 .ite (W.lt t_56 (W.of .i64 3)) (.opt (idx? 3 t_56) fun j5=>
 .opt (F_prf_Get c.Phys (Arr.get t_55 j5)) fun r6=>
 .opt (idx? 3 t_56) fun j7=>
 .ret (.next (c,u,t_4,t_5,r,k,pc,(Arr.set ready j7 r6.2),t_55,(W.add t_56 (W.of .i64 1)),())))
 (.ret (.out (c,u,t_4,t_5,r,k,pc,ready,())))
def L_place_put_19 (a:TCore×TUop×TCore×TNote×TRen×TConf×W .u32×Arr 3 (Bool)×Arr 3 (W .i64)×W .i64×Unit):Option (TCore×TUop×TCore×TNote×TRen×TConf×W .u32×Arr 3 (Bool)×Unit):=iter (fun a:TCore×TUop×TCore×TNote×TRen×TConf×W .u32×Arr 3 (Bool)×Arr 3 (W .i64)×W .i64×Unit=>(B_place_put_19 a.1 a.2.1 a.2.2.1 a.2.2.2.1 a.2.2.2.2.1 a.2.2.2.2.2.1 a.2.2.2.2.2.2.1 a.2.2.2.2.2.2.2.1 a.2.2.2.2.2.2.2.2.1 a.2.2.2.2.2.2.2.2.2.1).eval) fuel a
def T_place_put (c:TCore) (u:TUop):Tree (TCore×TNote):=
 .opt (F_rename_One c.Names u) fun r1=>
 .opt (F_rob_Put c.Rob r1.2.1 c.Conf.Rob) fun r2=>
 .opt (F_place_kept_Rob c.Rob r2.1 r2.2) fun r3=>
 .opt (F_place_waits u) fun r4=>
 .ite r4 (.opt (L_place_put_19 ((({ c with Names:=r1.1,Rob:=r3 }:TCore),u,(TCore.mk (TConf.mk (W.of .i64 0) (W.of .i64 0) (W.of .i64 0) (W.of .i64 0) (W.of .i64 0) (W.of .i64 0) (W.of .i64 0) (W.of .i64 0) (W.of .i64 0) (W.of .i64 0) (W.of .i64 0) (W.of .i64 0) (W.of .i64 0) (W.of .i64 0) (W.of .i64 0) (W.of .i64 0) (W.of .i64 0) (W.of .i64 0) (W.of .i64 0) (W.of .i64 0) (W.of .i64 0) false) (TArch.mk (W.of .u32 0) (Arr.rep 16 (W.of .u32 0):Arr 16 (W .u32)) (Arr.rep 12 (W.of .u32 0):Arr 12 (W .u32)) false) (Sl.nil:Sl 1 (W .u8)) (Sl.nil:Sl 4 (W .u32)) (W.of .u32 0) false (TPred.mk (W.of .u32 0) (Sl.nil:Sl 1 (W .u8)) (Sl.nil:Sl 16 (TBtb)) (W.of .i64 0) (Sl.nil:Sl 4 (W .u32)) (W.of .i64 0)) (Sl.nil:Sl 24 (TTlb)) (W.of .i64 0) (Sl.nil:Sl 56 (TSlot)) (TNames.mk (Arr.rep 16 (W.of .i64 0):Arr 16 (W .i64)) (Arr.rep 16 (W.of .i64 0):Arr 16 (W .i64)) (TFree.mk (Sl.nil:Sl 8 (W .i64)) (W.of .i64 0) (W.of .i64 0)) (W.of .u64 0)) (TPhys.mk (Sl.nil:Sl 4 (W .u32)) (Sl.nil:Sl 1 (Bool))) (Sl.nil:Sl 248 (TRob)) (Sl.nil:Sl 224 (TIq)) (Sl.nil:Sl 48 (TLq)) (Sl.nil:Sl 32 (TSq)) (Sl.nil:Sl 16 (TSb)) (Sl.nil:Sl 256 (TFlight)) (Sl.nil:Sl 1 (W .u8)) (W.of .i64 0) (W.of .i64 0)),(TNote.mk (W.of .i64 0) (W.of .i64 0) (W.of .u64 0) (W.of .u32 0)),r1.2.1,c.Conf,u.Slot.PC,(Arr.rep 3 false:Arr 3 (Bool)),r1.2.1.In,(W.of .i64 0),()))) fun o8=>
 .opt (F_iq_Put o8.1.Iq o8.2.2.2.2.1 o8.2.2.2.2.2.2.2.1 o8.2.2.2.2.2.1.Iq) fun r9=>
 .opt (F_place_kept_Iq o8.1.Iq r9.1 r9.2) fun r10=>
 .opt (F_prf_Drop o8.1.Phys o8.2.2.2.2.1.Out) fun r11=>
 .ite (W.eq o8.2.1.Unit (W.of .i64 5)) (.opt (F_lq_Put o8.1.Lq o8.2.2.2.2.1.Seq o8.2.2.2.2.2.2.1 o8.2.2.2.2.2.1.Lq) fun r12=>
 .opt (F_place_kept_Lq o8.1.Lq r12.1 r12.2) fun r13=>
 .ret (({ o8.1 with Iq:=r10,Phys:=r11,Lq:=r13 }:TCore),(TNote.mk o8.1.Cycle (W.of .i64 2) o8.2.2.2.2.1.Seq o8.2.2.2.2.2.2.1)))
 (.ite (W.eq o8.2.1.Unit (W.of .i64 6)) (.opt (F_sq_Put o8.1.Sq o8.2.2.2.2.1.Seq o8.2.2.2.2.2.1.Sq) fun r14=>
 .opt (F_place_kept_Sq o8.1.Sq r14.1 r14.2) fun r15=>
 .ret (({ o8.1 with Iq:=r10,Phys:=r11,Sq:=r15 }:TCore),(TNote.mk o8.1.Cycle (W.of .i64 2) o8.2.2.2.2.1.Seq o8.2.2.2.2.2.2.1)))
 (.ret (({ o8.1 with Iq:=r10,Phys:=r11 }:TCore),(TNote.mk o8.1.Cycle (W.of .i64 2) o8.2.2.2.2.1.Seq o8.2.2.2.2.2.2.1)))))
 (.opt (F_prf_Drop c.Phys r1.2.1.Out) fun r16=>
 .ite (W.eq u.Unit (W.of .i64 5)) (.opt (F_lq_Put c.Lq r1.2.1.Seq u.Slot.PC c.Conf.Lq) fun r17=>
 .opt (F_place_kept_Lq c.Lq r17.1 r17.2) fun r18=>
 .ret (({ c with Names:=r1.1,Rob:=r3,Phys:=r16,Lq:=r18 }:TCore),(TNote.mk c.Cycle (W.of .i64 2) r1.2.1.Seq u.Slot.PC)))
 (.ite (W.eq u.Unit (W.of .i64 6)) (.opt (F_sq_Put c.Sq r1.2.1.Seq c.Conf.Sq) fun r19=>
 .opt (F_place_kept_Sq c.Sq r19.1 r19.2) fun r20=>
 .ret (({ c with Names:=r1.1,Rob:=r3,Phys:=r16,Sq:=r20 }:TCore),(TNote.mk c.Cycle (W.of .i64 2) r1.2.1.Seq u.Slot.PC)))
 (.ret (({ c with Names:=r1.1,Rob:=r3,Phys:=r16 }:TCore),(TNote.mk c.Cycle (W.of .i64 2) r1.2.1.Seq u.Slot.PC)))))
def F_place_put (c:TCore) (u:TUop):Option (TCore×TNote):=(T_place_put c u).eval
def B_place_Stage_34 (c t_4:TCore) (notes:Sl 32 (TNote)) (t_20 t_21:W .i64) (t_40:Sl 168 (TUop)) (t_41 t_42:W .i64):Tree (Rnd (TCore×TCore×Sl 32 (TNote)×W .i64×W .i64×Sl 168 (TUop)×W .i64×W .i64×Unit) (TCore×TCore×Sl 32 (TNote)×W .i64×W .i64×Unit)):=
 .ite (W.lt t_42 t_41) (.opt (Sl.get? t_40 t_42) fun y5=>
 .opt (F_place_put c y5) fun r6=>
 .opt (Sl.app? notes (Sl.lit 32 [r6.2] rfl:Sl 32 (TNote))) fun l7=>
 .ret (.next (r6.1,t_4,l7,t_20,t_21,t_40,t_41,(W.add t_42 (W.of .i64 1)),())))
 (.ret (.out (c,t_4,notes,t_20,t_21,())))
def L_place_Stage_34 (a:TCore×TCore×Sl 32 (TNote)×W .i64×W .i64×Sl 168 (TUop)×W .i64×W .i64×Unit):Option (TCore×TCore×Sl 32 (TNote)×W .i64×W .i64×Unit):=iter (fun a:TCore×TCore×Sl 32 (TNote)×W .i64×W .i64×Sl 168 (TUop)×W .i64×W .i64×Unit=>(B_place_Stage_34 a.1 a.2.1 a.2.2.1 a.2.2.2.1 a.2.2.2.2.1 a.2.2.2.2.2.1 a.2.2.2.2.2.2.1 a.2.2.2.2.2.2.2.1).eval) fuel a
def B_place_Stage_13 (c t_4:TCore) (notes:Sl 32 (TNote)) (t_20 t_21:W .i64):Tree (Rnd (TCore×TCore×Sl 32 (TNote)×W .i64×W .i64×Unit) (TCore×TCore×Sl 32 (TNote)×Unit)):=
 .ite (W.lt t_21 t_20) (.ite (W.eq (Sl.len c.Queue) (W.of .i64 0)) (.ret (.out (c,t_4,notes,())))
 (.opt (Sl.get? c.Queue (W.of .i64 0)) fun y1=>
 .opt (F_crack_Uops y1) fun r2=>
 .opt (F_place_Fits c r2) fun r3=>
 .ite (!r3) (.ret (.out (c,t_4,notes,())))
 (.opt (Sl.sub? c.Queue 1 (List.length c.Queue.l)) fun l4=>
 .opt (L_place_Stage_34 ((({ c with Queue:=l4 }:TCore),t_4,notes,t_20,t_21,r2,(Sl.len r2),(W.of .i64 0),()))) fun o8=>
 .ret (.next (o8.1,o8.2.1,o8.2.2.1,o8.2.2.2.1,(W.add o8.2.2.2.2.1 (W.of .i64 1)),())))))
 (.ret (.out (c,t_4,notes,())))
def L_place_Stage_13 (a:TCore×TCore×Sl 32 (TNote)×W .i64×W .i64×Unit):Option (TCore×TCore×Sl 32 (TNote)×Unit):=iter (fun a:TCore×TCore×Sl 32 (TNote)×W .i64×W .i64×Unit=>(B_place_Stage_13 a.1 a.2.1 a.2.2.1 a.2.2.2.1 a.2.2.2.2.1).eval) fuel a
def T_place_Stage (c:TCore) (t:TTick):Tree (TCore×Sl 32 (TNote)):=
 .ite (W.ne (W.and t.Stall (W.of .u32 2)) (W.of .u32 0)) (.ret (c,(Sl.nil:Sl 32 (TNote))))
 (.opt (L_place_Stage_13 ((c,(TCore.mk (TConf.mk (W.of .i64 0) (W.of .i64 0) (W.of .i64 0) (W.of .i64 0) (W.of .i64 0) (W.of .i64 0) (W.of .i64 0) (W.of .i64 0) (W.of .i64 0) (W.of .i64 0) (W.of .i64 0) (W.of .i64 0) (W.of .i64 0) (W.of .i64 0) (W.of .i64 0) (W.of .i64 0) (W.of .i64 0) (W.of .i64 0) (W.of .i64 0) (W.of .i64 0) (W.of .i64 0) false) (TArch.mk (W.of .u32 0) (Arr.rep 16 (W.of .u32 0):Arr 16 (W .u32)) (Arr.rep 12 (W.of .u32 0):Arr 12 (W .u32)) false) (Sl.nil:Sl 1 (W .u8)) (Sl.nil:Sl 4 (W .u32)) (W.of .u32 0) false (TPred.mk (W.of .u32 0) (Sl.nil:Sl 1 (W .u8)) (Sl.nil:Sl 16 (TBtb)) (W.of .i64 0) (Sl.nil:Sl 4 (W .u32)) (W.of .i64 0)) (Sl.nil:Sl 24 (TTlb)) (W.of .i64 0) (Sl.nil:Sl 56 (TSlot)) (TNames.mk (Arr.rep 16 (W.of .i64 0):Arr 16 (W .i64)) (Arr.rep 16 (W.of .i64 0):Arr 16 (W .i64)) (TFree.mk (Sl.nil:Sl 8 (W .i64)) (W.of .i64 0) (W.of .i64 0)) (W.of .u64 0)) (TPhys.mk (Sl.nil:Sl 4 (W .u32)) (Sl.nil:Sl 1 (Bool))) (Sl.nil:Sl 248 (TRob)) (Sl.nil:Sl 224 (TIq)) (Sl.nil:Sl 48 (TLq)) (Sl.nil:Sl 32 (TSq)) (Sl.nil:Sl 16 (TSb)) (Sl.nil:Sl 256 (TFlight)) (Sl.nil:Sl 1 (W .u8)) (W.of .i64 0) (W.of .i64 0)),(Sl.nil:Sl 32 (TNote)),(W.min (W.max c.Conf.Wide (W.of .i64 0)) (W.of .i64 4)),(W.of .i64 0),()))) fun o9=>
 .ret (o9.1,o9.2.2.1))
def F_place_Stage (c:TCore) (t:TTick):Option (TCore×Sl 32 (TNote)):=(T_place_Stage c t).eval
def T_law45_awake :Tree (Bool):=
 .opt (F_inst_Enc (TInst.mk (W.of .i64 25) (W.of .i64 1) (W.of .i64 0) (W.of .i64 0) (W.of .i64 5))) fun r1=>
 .opt (F_inst_Enc (TInst.mk (W.of .i64 39) (W.of .i64 2) (W.of .i64 1) (W.of .i64 0) (W.of .i64 4))) fun r2=>
 .opt (F_step_New (TImage.mk (W.of .u32 0) (Sl.nil:Sl 32 (TSeg))) (W.of .i64 64)) fun r3=>
 .opt (F_core_Plain) fun r4=>
 .opt (F_core_New r4 r3.1) fun r5=>
 .ite (W.ne r3.2 (W.of .i64 0)) (.ret false)
 (.ite (W.ne r5.2 (W.of .i64 0)) (.ret false)
 (.opt (F_place_Stage ({ r5.1 with Queue:=(Sl.lit 56 [(TSlot.mk (W.of .u32 0) r1.1 (W.of .i64 0) (W.of .u32 0) (TGuess.mk false (W.of .u32 0) (TSave.mk (W.of .u32 0) (W.of .i64 0) (W.of .u32 0)))),(TSlot.mk (W.of .u32 4) r2.1 (W.of .i64 0) (W.of .u32 0) (TGuess.mk false (W.of .u32 0) (TSave.mk (W.of .u32 0) (W.of .i64 0) (W.of .u32 0))))] rfl:Sl 56 (TSlot)) }:TCore) (TTick.mk (W.of .u32 0) (W.of .u32 0) (W.of .i64 0) false (W.of .i64 0))) fun r6=>
 .ite (W.eq (Sl.len r6.1.Rob) (W.of .i64 3)) (.ite (W.eq (Sl.len r6.1.Iq) (W.of .i64 3)) (.ite (W.eq (Sl.len r6.1.Lq) (W.of .i64 1)) (.ite (W.eq (Sl.len r6.1.Queue) (W.of .i64 0)) (.ite (W.eq (Sl.len r6.2) (W.of .i64 3)) (.opt (Sl.get? r6.1.Rob (W.of .i64 1)) fun y7=>
 .ite (W.eq (Arr.get y7.Ren.In 0) (W.of .i64 16)) (.opt (Sl.get? (Sl.lit 56 [(TSlot.mk (W.of .u32 0) r1.1 (W.of .i64 0) (W.of .u32 0) (TGuess.mk false (W.of .u32 0) (TSave.mk (W.of .u32 0) (W.of .i64 0) (W.of .u32 0)))),(TSlot.mk (W.of .u32 4) r2.1 (W.of .i64 0) (W.of .u32 0) (TGuess.mk false (W.of .u32 0) (TSave.mk (W.of .u32 0) (W.of .i64 0) (W.of .u32 0))))] rfl:Sl 56 (TSlot)) (W.of .i64 1)) fun y8=>
 .opt (F_crack_Uops y8) fun r9=>
 .opt (F_place_Fits ({ r5.1 with Queue:=(Sl.lit 56 [(TSlot.mk (W.of .u32 0) r1.1 (W.of .i64 0) (W.of .u32 0) (TGuess.mk false (W.of .u32 0) (TSave.mk (W.of .u32 0) (W.of .i64 0) (W.of .u32 0)))),(TSlot.mk (W.of .u32 4) r2.1 (W.of .i64 0) (W.of .u32 0) (TGuess.mk false (W.of .u32 0) (TSave.mk (W.of .u32 0) (W.of .i64 0) (W.of .u32 0))))] rfl:Sl 56 (TSlot)) }:TCore) r9) fun r10=>
 .ret r10)
 (.ret false))
 (.ret false))
 (.ret false))
 (.ret false))
 (.ret false))
 (.ret false)))
def F_law45_awake :Option (Bool):=(T_law45_awake).eval
def T_core_rooms (c:TCore):Tree (Bool):=
 .opt (F_core_Conf c.Conf) fun r1=>
 .ite (W.ne r1 (W.of .i64 0)) (.ret false)
 (.ite (W.gt (Sl.len c.Queue) c.Conf.Queue) (.ret false)
 (.ite (W.gt (Sl.len c.Rob) c.Conf.Rob) (.ret false)
 (.ite (W.gt (Sl.len c.Iq) c.Conf.Iq) (.ret false)
 (.ite (W.gt (Sl.len c.Lq) c.Conf.Lq) (.ret false)
 (.ite (W.gt (Sl.len c.Sq) c.Conf.Sq) (.ret false)
 (.ite (W.gt (Sl.len c.Sb) c.Conf.Sb) (.ret false)
 (.ite (W.eq (Sl.len c.Phys.Val) c.Conf.Phys) (.ite (W.eq (Sl.len c.Phys.Ready) c.Conf.Phys) (.ite (W.eq (Sl.len c.Tlb) c.Conf.Tlb) (.ret (W.eq (Sl.len c.Dep) c.Conf.Dep))
 (.ret false))
 (.ret false))
 (.ret false))))))))
def F_core_rooms (c:TCore):Option (Bool):=(T_core_rooms c).eval
def B_core_queued_5 (c:TCore) (iq units:Sl 216 (TRen)) (t_9:Sl 224 (TIq)) (t_10 t_11:W .i64):Tree (Rnd (TCore×Sl 216 (TRen)×Sl 216 (TRen)×Sl 224 (TIq)×W .i64×W .i64×Unit) (TCore×Sl 216 (TRen)×Sl 216 (TRen)×Unit)):=
 .ite (W.lt t_11 t_10) (.opt (Sl.get? t_9 t_11) fun y1=>
 .opt (Sl.app? iq (Sl.lit 216 [y1.Ren] rfl:Sl 216 (TRen))) fun l2=>
 .ret (.next (c,l2,units,t_9,t_10,(W.add t_11 (W.of .i64 1)),())))
 (.ret (.out (c,iq,units,())))
def L_core_queued_5 (a:TCore×Sl 216 (TRen)×Sl 216 (TRen)×Sl 224 (TIq)×W .i64×W .i64×Unit):Option (TCore×Sl 216 (TRen)×Sl 216 (TRen)×Unit):=iter (fun a:TCore×Sl 216 (TRen)×Sl 216 (TRen)×Sl 224 (TIq)×W .i64×W .i64×Unit=>(B_core_queued_5 a.1 a.2.1 a.2.2.1 a.2.2.2.1 a.2.2.2.2.1 a.2.2.2.2.2.1).eval) fuel a
def B_core_queued_20 (iq units:Sl 216 (TRen)) (t_22:Sl 256 (TFlight)) (t_23 t_24:W .i64):Tree (Rnd (Sl 216 (TRen)×Sl 216 (TRen)×Sl 256 (TFlight)×W .i64×W .i64×Unit) (Sl 216 (TRen)×Sl 216 (TRen)×Unit)):=
 .ite (W.lt t_24 t_23) (.opt (Sl.get? t_22 t_24) fun y4=>
 .opt (Sl.app? units (Sl.lit 216 [y4.Ren] rfl:Sl 216 (TRen))) fun l5=>
 .ret (.next (iq,l5,t_22,t_23,(W.add t_24 (W.of .i64 1)),())))
 (.ret (.out (iq,units,())))
def L_core_queued_20 (a:Sl 216 (TRen)×Sl 216 (TRen)×Sl 256 (TFlight)×W .i64×W .i64×Unit):Option (Sl 216 (TRen)×Sl 216 (TRen)×Unit):=iter (fun a:Sl 216 (TRen)×Sl 216 (TRen)×Sl 256 (TFlight)×W .i64×W .i64×Unit=>(B_core_queued_20 a.1 a.2.1 a.2.2.1 a.2.2.2.1 a.2.2.2.2.1).eval) fuel a
def T_core_queued (c:TCore):Tree (Sl 216 (TRen)×Sl 216 (TRen)):=
 .opt (L_core_queued_5 ((c,(Sl.nil:Sl 216 (TRen)),(Sl.nil:Sl 216 (TRen)),c.Iq,(Sl.len c.Iq),(W.of .i64 0),()))) fun o3=>
 .opt (L_core_queued_20 ((o3.2.1,o3.2.2.1,o3.1.Units,(Sl.len o3.1.Units),(W.of .i64 0),()))) fun o6=>
 .ret (o6.1,o6.2.1)
def F_core_queued (c:TCore):Option (Sl 216 (TRen)×Sl 216 (TRen)):=(T_core_queued c).eval
def B_rob_Right_7 (last:W .u64) (part:W .i64) (t_7:Sl 248 (TRob)) (t_8 t_9:W .i64):Tree (Rnd (W .u64×W .i64×Sl 248 (TRob)×W .i64×W .i64×Unit) ((Bool×W .i64×Unit)⊕(Unit×W .i64×Unit))):=
 .ite (W.lt t_9 t_8) (.opt (Sl.get? t_7 t_9) fun y1=>
 .ite (W.le y1.Ren.Seq last) (.ret (.out (.inl (false,part,()))))
 (.ite (W.ne y1.Ren.Uop.Part part) (.ret (.out (.inl (false,part,()))))
 (.ite y1.Ren.Uop.Last (.ret (.next (y1.Ren.Seq,(W.of .i64 0),t_7,t_8,(W.add t_9 (W.of .i64 1)),())))
 (.ret (.next (y1.Ren.Seq,(W.add part (W.of .i64 1)),t_7,t_8,(W.add t_9 (W.of .i64 1)),()))))))
 (.ret (.out (.inr ((),part,()))))
def L_rob_Right_7 (a:W .u64×W .i64×Sl 248 (TRob)×W .i64×W .i64×Unit):Option ((Bool×W .i64×Unit)⊕(Unit×W .i64×Unit)):=iter (fun a:W .u64×W .i64×Sl 248 (TRob)×W .i64×W .i64×Unit=>(B_rob_Right_7 a.1 a.2.1 a.2.2.1 a.2.2.2.1 a.2.2.2.2.1).eval) fuel a
def T_rob_Right (l_0:Sl 248 (TRob)):Tree (Bool):=
 .opt (L_rob_Right_7 (((W.of .u64 0),(W.of .i64 0),l_0,(Sl.len l_0),(W.of .i64 0),()))) fun o2=>
 .sum o2 (fun p3=>
 .ret p3.1)
 (fun o4=>
 .ret (W.eq o4.2.1 (W.of .i64 0)))
def F_rob_Right (l_0:Sl 248 (TRob)):Option (Bool):=(T_rob_Right l_0).eval
def T_core_ordered (c:TCore):Tree (Bool):=
 .opt (F_rob_Right c.Rob) fun r1=>
 .ite r1 (.ite (W.eq (Sl.len c.Rob) (W.of .i64 0)) (.ret true)
 (.opt (Sl.get? c.Rob (W.sub (Sl.len c.Rob) (W.of .i64 1))) fun y2=>
 .ret (W.lt y2.Ren.Seq c.Names.Seq)))
 (.ret false)
def F_core_ordered (c:TCore):Option (Bool):=(T_core_ordered c).eval
def B_core_rens_7 (l_3:Sl 216 (TRen)) (t_7:Sl 248 (TRob)) (t_8 t_9:W .i64):Tree (Rnd (Sl 216 (TRen)×Sl 248 (TRob)×W .i64×W .i64×Unit) (Sl 216 (TRen)×Unit)):=
 .ite (W.lt t_9 t_8) (.opt (Sl.get? t_7 t_9) fun y1=>
 .opt (Sl.app? l_3 (Sl.lit 216 [y1.Ren] rfl:Sl 216 (TRen))) fun l2=>
 .ret (.next (l2,t_7,t_8,(W.add t_9 (W.of .i64 1)),())))
 (.ret (.out (l_3,())))
def L_core_rens_7 (a:Sl 216 (TRen)×Sl 248 (TRob)×W .i64×W .i64×Unit):Option (Sl 216 (TRen)×Unit):=iter (fun a:Sl 216 (TRen)×Sl 248 (TRob)×W .i64×W .i64×Unit=>(B_core_rens_7 a.1 a.2.1 a.2.2.1 a.2.2.2.1).eval) fuel a
def T_core_rens (c:TCore):Tree (Sl 216 (TRen)):=
 .opt (L_core_rens_7 (((Sl.nil:Sl 216 (TRen)),c.Rob,(Sl.len c.Rob),(W.of .i64 0),()))) fun o3=>
 .ret o3.1
def F_core_rens (c:TCore):Option (Sl 216 (TRen)):=(T_core_rens c).eval
def B_rat_Right_20 (n_1:W .i64) (m:Arr 16 (W .i64)) (r q:W .i64):Tree (Rnd (W .i64×Arr 16 (W .i64)×W .i64×W .i64×Unit) ((W .i64×Arr 16 (W .i64)×Bool×W .i64×Unit)⊕(W .i64×Arr 16 (W .i64)×Unit×W .i64×Unit))):=
 .ite (W.lt q r) (.opt (idx? 16 q) fun j1=>
 .opt (idx? 16 r) fun j2=>
 .ite (W.eq (Arr.get m j1) (Arr.get m j2)) (.ret (.out (.inl (n_1,m,false,r,()))))
 (.ret (.next (n_1,m,r,(W.add q (W.of .i64 1)),()))))
 (.ret (.out (.inr (n_1,m,(),r,()))))
def L_rat_Right_20 (a:W .i64×Arr 16 (W .i64)×W .i64×W .i64×Unit):Option ((W .i64×Arr 16 (W .i64)×Bool×W .i64×Unit)⊕(W .i64×Arr 16 (W .i64)×Unit×W .i64×Unit)):=iter (fun a:W .i64×Arr 16 (W .i64)×W .i64×W .i64×Unit=>(B_rat_Right_20 a.1 a.2.1 a.2.2.1 a.2.2.2.1).eval) fuel a
def B_rat_Right_11 (n_1:W .i64) (m:Arr 16 (W .i64)) (r:W .i64):Tree (Rnd (W .i64×Arr 16 (W .i64)×W .i64×Unit) ((Bool×Unit)⊕(Unit×Unit))):=
 .ite (W.lt r (W.of .i64 16)) (.opt (L_rat_Right_20 ((n_1,m,r,(W.of .i64 1),()))) fun o3=>
 .sum o3 (fun p4=>
 .ret (.out (.inl (p4.2.2.1,()))))
 (fun o5=>
 .opt (idx? 16 o5.2.2.2.1) fun j6=>
 .ite (W.lt (Arr.get o5.2.1 j6) (W.of .i64 1)) (.ret (.out (.inl (false,()))))
 (.opt (idx? 16 o5.2.2.2.1) fun j7=>
 .ite (W.ge (Arr.get o5.2.1 j7) o5.1) (.ret (.out (.inl (false,()))))
 (.ret (.next (o5.1,o5.2.1,(W.add o5.2.2.2.1 (W.of .i64 1)),()))))))
 (.ret (.out (.inr ((),()))))
def L_rat_Right_11 (a:W .i64×Arr 16 (W .i64)×W .i64×Unit):Option ((Bool×Unit)⊕(Unit×Unit)):=iter (fun a:W .i64×Arr 16 (W .i64)×W .i64×Unit=>(B_rat_Right_11 a.1 a.2.1 a.2.2.1).eval) fuel a
def T_rat_Right (m:Arr 16 (W .i64)) (n_1:W .i64):Tree (Bool):=
 .ite (W.ne (Arr.get m 0) (W.of .i64 (-1))) (.ret false)
 (.opt (L_rat_Right_11 ((n_1,m,(W.of .i64 1),()))) fun o8=>
 .sum o8 (fun p9=>
 .ret p9.1)
 (fun o10=>
 .ret true))
def F_rat_Right (m:Arr 16 (W .i64)) (n_1:W .i64):Option (Bool):=(T_rat_Right m n_1).eval
def B_freel_Right_13 (n_1:W .i64) (seen:Arr 96 (Bool)) (t_19:Sl 8 (W .i64)) (t_20 t_21:W .i64):Tree (Rnd (W .i64×Arr 96 (Bool)×Sl 8 (W .i64)×W .i64×W .i64×Unit) ((Bool×Unit)⊕(Unit×Unit))):=
 .ite (W.lt t_21 t_20) (.opt (Sl.get? t_19 t_21) fun y3=>
 .ite (W.lt y3 (W.of .i64 0)) (.ret (.out (.inl (false,()))))
 (.ite (W.ge y3 n_1) (.ret (.out (.inl (false,()))))
 (.opt (idx? 96 y3) fun j4=>
 .ite (Arr.get seen j4) (.ret (.out (.inl (false,()))))
 (.opt (idx? 96 y3) fun j5=>
 .ret (.next (n_1,(Arr.set seen j5 true),t_19,t_20,(W.add t_21 (W.of .i64 1)),()))))))
 (.ret (.out (.inr ((),()))))
def L_freel_Right_13 (a:W .i64×Arr 96 (Bool)×Sl 8 (W .i64)×W .i64×W .i64×Unit):Option ((Bool×Unit)⊕(Unit×Unit)):=iter (fun a:W .i64×Arr 96 (Bool)×Sl 8 (W .i64)×W .i64×W .i64×Unit=>(B_freel_Right_13 a.1 a.2.1 a.2.2.1 a.2.2.2.1 a.2.2.2.2.1).eval) fuel a
def T_freel_Right (f:TFree) (n_1:W .i64):Tree (Bool):=
 .opt (F_freel_ring_sound f) fun r1=>
 .ite (!r1) (.ret false)
 (.ite (W.ne (Sl.len f.Ring) n_1) (.ret false)
 (.opt (F_freel_List f) fun r2=>
 .opt (L_freel_Right_13 ((n_1,(Arr.rep 96 false:Arr 96 (Bool)),r2,(Sl.len r2),(W.of .i64 0),()))) fun o6=>
 .sum o6 (fun p7=>
 .ret p7.1)
 (fun o8=>
 .ret true)))
def F_freel_Right (f:TFree) (n_1:W .i64):Option (Bool):=(T_freel_Right f n_1).eval
def T_rename_Right_1 (p a:W .i64) (a_2:Bool) (a_3:Arr 96 (W .i64)):Tree (W .i64×Bool×Arr 96 (W .i64)):=
 .ite (W.lt p (W.of .i64 1)) (.ret (a,true,a_3))
 (.ite (W.ge p a) (.ret (a,true,a_3))
 (.opt (idx? 96 p) fun j1=>
 .opt (idx? 96 p) fun j2=>
 .ret (a,a_2,(Arr.set a_3 j2 (W.add (Arr.get a_3 j1) (W.of .i64 1))))))
def F_rename_Right_1 (p a:W .i64) (a_2:Bool) (a_3:Arr 96 (W .i64)):Option (W .i64×Bool×Arr 96 (W .i64)):=(T_rename_Right_1 p a a_2 a_3).eval
def B_rename_steps_7 (s:TNames) (m:Arr 16 (W .i64)) (last:W .u64) (t_11:Sl 216 (TRen)) (t_12 t_13:W .i64):Tree (Rnd (TNames×Arr 16 (W .i64)×W .u64×Sl 216 (TRen)×W .i64×W .i64×Unit) ((TNames×Bool×Arr 16 (W .i64)×Unit)⊕(TNames×Unit×Arr 16 (W .i64)×Unit))):=
 .ite (W.lt t_13 t_12) (.opt (Sl.get? t_11 t_13) fun y1=>
 .ite (W.le y1.Seq last) (.ret (.out (.inl (s,false,m,()))))
 (.ite (W.ge y1.Seq s.Seq) (.ret (.out (.inl (s,false,m,()))))
 (.opt (F_rename_writes y1.Uop) fun r2=>
 .ite (!r2) (.ite (W.ne y1.Out (W.of .i64 (-1))) (.ret (.out (.inl (s,false,m,()))))
 (.ite (W.ne y1.Old (W.of .i64 (-1))) (.ret (.out (.inl (s,false,m,()))))
 (.ret (.next (s,m,y1.Seq,t_11,t_12,(W.add t_13 (W.of .i64 1)),())))))
 (.ite (W.eq y1.Out (W.of .i64 (-1))) (.ret (.out (.inl (s,false,m,()))))
 (.opt (F_rat_Get m y1.Uop.Dst) fun r3=>
 .ite (W.ne y1.Old r3) (.ret (.out (.inl (s,false,m,()))))
 (.opt (F_rat_Set m y1.Uop.Dst y1.Out) fun r4=>
 .ret (.next (s,r4,y1.Seq,t_11,t_12,(W.add t_13 (W.of .i64 1)),()))))))))
 (.ret (.out (.inr (s,(),m,()))))
def L_rename_steps_7 (a:TNames×Arr 16 (W .i64)×W .u64×Sl 216 (TRen)×W .i64×W .i64×Unit):Option ((TNames×Bool×Arr 16 (W .i64)×Unit)⊕(TNames×Unit×Arr 16 (W .i64)×Unit)):=iter (fun a:TNames×Arr 16 (W .i64)×W .u64×Sl 216 (TRen)×W .i64×W .i64×Unit=>(B_rename_steps_7 a.1 a.2.1 a.2.2.1 a.2.2.2.1 a.2.2.2.2.1 a.2.2.2.2.2.1).eval) fuel a
def T_rename_steps (s:TNames) (flying:Sl 216 (TRen)):Tree (Bool):=
 .opt (L_rename_steps_7 ((s,s.Done,(W.of .u64 0),flying,(Sl.len flying),(W.of .i64 0),()))) fun o5=>
 .sum o5 (fun p6=>
 .ret p6.2.1)
 (fun o7=>
 .ret (Tab.eq tab (.arr 16 (.int .i64)) o7.2.2.1 o7.1.Map))
def F_rename_steps (s:TNames) (flying:Sl 216 (TRen)):Option (Bool):=(T_rename_steps s flying).eval
def B_rename_Right_2_3 (t_0:Sl 216 (TRen)) (t_2:W .i64) (t_3:Bool) (t_4:Arr 96 (W .i64)) (t_5:Bool) (i:W .i64):Tree (Rnd (Sl 216 (TRen)×((Unit)×(Unit×Unit×Unit×Unit))×W .i64×Bool×Arr 96 (W .i64)×Bool×W .i64×Unit) (Sl 216 (TRen)×W .i64×Bool×Arr 96 (W .i64)×Bool×Unit)):=
 .ite (W.ge i (W.of .i64 0)) (.opt (Sl.get? t_0 i) fun y1=>
 .ite (W.ne y1.Out (W.of .i64 (-1))) (.opt (Sl.get? t_0 i) fun y2=>
 .opt (F_rename_Right_1 y2.Out t_2 t_5 t_4) fun r3=>
 .ret (.next (t_0,((),((),(),(),())),r3.1,t_3,r3.2.2,r3.2.1,(W.sub i (W.of .i64 1)),())))
 (.ret (.next (t_0,((),((),(),(),())),t_2,t_3,t_4,t_5,(W.sub i (W.of .i64 1)),()))))
 (.ret (.out (t_0,t_2,t_3,t_4,t_5,())))
def L_rename_Right_2_3 (a:Sl 216 (TRen)×((Unit)×(Unit×Unit×Unit×Unit))×W .i64×Bool×Arr 96 (W .i64)×Bool×W .i64×Unit):Option (Sl 216 (TRen)×W .i64×Bool×Arr 96 (W .i64)×Bool×Unit):=iter (fun a:Sl 216 (TRen)×((Unit)×(Unit×Unit×Unit×Unit))×W .i64×Bool×Arr 96 (W .i64)×Bool×W .i64×Unit=>(B_rename_Right_2_3 a.1 a.2.2.1 a.2.2.2.1 a.2.2.2.2.1 a.2.2.2.2.2.1 a.2.2.2.2.2.2.1).eval) fuel a
def B_rename_Right_2_18 (t_0:Sl 216 (TRen)) (t_2:W .i64) (t_3:Bool) (t_4:Arr 96 (W .i64)) (t_5:Bool) (p:W .i64):Tree (Rnd (Sl 216 (TRen)×W .i64×Bool×Arr 96 (W .i64)×Bool×W .i64×Unit) (Sl 216 (TRen)×W .i64×Bool×Arr 96 (W .i64)×Bool×Unit)):=
 .ite (W.lt p t_2) (.ite t_3 (.opt (idx? 96 p) fun j5=>
 .ret (.next (t_0,t_2,(W.eq (Arr.get t_4 j5) (W.of .i64 1)),t_4,t_5,(W.add p (W.of .i64 1)),())))
 (.ret (.next (t_0,t_2,false,t_4,t_5,(W.add p (W.of .i64 1)),()))))
 (.ret (.out (t_0,t_2,t_3,t_4,t_5,())))
def L_rename_Right_2_18 (a:Sl 216 (TRen)×W .i64×Bool×Arr 96 (W .i64)×Bool×W .i64×Unit):Option (Sl 216 (TRen)×W .i64×Bool×Arr 96 (W .i64)×Bool×Unit):=iter (fun a:Sl 216 (TRen)×W .i64×Bool×Arr 96 (W .i64)×Bool×W .i64×Unit=>(B_rename_Right_2_18 a.1 a.2.1 a.2.2.1 a.2.2.2.1 a.2.2.2.2.1 a.2.2.2.2.2.1).eval) fuel a
def T_rename_Right_2 (a:Sl 216 (TRen)) (a_2:W .i64) (a_3:Bool) (a_4:Arr 96 (W .i64)) (a_5:Bool):Tree (Sl 216 (TRen)×W .i64×Bool×Arr 96 (W .i64)×Bool):=
 .opt (L_rename_Right_2_3 ((a,((),((),(),(),())),a_2,a_3,a_4,a_5,(W.sub (Sl.len a) (W.of .i64 1)),()))) fun o4=>
 .opt (L_rename_Right_2_18 ((o4.1,o4.2.1,o4.2.2.1,o4.2.2.2.1,o4.2.2.2.2.1,(W.of .i64 1),()))) fun o6=>
 .ite o6.2.2.1 (.ret (o6.1,o6.2.1,(!o6.2.2.2.2.1),o6.2.2.2.1,o6.2.2.2.2.1))
 (.ret (o6.1,o6.2.1,false,o6.2.2.2.1,o6.2.2.2.2.1))
def F_rename_Right_2 (a:Sl 216 (TRen)) (a_2:W .i64) (a_3:Bool) (a_4:Arr 96 (W .i64)) (a_5:Bool):Option (Sl 216 (TRen)×W .i64×Bool×Arr 96 (W .i64)×Bool):=(T_rename_Right_2 a a_2 a_3 a_4 a_5).eval
def B_rename_Right_19 (s:TNames) (n_4:W .i64) (flying:Sl 216 (TRen)) (ok:Bool) (times:Arr 96 (W .i64)) (strange:Bool) (t_44:Sl 8 (W .i64)) (t_45 t_46:W .i64):Tree (Rnd (TNames×W .i64×Sl 216 (TRen)×Bool×Arr 96 (W .i64)×Bool×((Unit)×(Unit×Unit×Unit×Unit))×((Unit)×(Unit×((Unit)×(Unit×Unit×Unit×Unit))×Unit×Unit×Unit×Unit×Unit))×Sl 8 (W .i64)×W .i64×W .i64×Unit) (TNames×W .i64×Sl 216 (TRen)×Bool×Arr 96 (W .i64)×Bool×((Unit)×(Unit×Unit×Unit×Unit))×((Unit)×(Unit×((Unit)×(Unit×Unit×Unit×Unit))×Unit×Unit×Unit×Unit×Unit))×Unit)):=
 .ite (W.lt t_46 t_45) (.opt (Sl.get? t_44 t_46) fun y5=>
 .opt (F_rename_Right_1 y5 n_4 strange times) fun r6=>
 .ret (.next (s,r6.1,flying,ok,r6.2.2,r6.2.1,((),((),(),(),())),((),((),((),((),(),(),())),(),(),(),(),())),t_44,t_45,(W.add t_46 (W.of .i64 1)),())))
 (.ret (.out (s,n_4,flying,ok,times,strange,((),((),(),(),())),((),((),((),((),(),(),())),(),(),(),(),())),())))
def L_rename_Right_19 (a:TNames×W .i64×Sl 216 (TRen)×Bool×Arr 96 (W .i64)×Bool×((Unit)×(Unit×Unit×Unit×Unit))×((Unit)×(Unit×((Unit)×(Unit×Unit×Unit×Unit))×Unit×Unit×Unit×Unit×Unit))×Sl 8 (W .i64)×W .i64×W .i64×Unit):Option (TNames×W .i64×Sl 216 (TRen)×Bool×Arr 96 (W .i64)×Bool×((Unit)×(Unit×Unit×Unit×Unit))×((Unit)×(Unit×((Unit)×(Unit×Unit×Unit×Unit))×Unit×Unit×Unit×Unit×Unit))×Unit):=iter (fun a:TNames×W .i64×Sl 216 (TRen)×Bool×Arr 96 (W .i64)×Bool×((Unit)×(Unit×Unit×Unit×Unit))×((Unit)×(Unit×((Unit)×(Unit×Unit×Unit×Unit))×Unit×Unit×Unit×Unit×Unit))×Sl 8 (W .i64)×W .i64×W .i64×Unit=>(B_rename_Right_19 a.1 a.2.1 a.2.2.1 a.2.2.2.1 a.2.2.2.2.1 a.2.2.2.2.2.1 a.2.2.2.2.2.2.2.2.1 a.2.2.2.2.2.2.2.2.2.1 a.2.2.2.2.2.2.2.2.2.2.1).eval) fuel a
def B_rename_Right_34 (s:TNames) (n_4:W .i64) (flying:Sl 216 (TRen)) (ok:Bool) (times:Arr 96 (W .i64)) (strange:Bool) (r:W .i64):Tree (Rnd (TNames×W .i64×Sl 216 (TRen)×Bool×Arr 96 (W .i64)×Bool×((Unit)×(Unit×Unit×Unit×Unit))×W .i64×((Unit)×(Unit×((Unit)×(Unit×Unit×Unit×Unit))×Unit×Unit×Unit×Unit×Unit))×Unit) (TNames×W .i64×Sl 216 (TRen)×Bool×Arr 96 (W .i64)×Bool×((Unit)×(Unit×((Unit)×(Unit×Unit×Unit×Unit))×Unit×Unit×Unit×Unit×Unit))×Unit)):=
 .ite (W.lt r (W.of .i64 16)) (.opt (idx? 16 r) fun j8=>
 .opt (F_rename_Right_1 (Arr.get s.Done j8) n_4 strange times) fun r9=>
 .ret (.next (s,r9.1,flying,ok,r9.2.2,r9.2.1,((),((),(),(),())),(W.add r (W.of .i64 1)),((),((),((),((),(),(),())),(),(),(),(),())),())))
 (.ret (.out (s,n_4,flying,ok,times,strange,((),((),((),((),(),(),())),(),(),(),(),())),())))
def L_rename_Right_34 (a:TNames×W .i64×Sl 216 (TRen)×Bool×Arr 96 (W .i64)×Bool×((Unit)×(Unit×Unit×Unit×Unit))×W .i64×((Unit)×(Unit×((Unit)×(Unit×Unit×Unit×Unit))×Unit×Unit×Unit×Unit×Unit))×Unit):Option (TNames×W .i64×Sl 216 (TRen)×Bool×Arr 96 (W .i64)×Bool×((Unit)×(Unit×((Unit)×(Unit×Unit×Unit×Unit))×Unit×Unit×Unit×Unit×Unit))×Unit):=iter (fun a:TNames×W .i64×Sl 216 (TRen)×Bool×Arr 96 (W .i64)×Bool×((Unit)×(Unit×Unit×Unit×Unit))×W .i64×((Unit)×(Unit×((Unit)×(Unit×Unit×Unit×Unit))×Unit×Unit×Unit×Unit×Unit))×Unit=>(B_rename_Right_34 a.1 a.2.1 a.2.2.1 a.2.2.2.1 a.2.2.2.2.1 a.2.2.2.2.2.1 a.2.2.2.2.2.2.2.1).eval) fuel a
def T_rename_Right (s:TNames) (n_1:W .i64) (flying:Sl 216 (TRen)):Tree (Bool):=
 .ite (W.le n_1 (W.of .i64 16)) (.ret false)
 (.ite (W.gt n_1 (W.of .i64 96)) (.ret false)
 (.opt (F_rat_Right s.Map n_1) fun r1=>
 .ite (!r1) (.ret false)
 (.opt (F_rat_Right s.Done n_1) fun r2=>
 .ite (!r2) (.ret false)
 (.opt (F_freel_Right s.Free n_1) fun r3=>
 .ite (!r3) (.ret false)
 (.opt (F_freel_List s.Free) fun r4=>
 .opt (L_rename_Right_19 ((s,n_1,flying,false,(Arr.rep 96 (W.of .i64 0):Arr 96 (W .i64)),false,((),((),(),(),())),((),((),((),((),(),(),())),(),(),(),(),())),r4,(Sl.len r4),(W.of .i64 0),()))) fun o7=>
 .opt (L_rename_Right_34 ((o7.1,o7.2.1,o7.2.2.1,o7.2.2.2.1,o7.2.2.2.2.1,o7.2.2.2.2.2.1,((),((),(),(),())),(W.of .i64 1),((),((),((),((),(),(),())),(),(),(),(),())),()))) fun o10=>
 .opt (F_rename_steps o10.1 o10.2.2.1) fun r11=>
 .opt (F_rename_Right_2 o10.2.2.1 o10.2.1 r11 o10.2.2.2.2.1 o10.2.2.2.2.2.1) fun r12=>
 .ret r12.2.2.1)))))
def F_rename_Right (s:TNames) (n_1:W .i64) (flying:Sl 216 (TRen)):Option (Bool):=(T_rename_Right s n_1 flying).eval
def T_core_waits_1 (e:TRob) (a:TRen):Tree (Bool):=
 .ite (Tab.eq tab (.named .TRen) e.Ren a) (.ret (!e.Done))
 (.ret false)
def F_core_waits_1 (e:TRob) (a:TRen):Option (Bool):=(T_core_waits_1 e a).eval
def B_slices_IndexFunc_Rob_of_core_waits_1_5 (s:Sl 248 (TRob)) (fc0:TRen) (t_7 t_8:W .i64):Tree (Rnd (Sl 248 (TRob)×((Unit)×(TRen×Unit))×W .i64×W .i64×Unit) ((W .i64×Unit)⊕(Unit×Unit))):=
 .ite (W.lt t_8 t_7) (.opt (Sl.get? s t_8) fun y1=>
 .opt (F_core_waits_1 y1 fc0) fun r2=>
 .ite r2 (.ret (.out (.inl (t_8,()))))
 (.ret (.next (s,((),(fc0,())),t_7,(W.add t_8 (W.of .i64 1)),()))))
 (.ret (.out (.inr ((),()))))
def L_slices_IndexFunc_Rob_of_core_waits_1_5 (a:Sl 248 (TRob)×((Unit)×(TRen×Unit))×W .i64×W .i64×Unit):Option ((W .i64×Unit)⊕(Unit×Unit)):=iter (fun a:Sl 248 (TRob)×((Unit)×(TRen×Unit))×W .i64×W .i64×Unit=>(B_slices_IndexFunc_Rob_of_core_waits_1_5 a.1 a.2.1.2.1 a.2.2.1 a.2.2.2.1).eval) fuel a
def T_slices_IndexFunc_Rob_of_core_waits_1 (s:Sl 248 (TRob)) (fc0:TRen):Tree (W .i64):=
 .opt (L_slices_IndexFunc_Rob_of_core_waits_1_5 ((s,((),(fc0,())),(Sl.len s),(W.of .i64 0),()))) fun o3=>
 .sum o3 (fun p4=>
 .ret p4.1)
 (fun o5=>
 .ret (W.of .i64 (-1)))
def F_slices_IndexFunc_Rob_of_core_waits_1 (s:Sl 248 (TRob)) (fc0:TRen):Option (W .i64):=(T_slices_IndexFunc_Rob_of_core_waits_1 s fc0).eval
def T_slices_ContainsFunc_Rob_of_core_waits_1 (s:Sl 248 (TRob)) (fc0:TRen):Tree (Bool):=
 .opt (F_slices_IndexFunc_Rob_of_core_waits_1 s fc0) fun r1=>
 .ret (W.ge r1 (W.of .i64 0))
def F_slices_ContainsFunc_Rob_of_core_waits_1 (s:Sl 248 (TRob)) (fc0:TRen):Option (Bool):=(T_slices_ContainsFunc_Rob_of_core_waits_1 s fc0).eval
def T_core_waits (c:TCore) (r:TRen):Tree (Bool):=
 .opt (F_slices_ContainsFunc_Rob_of_core_waits_1 c.Rob r) fun r1=>
 .ret r1
def F_core_waits (c:TCore) (r:TRen):Option (Bool):=(T_core_waits c r).eval
def B_core_flying_7 (c:TCore) (seen:List (W .u64×W .i64)) (t_9:Sl 216 (TRen)) (t_10 t_11:W .i64):Tree (Rnd (TCore×(List (W .u64×W .i64))×Sl 216 (TRen)×W .i64×W .i64×Unit) ((Bool×Unit)⊕(Unit×Unit))):=
 .ite (W.lt t_11 t_10) (.opt (Sl.get? t_9 t_11) fun y1=>
 .ite (W.gt (Option.getD (mGet (W.eq) (mPut (W.eq) seen y1.Seq (W.add (Option.getD (mGet (W.eq) seen y1.Seq) (W.of .i64 0)) (W.of .i64 1))) y1.Seq) (W.of .i64 0)) (W.of .i64 1)) (.ret (.out (.inl (false,()))))
 (.opt (F_core_waits c y1) fun r2=>
 .ite (!r2) (.ret (.out (.inl (false,()))))
 (.ret (.next (c,(mPut (W.eq) seen y1.Seq (W.add (Option.getD (mGet (W.eq) seen y1.Seq) (W.of .i64 0)) (W.of .i64 1))),t_9,t_10,(W.add t_11 (W.of .i64 1)),())))))
 (.ret (.out (.inr ((),()))))
def L_core_flying_7 (a:TCore×(List (W .u64×W .i64))×Sl 216 (TRen)×W .i64×W .i64×Unit):Option ((Bool×Unit)⊕(Unit×Unit)):=iter (fun a:TCore×(List (W .u64×W .i64))×Sl 216 (TRen)×W .i64×W .i64×Unit=>(B_core_flying_7 a.1 a.2.1 a.2.2.1 a.2.2.2.1 a.2.2.2.2.1).eval) fuel a
def T_core_flying (c:TCore) (l_1:Sl 216 (TRen)):Tree (Bool):=
 .opt (L_core_flying_7 ((c,([]:List (W .u64×W .i64)),l_1,(Sl.len l_1),(W.of .i64 0),()))) fun o3=>
 .sum o3 (fun p4=>
 .ret p4.1)
 (fun o5=>
 .ret true)
def F_core_flying (c:TCore) (l_1:Sl 216 (TRen)):Option (Bool):=(T_core_flying c l_1).eval
def T_core_apart_1_1 (s a:TRen):Tree (Bool):=
 .ret (W.eq a.Seq s.Seq)
def F_core_apart_1_1 (s a:TRen):Option (Bool):=(T_core_apart_1_1 s a).eval
def B_slices_IndexFunc_Ren_of_core_apart_1_1_5 (s:Sl 216 (TRen)) (fc0:TRen) (t_7 t_8:W .i64):Tree (Rnd (Sl 216 (TRen)×((Unit)×(TRen×Unit))×W .i64×W .i64×Unit) ((W .i64×Unit)⊕(Unit×Unit))):=
 .ite (W.lt t_8 t_7) (.opt (Sl.get? s t_8) fun y1=>
 .opt (F_core_apart_1_1 y1 fc0) fun r2=>
 .ite r2 (.ret (.out (.inl (t_8,()))))
 (.ret (.next (s,((),(fc0,())),t_7,(W.add t_8 (W.of .i64 1)),()))))
 (.ret (.out (.inr ((),()))))
def L_slices_IndexFunc_Ren_of_core_apart_1_1_5 (a:Sl 216 (TRen)×((Unit)×(TRen×Unit))×W .i64×W .i64×Unit):Option ((W .i64×Unit)⊕(Unit×Unit)):=iter (fun a:Sl 216 (TRen)×((Unit)×(TRen×Unit))×W .i64×W .i64×Unit=>(B_slices_IndexFunc_Ren_of_core_apart_1_1_5 a.1 a.2.1.2.1 a.2.2.1 a.2.2.2.1).eval) fuel a
def T_slices_IndexFunc_Ren_of_core_apart_1_1 (s:Sl 216 (TRen)) (fc0:TRen):Tree (W .i64):=
 .opt (L_slices_IndexFunc_Ren_of_core_apart_1_1_5 ((s,((),(fc0,())),(Sl.len s),(W.of .i64 0),()))) fun o3=>
 .sum o3 (fun p4=>
 .ret p4.1)
 (fun o5=>
 .ret (W.of .i64 (-1)))
def F_slices_IndexFunc_Ren_of_core_apart_1_1 (s:Sl 216 (TRen)) (fc0:TRen):Option (W .i64):=(T_slices_IndexFunc_Ren_of_core_apart_1_1 s fc0).eval
def T_slices_ContainsFunc_Ren_of_core_apart_1_1 (s:Sl 216 (TRen)) (fc0:TRen):Tree (Bool):=
 .opt (F_slices_IndexFunc_Ren_of_core_apart_1_1 s fc0) fun r1=>
 .ret (W.ge r1 (W.of .i64 0))
def F_slices_ContainsFunc_Ren_of_core_apart_1_1 (s:Sl 216 (TRen)) (fc0:TRen):Option (Bool):=(T_slices_ContainsFunc_Ren_of_core_apart_1_1 s fc0).eval
def T_core_apart_1 (r:TRen) (a:Sl 216 (TRen)):Tree (Bool):=
 .opt (F_slices_ContainsFunc_Ren_of_core_apart_1_1 a r) fun r1=>
 .ret r1
def F_core_apart_1 (r:TRen) (a:Sl 216 (TRen)):Option (Bool):=(T_core_apart_1 r a).eval
def B_slices_IndexFunc_Ren_of_core_apart_1_5 (s fc0:Sl 216 (TRen)) (t_7 t_8:W .i64):Tree (Rnd (Sl 216 (TRen)×((Unit)×(Sl 216 (TRen)×Unit))×W .i64×W .i64×Unit) ((W .i64×Unit)⊕(Unit×Unit))):=
 .ite (W.lt t_8 t_7) (.opt (Sl.get? s t_8) fun y1=>
 .opt (F_core_apart_1 y1 fc0) fun r2=>
 .ite r2 (.ret (.out (.inl (t_8,()))))
 (.ret (.next (s,((),(fc0,())),t_7,(W.add t_8 (W.of .i64 1)),()))))
 (.ret (.out (.inr ((),()))))
def L_slices_IndexFunc_Ren_of_core_apart_1_5 (a:Sl 216 (TRen)×((Unit)×(Sl 216 (TRen)×Unit))×W .i64×W .i64×Unit):Option ((W .i64×Unit)⊕(Unit×Unit)):=iter (fun a:Sl 216 (TRen)×((Unit)×(Sl 216 (TRen)×Unit))×W .i64×W .i64×Unit=>(B_slices_IndexFunc_Ren_of_core_apart_1_5 a.1 a.2.1.2.1 a.2.2.1 a.2.2.2.1).eval) fuel a
def T_slices_IndexFunc_Ren_of_core_apart_1 (s fc0:Sl 216 (TRen)):Tree (W .i64):=
 .opt (L_slices_IndexFunc_Ren_of_core_apart_1_5 ((s,((),(fc0,())),(Sl.len s),(W.of .i64 0),()))) fun o3=>
 .sum o3 (fun p4=>
 .ret p4.1)
 (fun o5=>
 .ret (W.of .i64 (-1)))
def F_slices_IndexFunc_Ren_of_core_apart_1 (s fc0:Sl 216 (TRen)):Option (W .i64):=(T_slices_IndexFunc_Ren_of_core_apart_1 s fc0).eval
def T_slices_ContainsFunc_Ren_of_core_apart_1 (s fc0:Sl 216 (TRen)):Tree (Bool):=
 .opt (F_slices_IndexFunc_Ren_of_core_apart_1 s fc0) fun r1=>
 .ret (W.ge r1 (W.of .i64 0))
def F_slices_ContainsFunc_Ren_of_core_apart_1 (s fc0:Sl 216 (TRen)):Option (Bool):=(T_slices_ContainsFunc_Ren_of_core_apart_1 s fc0).eval
def T_core_apart (a b:Sl 216 (TRen)):Tree (Bool):=
 .opt (F_slices_ContainsFunc_Ren_of_core_apart_1 a b) fun r1=>
 .ret (!r1)
def F_core_apart (a b:Sl 216 (TRen)):Option (Bool):=(T_core_apart a b).eval
def B_core_seqs_7 (unit:W .i64) (l_5:Sl 8 (W .u64)) (t_9:Sl 248 (TRob)) (t_10 t_11:W .i64):Tree (Rnd (W .i64×Sl 8 (W .u64)×Sl 248 (TRob)×W .i64×W .i64×Unit) (Sl 8 (W .u64)×Unit)):=
 .ite (W.lt t_11 t_10) (.opt (Sl.get? t_9 t_11) fun y1=>
 .ite (W.eq y1.Ren.Uop.Unit unit) (.opt (Sl.app? l_5 (Sl.lit 8 [y1.Ren.Seq] rfl:Sl 8 (W .u64))) fun l2=>
 .ret (.next (unit,l2,t_9,t_10,(W.add t_11 (W.of .i64 1)),())))
 (.ret (.next (unit,l_5,t_9,t_10,(W.add t_11 (W.of .i64 1)),()))))
 (.ret (.out (l_5,())))
def L_core_seqs_7 (a:W .i64×Sl 8 (W .u64)×Sl 248 (TRob)×W .i64×W .i64×Unit):Option (Sl 8 (W .u64)×Unit):=iter (fun a:W .i64×Sl 8 (W .u64)×Sl 248 (TRob)×W .i64×W .i64×Unit=>(B_core_seqs_7 a.1 a.2.1 a.2.2.1 a.2.2.2.1 a.2.2.2.2.1).eval) fuel a
def T_core_seqs (c:TCore) (unit:W .i64):Tree (Sl 8 (W .u64)):=
 .opt (L_core_seqs_7 ((unit,(Sl.nil:Sl 8 (W .u64)),c.Rob,(Sl.len c.Rob),(W.of .i64 0),()))) fun o3=>
 .ret o3.1
def F_core_seqs (c:TCore) (unit:W .i64):Option (Sl 8 (W .u64)):=(T_core_seqs c unit).eval
def T_core_memory_1 (e:TLq) (n_1:W .u64):Tree (Bool):=
 .ret (W.eq e.Seq n_1)
def F_core_memory_1 (e:TLq) (n_1:W .u64):Option (Bool):=(T_core_memory_1 e n_1).eval
def B_slices_EqualFunc_Lq_uint64_of_core_memory_1_11 (s2:Sl 8 (W .u64)) (t_15:Sl 48 (TLq)) (t_16 t_17:W .i64):Tree (Rnd (Sl 8 (W .u64)×((Unit)×(Unit))×Sl 48 (TLq)×W .i64×W .i64×Unit) ((Bool×Unit)⊕(Unit×Unit))):=
 .ite (W.lt t_17 t_16) (.opt (Sl.get? t_15 t_17) fun y1=>
 .opt (Sl.get? s2 t_17) fun y2=>
 .opt (F_core_memory_1 y1 y2) fun r3=>
 .ite (!r3) (.ret (.out (.inl (false,()))))
 (.ret (.next (s2,((),()),t_15,t_16,(W.add t_17 (W.of .i64 1)),()))))
 (.ret (.out (.inr ((),()))))
def L_slices_EqualFunc_Lq_uint64_of_core_memory_1_11 (a:Sl 8 (W .u64)×((Unit)×(Unit))×Sl 48 (TLq)×W .i64×W .i64×Unit):Option ((Bool×Unit)⊕(Unit×Unit)):=iter (fun a:Sl 8 (W .u64)×((Unit)×(Unit))×Sl 48 (TLq)×W .i64×W .i64×Unit=>(B_slices_EqualFunc_Lq_uint64_of_core_memory_1_11 a.1 a.2.2.1 a.2.2.2.1 a.2.2.2.2.1).eval) fuel a
def T_slices_EqualFunc_Lq_uint64_of_core_memory_1 (s1:Sl 48 (TLq)) (s2:Sl 8 (W .u64)):Tree (Bool):=
 .ite (W.ne (Sl.len s1) (Sl.len s2)) (.ret false)
 (.opt (L_slices_EqualFunc_Lq_uint64_of_core_memory_1_11 ((s2,((),()),s1,(Sl.len s1),(W.of .i64 0),()))) fun o4=>
 .sum o4 (fun p5=>
 .ret p5.1)
 (fun o6=>
 .ret true))
def F_slices_EqualFunc_Lq_uint64_of_core_memory_1 (s1:Sl 48 (TLq)) (s2:Sl 8 (W .u64)):Option (Bool):=(T_slices_EqualFunc_Lq_uint64_of_core_memory_1 s1 s2).eval
def T_core_memory_2 (e:TSq) (n_1:W .u64):Tree (Bool):=
 .ret (W.eq e.Seq n_1)
def F_core_memory_2 (e:TSq) (n_1:W .u64):Option (Bool):=(T_core_memory_2 e n_1).eval
def B_slices_EqualFunc_Sq_uint64_of_core_memory_2_11 (s2:Sl 8 (W .u64)) (t_15:Sl 32 (TSq)) (t_16 t_17:W .i64):Tree (Rnd (Sl 8 (W .u64)×((Unit)×(Unit))×Sl 32 (TSq)×W .i64×W .i64×Unit) ((Bool×Unit)⊕(Unit×Unit))):=
 .ite (W.lt t_17 t_16) (.opt (Sl.get? t_15 t_17) fun y1=>
 .opt (Sl.get? s2 t_17) fun y2=>
 .opt (F_core_memory_2 y1 y2) fun r3=>
 .ite (!r3) (.ret (.out (.inl (false,()))))
 (.ret (.next (s2,((),()),t_15,t_16,(W.add t_17 (W.of .i64 1)),()))))
 (.ret (.out (.inr ((),()))))
def L_slices_EqualFunc_Sq_uint64_of_core_memory_2_11 (a:Sl 8 (W .u64)×((Unit)×(Unit))×Sl 32 (TSq)×W .i64×W .i64×Unit):Option ((Bool×Unit)⊕(Unit×Unit)):=iter (fun a:Sl 8 (W .u64)×((Unit)×(Unit))×Sl 32 (TSq)×W .i64×W .i64×Unit=>(B_slices_EqualFunc_Sq_uint64_of_core_memory_2_11 a.1 a.2.2.1 a.2.2.2.1 a.2.2.2.2.1).eval) fuel a
def T_slices_EqualFunc_Sq_uint64_of_core_memory_2 (s1:Sl 32 (TSq)) (s2:Sl 8 (W .u64)):Tree (Bool):=
 .ite (W.ne (Sl.len s1) (Sl.len s2)) (.ret false)
 (.opt (L_slices_EqualFunc_Sq_uint64_of_core_memory_2_11 ((s2,((),()),s1,(Sl.len s1),(W.of .i64 0),()))) fun o4=>
 .sum o4 (fun p5=>
 .ret p5.1)
 (fun o6=>
 .ret true))
def F_slices_EqualFunc_Sq_uint64_of_core_memory_2 (s1:Sl 32 (TSq)) (s2:Sl 8 (W .u64)):Option (Bool):=(T_slices_EqualFunc_Sq_uint64_of_core_memory_2 s1 s2).eval
def T_core_memory (c:TCore):Tree (Bool):=
 .opt (F_core_seqs c (W.of .i64 5)) fun r1=>
 .opt (F_slices_EqualFunc_Lq_uint64_of_core_memory_1 c.Lq r1) fun r2=>
 .ite r2 (.opt (F_core_seqs c (W.of .i64 6)) fun r3=>
 .opt (F_slices_EqualFunc_Sq_uint64_of_core_memory_2 c.Sq r3) fun r4=>
 .ret r4)
 (.ret false)
def F_core_memory (c:TCore):Option (Bool):=(T_core_memory c).eval
def B_prf_View_7 (f:TPhys) (m:Arr 16 (W .i64)) (t_4 out:Arr 16 (W .u32)) (r:W .i64):Tree (Rnd (TPhys×Arr 16 (W .i64)×Arr 16 (W .u32)×Arr 16 (W .u32)×W .i64×Unit) (Arr 16 (W .u32)×Arr 16 (W .u32)×Unit)):=
 .ite (W.lt r (W.of .i64 16)) (.opt (idx? 16 r) fun j1=>
 .opt (F_prf_Get f (Arr.get m j1)) fun r2=>
 .opt (idx? 16 r) fun j3=>
 .ret (.next (f,m,t_4,(Arr.set out j3 r2.1),(W.add r (W.of .i64 1)),())))
 (.ret (.out (t_4,out,())))
def L_prf_View_7 (a:TPhys×Arr 16 (W .i64)×Arr 16 (W .u32)×Arr 16 (W .u32)×W .i64×Unit):Option (Arr 16 (W .u32)×Arr 16 (W .u32)×Unit):=iter (fun a:TPhys×Arr 16 (W .i64)×Arr 16 (W .u32)×Arr 16 (W .u32)×W .i64×Unit=>(B_prf_View_7 a.1 a.2.1 a.2.2.1 a.2.2.2.1 a.2.2.2.2.1).eval) fuel a
def T_prf_View (f:TPhys) (m:Arr 16 (W .i64)):Tree (Arr 16 (W .u32)):=
 .opt (L_prf_View_7 ((f,m,(Arr.rep 16 (W.of .u32 0):Arr 16 (W .u32)),(Arr.rep 16 (W.of .u32 0):Arr 16 (W .u32)),(W.of .i64 1),()))) fun o4=>
 .ret o4.2.1
def F_prf_View (f:TPhys) (m:Arr 16 (W .i64)):Option (Arr 16 (W .u32)):=(T_prf_View f m).eval
def T_core_valued_1 (e:TRob) (a:TCore):Tree (Bool):=
 .opt (F_prf_Get a.Phys e.Ren.Out) fun r1=>
 .ite e.Done (.ite (W.eq e.Cause (W.of .i64 0)) (.ite (W.ne e.Ren.Out (W.of .i64 (-1))) (.ite (!r1.2) (.ret true)
 (.ret (W.ne r1.1 e.Val)))
 (.ret false))
 (.ret false))
 (.ret false)
def F_core_valued_1 (e:TRob) (a:TCore):Option (Bool):=(T_core_valued_1 e a).eval
def B_slices_IndexFunc_Rob_of_core_valued_1_5 (s:Sl 248 (TRob)) (fc0:TCore) (t_7 t_8:W .i64):Tree (Rnd (Sl 248 (TRob)×((Unit)×(TCore×Unit))×W .i64×W .i64×Unit) ((W .i64×Unit)⊕(Unit×Unit))):=
 .ite (W.lt t_8 t_7) (.opt (Sl.get? s t_8) fun y1=>
 .opt (F_core_valued_1 y1 fc0) fun r2=>
 .ite r2 (.ret (.out (.inl (t_8,()))))
 (.ret (.next (s,((),(fc0,())),t_7,(W.add t_8 (W.of .i64 1)),()))))
 (.ret (.out (.inr ((),()))))
def L_slices_IndexFunc_Rob_of_core_valued_1_5 (a:Sl 248 (TRob)×((Unit)×(TCore×Unit))×W .i64×W .i64×Unit):Option ((W .i64×Unit)⊕(Unit×Unit)):=iter (fun a:Sl 248 (TRob)×((Unit)×(TCore×Unit))×W .i64×W .i64×Unit=>(B_slices_IndexFunc_Rob_of_core_valued_1_5 a.1 a.2.1.2.1 a.2.2.1 a.2.2.2.1).eval) fuel a
def T_slices_IndexFunc_Rob_of_core_valued_1 (s:Sl 248 (TRob)) (fc0:TCore):Tree (W .i64):=
 .opt (L_slices_IndexFunc_Rob_of_core_valued_1_5 ((s,((),(fc0,())),(Sl.len s),(W.of .i64 0),()))) fun o3=>
 .sum o3 (fun p4=>
 .ret p4.1)
 (fun o5=>
 .ret (W.of .i64 (-1)))
def F_slices_IndexFunc_Rob_of_core_valued_1 (s:Sl 248 (TRob)) (fc0:TCore):Option (W .i64):=(T_slices_IndexFunc_Rob_of_core_valued_1 s fc0).eval
def T_slices_ContainsFunc_Rob_of_core_valued_1 (s:Sl 248 (TRob)) (fc0:TCore):Tree (Bool):=
 .opt (F_slices_IndexFunc_Rob_of_core_valued_1 s fc0) fun r1=>
 .ret (W.ge r1 (W.of .i64 0))
def F_slices_ContainsFunc_Rob_of_core_valued_1 (s:Sl 248 (TRob)) (fc0:TCore):Option (Bool):=(T_slices_ContainsFunc_Rob_of_core_valued_1 s fc0).eval
def T_core_valued (c:TCore):Tree (Bool):=
 .opt (F_slices_ContainsFunc_Rob_of_core_valued_1 c.Rob c) fun r1=>
 .ret (!r1)
def F_core_valued (c:TCore):Option (Bool):=(T_core_valued c).eval
def B_core_Broken_15 (l_5:Sl 8 (W .i64)) (t_55:Sl 1 (Bool)) (t_56 t_57:W .i64):Tree (Rnd (Sl 8 (W .i64)×Sl 1 (Bool)×W .i64×W .i64×Unit) (Sl 8 (W .i64)×Unit)):=
 .ite (W.lt t_57 t_56) (.opt (idx? (List.length t_55.l) t_57) fun j13=>
 .ite (!(List.getD t_55.l j13 false)) (.opt (Sl.app? l_5 (Sl.lit 8 [(W.add t_57 (W.of .i64 2))] rfl:Sl 8 (W .i64))) fun l14=>
 .ret (.next (l14,t_55,t_56,(W.add t_57 (W.of .i64 1)),())))
 (.ret (.next (l_5,t_55,t_56,(W.add t_57 (W.of .i64 1)),()))))
 (.ret (.out (l_5,())))
def L_core_Broken_15 (a:Sl 8 (W .i64)×Sl 1 (Bool)×W .i64×W .i64×Unit):Option (Sl 8 (W .i64)×Unit):=iter (fun a:Sl 8 (W .i64)×Sl 1 (Bool)×W .i64×W .i64×Unit=>(B_core_Broken_15 a.1 a.2.1 a.2.2.1 a.2.2.2.1).eval) fuel a
def T_core_Broken (c:TCore):Tree (Sl 8 (W .i64)):=
 .opt (F_core_rooms c) fun r1=>
 .ite (!r1) (.ret (Sl.lit 8 [(W.of .i64 1)] rfl:Sl 8 (W .i64)))
 (.opt (F_core_queued c) fun r2=>
 .opt (F_core_ordered c) fun r3=>
 .opt (F_core_rens c) fun r4=>
 .opt (F_rename_Right c.Names c.Conf.Phys r4) fun r5=>
 .opt (F_core_flying c r2.1) fun r6=>
 .opt (F_core_flying c r2.2) fun r7=>
 .ite r7 (.opt (F_core_apart r2.1 r2.2) fun r8=>
 .opt (F_core_memory c) fun r9=>
 .opt (F_prf_View c.Phys c.Names.Done) fun r10=>
 .opt (F_core_clean c.A) fun r11=>
 .opt (F_core_valued c) fun r12=>
 .opt (L_core_Broken_15 (((Sl.nil:Sl 8 (W .i64)),(Sl.lit 1 [r3,r5,r6,r8,r9,(Tab.eq tab (.arr 16 (.int .u32)) r10 c.A.R),r11,r12] rfl:Sl 1 (Bool)),(W.of .i64 8),(W.of .i64 0),()))) fun o15=>
 .ret o15.1)
 (.opt (F_core_memory c) fun r16=>
 .opt (F_prf_View c.Phys c.Names.Done) fun r17=>
 .opt (F_core_clean c.A) fun r18=>
 .opt (F_core_valued c) fun r19=>
 .opt (L_core_Broken_15 (((Sl.nil:Sl 8 (W .i64)),(Sl.lit 1 [r3,r5,r6,false,r16,(Tab.eq tab (.arr 16 (.int .u32)) r17 c.A.R),r18,r19] rfl:Sl 1 (Bool)),(W.of .i64 8),(W.of .i64 0),()))) fun o20=>
 .ret o20.1))
def F_core_Broken (c:TCore):Option (Sl 8 (W .i64)):=(T_core_Broken c).eval
def B_same_Sbs_11 (a b:Sl 16 (TSb)) (i:W .i64):Tree (Rnd (Sl 16 (TSb)×Sl 16 (TSb)×W .i64×Unit) ((Bool×Unit)⊕(Unit×Unit))):=
 .ite (W.lt i (Sl.len a)) (.ite (W.lt i (Sl.len b)) (.opt (Sl.get? a i) fun y1=>
 .opt (Sl.get? b i) fun y2=>
 .ite (!(Tab.eq tab (.named .TSb) y1 y2)) (.ret (.out (.inl (false,()))))
 (.ret (.next (a,b,(W.add i (W.of .i64 1)),()))))
 (.ret (.out (.inr ((),())))))
 (.ret (.out (.inr ((),()))))
def L_same_Sbs_11 (a:Sl 16 (TSb)×Sl 16 (TSb)×W .i64×Unit):Option ((Bool×Unit)⊕(Unit×Unit)):=iter (fun a:Sl 16 (TSb)×Sl 16 (TSb)×W .i64×Unit=>(B_same_Sbs_11 a.1 a.2.1 a.2.2.1).eval) fuel a
def T_same_Sbs (a b:Sl 16 (TSb)):Tree (Bool):=
 .ite (W.ne (Sl.len a) (Sl.len b)) (.ret false)
 (.opt (L_same_Sbs_11 ((a,b,(W.of .i64 0),()))) fun o3=>
 .sum o3 (fun p4=>
 .ret p4.1)
 (fun o5=>
 .ret true))
def F_same_Sbs (a b:Sl 16 (TSb)):Option (Bool):=(T_same_Sbs a b).eval
def B_same_Flights_11 (a b:Sl 256 (TFlight)) (i:W .i64):Tree (Rnd (Sl 256 (TFlight)×Sl 256 (TFlight)×W .i64×Unit) ((Bool×Unit)⊕(Unit×Unit))):=
 .ite (W.lt i (Sl.len a)) (.ite (W.lt i (Sl.len b)) (.opt (Sl.get? a i) fun y1=>
 .opt (Sl.get? b i) fun y2=>
 .ite (!(Tab.eq tab (.named .TFlight) y1 y2)) (.ret (.out (.inl (false,()))))
 (.ret (.next (a,b,(W.add i (W.of .i64 1)),()))))
 (.ret (.out (.inr ((),())))))
 (.ret (.out (.inr ((),()))))
def L_same_Flights_11 (a:Sl 256 (TFlight)×Sl 256 (TFlight)×W .i64×Unit):Option ((Bool×Unit)⊕(Unit×Unit)):=iter (fun a:Sl 256 (TFlight)×Sl 256 (TFlight)×W .i64×Unit=>(B_same_Flights_11 a.1 a.2.1 a.2.2.1).eval) fuel a
def T_same_Flights (a b:Sl 256 (TFlight)):Tree (Bool):=
 .ite (W.ne (Sl.len a) (Sl.len b)) (.ret false)
 (.opt (L_same_Flights_11 ((a,b,(W.of .i64 0),()))) fun o3=>
 .sum o3 (fun p4=>
 .ret p4.1)
 (fun o5=>
 .ret true))
def F_same_Flights (a b:Sl 256 (TFlight)):Option (Bool):=(T_same_Flights a b).eval
def B_same_Bytes_11 (a b:Sl 1 (W .u8)) (i:W .i64):Tree (Rnd (Sl 1 (W .u8)×Sl 1 (W .u8)×W .i64×Unit) ((Bool×Unit)⊕(Unit×Unit))):=
 .ite (W.lt i (Sl.len a)) (.ite (W.lt i (Sl.len b)) (.opt (Sl.get? a i) fun y1=>
 .opt (Sl.get? b i) fun y2=>
 .ite (W.ne y1 y2) (.ret (.out (.inl (false,()))))
 (.ret (.next (a,b,(W.add i (W.of .i64 1)),()))))
 (.ret (.out (.inr ((),())))))
 (.ret (.out (.inr ((),()))))
def L_same_Bytes_11 (a:Sl 1 (W .u8)×Sl 1 (W .u8)×W .i64×Unit):Option ((Bool×Unit)⊕(Unit×Unit)):=iter (fun a:Sl 1 (W .u8)×Sl 1 (W .u8)×W .i64×Unit=>(B_same_Bytes_11 a.1 a.2.1 a.2.2.1).eval) fuel a
def T_same_Bytes (a b:Sl 1 (W .u8)):Tree (Bool):=
 .ite (W.ne (Sl.len a) (Sl.len b)) (.ret false)
 (.opt (L_same_Bytes_11 ((a,b,(W.of .i64 0),()))) fun o3=>
 .sum o3 (fun p4=>
 .ret p4.1)
 (fun o5=>
 .ret true))
def F_same_Bytes (a b:Sl 1 (W .u8)):Option (Bool):=(T_same_Bytes a b).eval
def B_same_Btbs_11 (a b:Sl 16 (TBtb)) (i:W .i64):Tree (Rnd (Sl 16 (TBtb)×Sl 16 (TBtb)×W .i64×Unit) ((Bool×Unit)⊕(Unit×Unit))):=
 .ite (W.lt i (Sl.len a)) (.ite (W.lt i (Sl.len b)) (.opt (Sl.get? a i) fun y1=>
 .opt (Sl.get? b i) fun y2=>
 .ite (!(Tab.eq tab (.named .TBtb) y1 y2)) (.ret (.out (.inl (false,()))))
 (.ret (.next (a,b,(W.add i (W.of .i64 1)),()))))
 (.ret (.out (.inr ((),())))))
 (.ret (.out (.inr ((),()))))
def L_same_Btbs_11 (a:Sl 16 (TBtb)×Sl 16 (TBtb)×W .i64×Unit):Option ((Bool×Unit)⊕(Unit×Unit)):=iter (fun a:Sl 16 (TBtb)×Sl 16 (TBtb)×W .i64×Unit=>(B_same_Btbs_11 a.1 a.2.1 a.2.2.1).eval) fuel a
def T_same_Btbs (a b:Sl 16 (TBtb)):Tree (Bool):=
 .ite (W.ne (Sl.len a) (Sl.len b)) (.ret false)
 (.opt (L_same_Btbs_11 ((a,b,(W.of .i64 0),()))) fun o3=>
 .sum o3 (fun p4=>
 .ret p4.1)
 (fun o5=>
 .ret true))
def F_same_Btbs (a b:Sl 16 (TBtb)):Option (Bool):=(T_same_Btbs a b).eval
def B_same_Words_11 (a b:Sl 4 (W .u32)) (i:W .i64):Tree (Rnd (Sl 4 (W .u32)×Sl 4 (W .u32)×W .i64×Unit) ((Bool×Unit)⊕(Unit×Unit))):=
 .ite (W.lt i (Sl.len a)) (.ite (W.lt i (Sl.len b)) (.opt (Sl.get? a i) fun y1=>
 .opt (Sl.get? b i) fun y2=>
 .ite (W.ne y1 y2) (.ret (.out (.inl (false,()))))
 (.ret (.next (a,b,(W.add i (W.of .i64 1)),()))))
 (.ret (.out (.inr ((),())))))
 (.ret (.out (.inr ((),()))))
def L_same_Words_11 (a:Sl 4 (W .u32)×Sl 4 (W .u32)×W .i64×Unit):Option ((Bool×Unit)⊕(Unit×Unit)):=iter (fun a:Sl 4 (W .u32)×Sl 4 (W .u32)×W .i64×Unit=>(B_same_Words_11 a.1 a.2.1 a.2.2.1).eval) fuel a
def T_same_Words (a b:Sl 4 (W .u32)):Tree (Bool):=
 .ite (W.ne (Sl.len a) (Sl.len b)) (.ret false)
 (.opt (L_same_Words_11 ((a,b,(W.of .i64 0),()))) fun o3=>
 .sum o3 (fun p4=>
 .ret p4.1)
 (fun o5=>
 .ret true))
def F_same_Words (a b:Sl 4 (W .u32)):Option (Bool):=(T_same_Words a b).eval
def T_same_Pred (a b:TPred):Tree (Bool):=
 .ite (W.eq a.Hist b.Hist) (.opt (F_same_Bytes a.Table b.Table) fun r1=>
 .ite r1 (.opt (F_same_Btbs a.Btb b.Btb) fun r2=>
 .ite r2 (.ite (W.eq a.Next b.Next) (.opt (F_same_Words a.Ras b.Ras) fun r3=>
 .ite r3 (.ret (W.eq a.Top b.Top))
 (.ret false))
 (.ret false))
 (.ret false))
 (.ret false))
 (.ret false)
def F_same_Pred (a b:TPred):Option (Bool):=(T_same_Pred a b).eval
def T_law45_PlaceKeeps (c:TCore) (t:TTick):Tree (Bool):=
 .opt (F_law45_Light c) fun r1=>
 .ite (!r1) (.opt (F_law45_awake) fun r2=>
 .ret r2)
 (.ite (W.lt c.Names.Seq (W.of .u64 1)) (.opt (F_law45_awake) fun r3=>
 .ret r3)
 (.ite (W.ge c.Names.Seq (W.of .u64 1152921504606846976)) (.opt (F_law45_awake) fun r4=>
 .ret r4)
 (.opt (F_core_Broken c) fun r5=>
 .ite (W.gt (Sl.len r5) (W.of .i64 0)) (.opt (F_law45_awake) fun r6=>
 .ret r6)
 (.opt (F_place_Stage c t) fun r7=>
 .ite (!(Tab.eq tab (.named .TArch) r7.1.A c.A)) (.ret false)
 (.ite (W.ne r7.1.PC c.PC) (.ret false)
 (.ite (!(beqB r7.1.Hold c.Hold)) (.ret false)
 (.ite (!(Tab.eq tab (.arr 16 (.int .i64)) r7.1.Names.Done c.Names.Done)) (.ret false)
 (.opt (F_same_Sbs r7.1.Sb c.Sb) fun r8=>
 .ite (!r8) (.ret false)
 (.opt (F_same_Flights r7.1.Units c.Units) fun r9=>
 .ite (!r9) (.ret false)
 (.opt (F_same_Pred r7.1.Pred c.Pred) fun r10=>
 .ite (!r10) (.ret false)
 (.opt (F_same_Bytes r7.1.Shadow c.Shadow) fun r11=>
 .ite (!r11) (.ret false)
 (.opt (F_core_Broken r7.1) fun r12=>
 .ite (W.eq (Sl.len r12) (W.of .i64 0)) (.opt (F_law45_awake) fun r13=>
 .ret r13)
 (.ret false)))))))))))))
def F_law45_PlaceKeeps (c:TCore) (t:TTick):Option (Bool):=(T_law45_PlaceKeeps c t).eval
end
end Go.Proofs.YtkddkpmijhionaaGreatDoor
