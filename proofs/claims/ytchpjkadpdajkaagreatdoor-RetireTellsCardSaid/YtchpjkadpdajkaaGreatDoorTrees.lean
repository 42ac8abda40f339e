/- YtchpjkadpdajkaaGreatDoorTrees: the functions as decision trees. No statement of the seat is proved here. -/
import Derived.Test.YtchpjkadpdajkaaGreatDoorTypes
import Derived.Test.YtchpjkadpdajkaaGreatDoorA2D
set_option linter.unusedSimpArgs false
set_option linter.unusedVariables false
set_option maxRecDepth 100000
namespace Go.Proofs.YtchpjkadpdajkaaGreatDoor
open Go Go.A2
noncomputable section
def T_inst_Form (op:W .i64):Tree (W .i64):=
 .ite (W.lt op (W.of .i64 1)) (.ret (W.of .i64 0))
 (.ite (W.gt op (W.of .i64 63)) (.ret (W.of .i64 0))
 (.ite (W.ge op (W.of .i64 21)) (.ite (W.le op (W.of .i64 23)) (.ret (W.of .i64 11))
 (.ite (W.le op (W.of .i64 24)) (.ret (W.of .i64 1))
 (.ite (W.eq op (W.of .i64 33)) (.ret (W.of .i64 5))
 (.ite (W.eq op (W.of .i64 49)) (.ret (W.of .i64 5))
 (.ite (W.le op (W.of .i64 39)) (.ret (W.of .i64 2))
 (.ite (W.eq op (W.of .i64 50)) (.ret (W.of .i64 2))
 (.ite (W.le op (W.of .i64 42)) (.ret (W.of .i64 3))
 (.ite (W.le op (W.of .i64 48)) (.ret (W.of .i64 4))
 (.ite (W.le op (W.of .i64 53)) (.ret (W.of .i64 6))
 (.ite (W.eq op (W.of .i64 56)) (.ret (W.of .i64 7))
 (.ite (W.eq op (W.of .i64 57)) (.ret (W.of .i64 8))
 (.ite (W.eq op (W.of .i64 60)) (.ret (W.of .i64 9))
 (.ite (W.eq op (W.of .i64 62)) (.ret (W.of .i64 9))
 (.ret (W.of .i64 10)))))))))))))))
 (.ite (W.le op (W.of .i64 24)) (.ret (W.of .i64 1))
 (.ite (W.eq op (W.of .i64 33)) (.ret (W.of .i64 5))
 (.ite (W.eq op (W.of .i64 49)) (.ret (W.of .i64 5))
 (.ite (W.le op (W.of .i64 39)) (.ret (W.of .i64 2))
 (.ite (W.eq op (W.of .i64 50)) (.ret (W.of .i64 2))
 (.ite (W.le op (W.of .i64 42)) (.ret (W.of .i64 3))
 (.ite (W.le op (W.of .i64 48)) (.ret (W.of .i64 4))
 (.ite (W.le op (W.of .i64 53)) (.ret (W.of .i64 6))
 (.ite (W.eq op (W.of .i64 56)) (.ret (W.of .i64 7))
 (.ite (W.eq op (W.of .i64 57)) (.ret (W.of .i64 8))
 (.ite (W.eq op (W.of .i64 60)) (.ret (W.of .i64 9))
 (.ite (W.eq op (W.of .i64 62)) (.ret (W.of .i64 9))
 (.ret (W.of .i64 10))))))))))))))))
def F_inst_Form (op:W .i64):Option (W .i64):=(T_inst_Form op).eval
def T_inst_has (op field:W .i64):Tree (Bool):=
 .opt (F_inst_Form op) fun r1=>
 .opt (idx? 12 r1) fun j2=>
 .ret (W.ne (W.and (Arr.get (Arr.lit 12 [(W.of .i64 0),(W.of .i64 7),(W.of .i64 11),(W.of .i64 14),(W.of .i64 14),(W.of .i64 9),(W.of .i64 7),(W.of .i64 9),(W.of .i64 10),(W.of .i64 2),(W.of .i64 0),(W.of .i64 3)] rfl:Arr 12 (W .i64)) j2) field) (W.of .i64 0))
def F_inst_has (op field:W .i64):Option (Bool):=(T_inst_has op field).eval
def T_inst_within (op n_1:W .i64):Tree (Bool):=
 .ite (W.eq op (W.of .i64 30)) (.ite (W.ge n_1 (W.of .i64 0)) (.ret (W.le n_1 (W.of .i64 31)))
 (.ret false))
 (.ite (W.eq op (W.of .i64 31)) (.ite (W.ge n_1 (W.of .i64 0)) (.ret (W.le n_1 (W.of .i64 31)))
 (.ret false))
 (.ite (W.eq op (W.of .i64 32)) (.ite (W.ge n_1 (W.of .i64 0)) (.ret (W.le n_1 (W.of .i64 31)))
 (.ret false))
 (.ite (W.eq op (W.of .i64 33)) (.ite (W.ge n_1 (W.of .i64 0)) (.ret (W.lt n_1 (W.of .i64 262144)))
 (.ret false))
 (.ite (W.eq op (W.of .i64 49)) (.ite (W.ge n_1 (W.of .i64 (-131072))) (.ret (W.lt n_1 (W.of .i64 131072)))
 (.ret false))
 (.ite (W.ge n_1 (W.of .i64 (-8192))) (.ret (W.lt n_1 (W.of .i64 8192)))
 (.ret false))))))
def F_inst_within (op n_1:W .i64):Option (Bool):=(T_inst_within op n_1).eval
def B_inst_Right_11 (i:TInst) (t_18:Arr 3 (TS275)) (t_19:W .i64):Tree (Rnd (TInst×Arr 3 (TS275)×W .i64×Unit) ((TInst×W .i64×Unit)⊕(TInst×Unit×Unit))):=
 .ite (W.lt t_19 (W.of .i64 3)) (.opt (idx? 3 t_19) fun j2=>
 .ite (W.lt (Arr.get t_18 j2).n_ (W.of .i64 0)) (.ret (.out (.inl (i,(W.of .i64 1),()))))
 (.ite (W.gt (Arr.get t_18 j2).n_ (Arr.get t_18 j2).most) (.ret (.out (.inl (i,(W.of .i64 1),()))))
 (.opt (F_inst_has i.Op (Arr.get t_18 j2).bit) fun r3=>
 .ite (!r3) (.ite (W.ne (Arr.get t_18 j2).n_ (W.of .i64 0)) (.ret (.out (.inl (i,(W.of .i64 1),()))))
 (.ret (.next (i,t_18,(W.add t_19 (W.of .i64 1)),()))))
 (.ret (.next (i,t_18,(W.add t_19 (W.of .i64 1)),()))))))
 (.ret (.out (.inr (i,(),()))))
def L_inst_Right_11 (a:TInst×Arr 3 (TS275)×W .i64×Unit):Option ((TInst×W .i64×Unit)⊕(TInst×Unit×Unit)):=iter (fun a:TInst×Arr 3 (TS275)×W .i64×Unit=>(B_inst_Right_11 a.1 a.2.1 a.2.2.1).eval) fuel a
def T_inst_Right (i:TInst):Tree (W .i64):=
 .opt (F_inst_Form i.Op) fun r1=>
 .ite (W.eq r1 (W.of .i64 0)) (.ret (W.of .i64 9))
 (.opt (L_inst_Right_11 ((i,(Arr.lit 3 [(TS275.mk (W.of .i64 1) i.Rd (W.of .i64 15)),(TS275.mk (W.of .i64 2) i.Ra (W.of .i64 15)),(TS275.mk (W.of .i64 4) i.Rb (W.of .i64 15))] rfl:Arr 3 (TS275)),(W.of .i64 0),()))) fun o4=>
 .sum o4 (fun p5=>
 .ret p5.2.1)
 (fun o6=>
 .opt (F_inst_has o6.1.Op (W.of .i64 8)) fun r7=>
 .ite (!r7) (.ite (W.ne o6.1.Imm (W.of .i64 0)) (.ret (W.of .i64 1))
 (.opt (F_inst_has o6.1.Op (W.of .i64 8)) fun r8=>
 .ite r8 (.opt (F_inst_within o6.1.Op o6.1.Imm) fun r9=>
 .ite (!r9) (.ret (W.of .i64 3))
 (.ret (W.of .i64 0)))
 (.ret (W.of .i64 0))))
 (.opt (F_inst_has o6.1.Op (W.of .i64 8)) fun r10=>
 .ite r10 (.opt (F_inst_within o6.1.Op o6.1.Imm) fun r11=>
 .ite (!r11) (.ret (W.of .i64 3))
 (.ret (W.of .i64 0)))
 (.ret (W.of .i64 0)))))
def F_inst_Right (i:TInst):Option (W .i64):=(T_inst_Right i).eval
def T_bits_clamp (n_0 low high:W .i64):Tree (W .i64):=
 .ret (W.min (W.max n_0 low) high)
def F_bits_clamp (n_0 low high:W .i64):Option (W .i64):=(T_bits_clamp n_0 low high).eval
def T_bits_ones (n_0:W .i64):Tree (W .u32):=
 .opt (W.shl? (W.of .u64 1) n_0) fun z1=>
 .ret (W.conv (.u32) (W.sub z1 (W.of .u64 1)))
def F_bits_ones (n_0:W .i64):Option (W .u32):=(T_bits_ones n_0).eval
def T_bits_mask (hi lo:W .i64):Tree (W .u32×W .i64):=
 .opt (F_bits_clamp hi (W.of .i64 0) (W.of .i64 31)) fun r1=>
 .opt (F_bits_clamp lo (W.of .i64 0) (W.of .i64 31)) fun r2=>
 .ite (W.lt r1 r2) (.ret ((W.of .u32 0),(W.of .i64 0)))
 (.opt (F_bits_ones (W.add (W.sub r1 r2) (W.of .i64 1))) fun r3=>
 .opt (W.shl? r3 r2) fun z4=>
 .ret (z4,r2))
def F_bits_mask (hi lo:W .i64):Option (W .u32×W .i64):=(T_bits_mask hi lo).eval
def T_bits_Put (x:W .u32) (hi lo:W .i64) (v:W .u32):Tree (W .u32):=
 .opt (F_bits_mask hi lo) fun r1=>
 .opt (W.shl? v r1.2) fun z2=>
 .ret (W.or (W.andNot x r1.1) (W.and z2 r1.1))
def F_bits_Put (x:W .u32) (hi lo:W .i64) (v:W .u32):Option (W .u32):=(T_bits_Put x hi lo v).eval
def T_inst_width (op:W .i64):Tree (W .i64):=
 .opt (F_inst_Form op) fun r1=>
 .ite (W.eq r1 (W.of .i64 5)) (.ret (W.of .i64 18))
 (.ret (W.of .i64 14))
def F_inst_width (op:W .i64):Option (W .i64):=(T_inst_width op).eval
def T_inst_Enc (i:TInst):Tree (W .u32×W .i64):=
 .opt (F_inst_Right i) fun r1=>
 .ite (W.ne r1 (W.of .i64 0)) (.ret ((W.of .u32 0),r1))
 (.opt (F_bits_Put (W.of .u32 0) (W.of .i64 31) (W.of .i64 26) (W.conv (.u32) i.Op)) fun r2=>
 .opt (F_bits_Put r2 (W.of .i64 25) (W.of .i64 22) (W.conv (.u32) i.Rd)) fun r3=>
 .opt (F_bits_Put r3 (W.of .i64 21) (W.of .i64 18) (W.conv (.u32) i.Ra)) fun r4=>
 .opt (F_bits_Put r4 (W.of .i64 17) (W.of .i64 14) (W.conv (.u32) i.Rb)) fun r5=>
 .opt (F_inst_has i.Op (W.of .i64 8)) fun r6=>
 .ite r6 (.opt (F_inst_width i.Op) fun r7=>
 .opt (F_bits_Put r5 (W.sub r7 (W.of .i64 1)) (W.of .i64 0) (W.conv (.u32) i.Imm)) fun r8=>
 .ret (r8,(W.of .i64 0)))
 (.ret (r5,(W.of .i64 0))))
def F_inst_Enc (i:TInst):Option (W .u32×W .i64):=(T_inst_Enc i).eval
def T_rom_end (s:TSeg):Tree (W .i64):=
 .ret (W.add (W.conv (.i64) s.At) (Sl.len s.Data))
def F_rom_end (s:TSeg):Option (W .i64):=(T_rom_end s).eval
def B_rom_Right_13 (last:W .i64) (t_11:Sl 32 (TSeg)) (t_12 t_13:W .i64):Tree (Rnd (W .i64×Sl 32 (TSeg)×W .i64×W .i64×Unit) ((W .i64×Unit)⊕(Unit×Unit))):=
 .ite (W.lt t_13 t_12) (.opt (Sl.get? t_11 t_13) fun y1=>
 .ite (W.eq (Sl.len y1.Data) (W.of .i64 0)) (.ret (.out (.inl ((W.of .i64 1),()))))
 (.opt (F_rom_end y1) fun r2=>
 .ite (W.gt r2 (W.of .i64 16384)) (.ret (.out (.inl ((W.of .i64 3),()))))
 (.ite (W.lt (W.conv (.i64) y1.At) last) (.ret (.out (.inl ((W.of .i64 7),()))))
 (.opt (F_rom_end y1) fun r3=>
 .ret (.next (r3,t_11,t_12,(W.add t_13 (W.of .i64 1)),()))))))
 (.ret (.out (.inr ((),()))))
def L_rom_Right_13 (a:W .i64×Sl 32 (TSeg)×W .i64×W .i64×Unit):Option ((W .i64×Unit)⊕(Unit×Unit)):=iter (fun a:W .i64×Sl 32 (TSeg)×W .i64×W .i64×Unit=>(B_rom_Right_13 a.1 a.2.1 a.2.2.1 a.2.2.2.1).eval) fuel a
def T_rom_Right (im:TImage):Tree (W .i64):=
 .ite (W.gt (Sl.len im.Segs) (W.of .i64 64)) (.ret (W.of .i64 4))
 (.opt (L_rom_Right_13 (((W.of .i64 0),im.Segs,(Sl.len im.Segs),(W.of .i64 0),()))) fun o4=>
 .sum o4 (fun p5=>
 .ret p5.1)
 (fun o6=>
 .ret (W.of .i64 0)))
def F_rom_Right (im:TImage):Option (W .i64):=(T_rom_Right im).eval
def B_rom_Load_21 (size:W .i64) (m:Sl 1 (W .u8)) (t_29:Sl 32 (TSeg)) (t_30 t_31:W .i64):Tree (Rnd (W .i64×Sl 1 (W .u8)×Sl 32 (TSeg)×W .i64×W .i64×Unit) ((Sl 1 (W .u8)×W .i64×Sl 1 (W .u8)×Unit)⊕(Unit×Unit×Sl 1 (W .u8)×Unit))):=
 .ite (W.lt t_31 t_30) (.opt (Sl.get? t_29 t_31) fun y3=>
 .opt (F_rom_end y3) fun r4=>
 .ite (W.gt r4 size) (.ret (.out (.inl ((Sl.nil:Sl 1 (W .u8)),(W.of .i64 3),m,()))))
 (.opt (nat? y3.At) fun n5=>
 .opt (vw? (List.length m.l) (some n5) (none)) fun j6=>
 .ret (.next (size,(Sl.copy m n5 y3.Data),t_29,t_30,(W.add t_31 (W.of .i64 1)),()))))
 (.ret (.out (.inr ((),(),m,()))))
def L_rom_Load_21 (a:W .i64×Sl 1 (W .u8)×Sl 32 (TSeg)×W .i64×W .i64×Unit):Option ((Sl 1 (W .u8)×W .i64×Sl 1 (W .u8)×Unit)⊕(Unit×Unit×Sl 1 (W .u8)×Unit)):=iter (fun a:W .i64×Sl 1 (W .u8)×Sl 32 (TSeg)×W .i64×W .i64×Unit=>(B_rom_Load_21 a.1 a.2.1 a.2.2.1 a.2.2.2.1 a.2.2.2.2.1).eval) fuel a
def T_rom_Load (size:W .i64) (im:TImage):Tree (Sl 1 (W .u8)×W .i64):=
 .ite (W.ne (W.rem size (W.of .i64 64)) (W.of .i64 0)) (.ret ((Sl.nil:Sl 1 (W .u8)),(W.of .i64 1)))
 (.ite (W.lt size (W.of .i64 64)) (.ret ((Sl.nil:Sl 1 (W .u8)),(W.of .i64 1)))
 (.ite (W.gt size (W.of .i64 16384)) (.ret ((Sl.nil:Sl 1 (W .u8)),(W.of .i64 1)))
 (.opt (F_rom_Right im) fun r1=>
 .ite (W.ne r1 (W.of .i64 0)) (.ret ((Sl.nil:Sl 1 (W .u8)),r1))
 (.opt (Sl.make? 1 (W.of .u8 0) size size) fun l2=>
 .opt (L_rom_Load_21 ((size,l2,im.Segs,(Sl.len im.Segs),(W.of .i64 0),()))) fun o7=>
 .sum o7 (fun p8=>
 .ret (p8.1,p8.2.1))
 (fun o9=>
 .ret (o9.2.2.1,(W.of .i64 0)))))))
def F_rom_Load (size:W .i64) (im:TImage):Option (Sl 1 (W .u8)×W .i64):=(T_rom_Load size im).eval
def T_step_New (im:TImage) (size:W .i64):Tree (TMach×W .i64):=
 .opt (F_rom_Load size im) fun r1=>
 .ite (W.ne r1.2 (W.of .i64 0)) (.ret ((TMach.mk (TArch.mk (W.of .u32 0) (Arr.rep 16 (W.of .u32 0):Arr 16 (W .u32)) (Arr.rep 12 (W.of .u32 0):Arr 12 (W .u32)) false) (Sl.nil:Sl 1 (W .u8)) (Sl.nil:Sl 1 (W .u8)) (Sl.nil:Sl 4 (W .u32))),r1.2))
 (.ret ((TMach.mk (TArch.mk im.Start (Arr.rep 16 (W.of .u32 0):Arr 16 (W .u32)) (Arr.set (Arr.rep 12 (W.of .u32 0):Arr 12 (W .u32)) 0 (W.of .u32 1)) false) r1.1 r1.1 (Sl.nil:Sl 4 (W .u32))),(W.of .i64 0)))
def F_step_New (im:TImage) (size:W .i64):Option (TMach×W .i64):=(T_step_New im size).eval
def T_core_Plain :Tree (TConf):=
 .ret (TConf.mk (W.of .i64 2) (W.of .i64 2) (W.of .i64 2) (W.of .i64 2) (W.of .i64 8) (W.of .i64 16) (W.of .i64 8) (W.of .i64 4) (W.of .i64 4) (W.of .i64 4) (W.of .i64 32) (W.of .i64 4) (W.of .i64 4) (W.of .i64 4) (W.of .i64 4) (W.of .i64 4) (W.of .i64 3) (W.of .i64 8) (W.of .i64 4) (W.of .i64 4) (W.of .i64 2) true)
def F_core_Plain :Option (TConf):=(T_core_Plain).eval
def T_core_bounds (c:TConf):Tree (Sl 24 (TBound)):=
 .ret (Sl.lit 24 [(TBound.mk c.Fetch (W.of .i64 1) (W.of .i64 4)),(TBound.mk c.Wide (W.of .i64 1) (W.of .i64 4)),(TBound.mk c.Issue (W.of .i64 1) (W.of .i64 4)),(TBound.mk c.Retire (W.of .i64 1) (W.of .i64 4)),(TBound.mk c.Queue (W.of .i64 1) (W.of .i64 16)),(TBound.mk c.Rob (W.of .i64 2) (W.of .i64 64)),(TBound.mk c.Iq (W.of .i64 2) (W.of .i64 32)),(TBound.mk c.Lq (W.of .i64 1) (W.of .i64 16)),(TBound.mk c.Sq (W.of .i64 1) (W.of .i64 16)),(TBound.mk c.Sb (W.of .i64 1) (W.of .i64 8)),(TBound.mk c.Phys (W.of .i64 18) (W.of .i64 96)),(TBound.mk c.Hist (W.of .i64 0) (W.of .i64 8)),(TBound.mk c.Btb (W.of .i64 0) (W.of .i64 16)),(TBound.mk c.Ras (W.of .i64 0) (W.of .i64 16)),(TBound.mk c.Dep (W.of .i64 0) (W.of .i64 16)),(TBound.mk c.Tlb (W.of .i64 0) (W.of .i64 8)),(TBound.mk c.MulLat (W.of .i64 1) (W.of .i64 32)),(TBound.mk c.DivLat (W.of .i64 1) (W.of .i64 32)),(TBound.mk c.MemLat (W.of .i64 1) (W.of .i64 32)),(TBound.mk c.Sets (W.of .i64 1) (W.of .i64 8)),(TBound.mk c.Ways (W.of .i64 1) (W.of .i64 4))] rfl:Sl 24 (TBound))
def F_core_bounds (c:TConf):Option (Sl 24 (TBound)):=(T_core_bounds c).eval
def T_core_Conf_1 (b:TBound):Tree (Bool):=
 .ite (W.lt b.n_ b.least) (.ret true)
 (.ret (W.gt b.n_ b.most))
def F_core_Conf_1 (b:TBound):Option (Bool):=(T_core_Conf_1 b).eval
def B_slices_IndexFunc_bound_of_core_Conf_1_5 (s:Sl 24 (TBound)) (t_7 t_8:W .i64):Tree (Rnd (Sl 24 (TBound)×((Unit)×(Unit))×W .i64×W .i64×Unit) ((W .i64×Unit)⊕(Unit×Unit))):=
 .ite (W.lt t_8 t_7) (.opt (Sl.get? s t_8) fun y1=>
 .opt (F_core_Conf_1 y1) fun r2=>
 .ite r2 (.ret (.out (.inl (t_8,()))))
 (.ret (.next (s,((),()),t_7,(W.add t_8 (W.of .i64 1)),()))))
 (.ret (.out (.inr ((),()))))
def L_slices_IndexFunc_bound_of_core_Conf_1_5 (a:Sl 24 (TBound)×((Unit)×(Unit))×W .i64×W .i64×Unit):Option ((W .i64×Unit)⊕(Unit×Unit)):=iter (fun a:Sl 24 (TBound)×((Unit)×(Unit))×W .i64×W .i64×Unit=>(B_slices_IndexFunc_bound_of_core_Conf_1_5 a.1 a.2.2.1 a.2.2.2.1).eval) fuel a
def T_slices_IndexFunc_bound_of_core_Conf_1 (s:Sl 24 (TBound)):Tree (W .i64):=
 .opt (L_slices_IndexFunc_bound_of_core_Conf_1_5 ((s,((),()),(Sl.len s),(W.of .i64 0),()))) fun o3=>
 .sum o3 (fun p4=>
 .ret p4.1)
 (fun o5=>
 .ret (W.of .i64 (-1)))
def F_slices_IndexFunc_bound_of_core_Conf_1 (s:Sl 24 (TBound)):Option (W .i64):=(T_slices_IndexFunc_bound_of_core_Conf_1 s).eval
def T_slices_ContainsFunc_bound_of_core_Conf_1 (s:Sl 24 (TBound)):Tree (Bool):=
 .opt (F_slices_IndexFunc_bound_of_core_Conf_1 s) fun r1=>
 .ret (W.ge r1 (W.of .i64 0))
def F_slices_ContainsFunc_bound_of_core_Conf_1 (s:Sl 24 (TBound)):Option (Bool):=(T_slices_ContainsFunc_bound_of_core_Conf_1 s).eval
def T_core_Conf (c:TConf):Tree (W .i64):=
 .opt (F_core_bounds c) fun r1=>
 .opt (F_slices_ContainsFunc_bound_of_core_Conf_1 r1) fun r2=>
 .ite r2 (.ret (W.of .i64 3))
 (.ret (W.of .i64 0))
def F_core_Conf (c:TConf):Option (W .i64):=(T_core_Conf c).eval
def T_csr_Masked (n_0:W .i64):Tree (W .u32):=
 .ite (W.lt n_0 (W.of .i64 0)) (.ret (W.of .u32 0))
 (.ite (W.ge n_0 (W.of .i64 12)) (.ret (W.of .u32 0))
 (.opt (idx? 12 n_0) fun j1=>
 .ret (Arr.get (Arr.lit 12 [(W.of .u32 63),(W.of .u32 31),(W.of .u32 4294967295),(W.of .u32 4294967295),(W.of .u32 4294967295),(W.of .u32 4294967232),(W.of .u32 4294967295),(W.of .u32 4294967295),(W.of .u32 4294967295),(W.of .u32 7),(W.of .u32 7),(W.of .u32 4294967295)] rfl:Arr 12 (W .u32)) j1)))
def F_csr_Masked (n_0:W .i64):Option (W .u32):=(T_csr_Masked n_0).eval
def B_core_clean_5 (a:TArch) (t_6:Arr 12 (W .u32)) (t_7:W .i64):Tree (Rnd (TArch×Arr 12 (W .u32)×W .i64×Unit) ((TArch×Bool×Unit)⊕(TArch×Unit×Unit))):=
 .ite (W.lt t_7 (W.of .i64 12)) (.opt (idx? 12 t_7) fun j1=>
 .opt (F_csr_Masked t_7) fun r2=>
 .ite (W.ne (W.andNot (Arr.get t_6 j1) r2) (W.of .u32 0)) (.ret (.out (.inl (a,false,()))))
 (.ret (.next (a,t_6,(W.add t_7 (W.of .i64 1)),()))))
 (.ret (.out (.inr (a,(),()))))
def L_core_clean_5 (a:TArch×Arr 12 (W .u32)×W .i64×Unit):Option ((TArch×Bool×Unit)⊕(TArch×Unit×Unit)):=iter (fun a:TArch×Arr 12 (W .u32)×W .i64×Unit=>(B_core_clean_5 a.1 a.2.1 a.2.2.1).eval) fuel a
def T_core_clean (a:TArch):Tree (Bool):=
 .opt (L_core_clean_5 ((a,a.C,(W.of .i64 0),()))) fun o3=>
 .sum o3 (fun p4=>
 .ret p4.2.1)
 (fun o5=>
 .ret (W.eq (Arr.get o5.1.R 0) (W.of .u32 0)))
def F_core_clean (a:TArch):Option (Bool):=(T_core_clean a).eval
def T_core_right (m:TMach):Tree (Bool):=
 .ite (W.ne (W.rem (Sl.len m.Mem) (W.of .i64 64)) (W.of .i64 0)) (.ret false)
 (.ite (W.lt (Sl.len m.Mem) (W.of .i64 64)) (.ret false)
 (.ite (W.gt (Sl.len m.Mem) (W.of .i64 16384)) (.ret false)
 (.ite (W.ne (Sl.len m.Shadow) (Sl.len m.Mem)) (.ret false)
 (.opt (F_core_clean m.A) fun r1=>
 .ret r1))))
def F_core_right (m:TMach):Option (Bool):=(T_core_right m).eval
def T_step_Copy (m:TMach):Tree (TMach):=
 .ret ({ m with Mem:=m.Mem,Shadow:=m.Shadow,Out:=m.Out }:TMach)
def F_step_Copy (m:TMach):Option (TMach):=(T_step_Copy m).eval
def T_pht_clamp (bits:W .i64):Tree (W .i64):=
 .ret (W.min (W.max bits (W.of .i64 0)) (W.of .i64 8))
def F_pht_clamp (bits:W .i64):Option (W .i64):=(T_pht_clamp bits).eval
def T_bits_Mul64 (x y:W .u64):Tree (W .u64×W .u64):=
 .ret ((W.add (W.add (W.mul (W.shr x (W.of .u64 32)) (W.shr y (W.of .u64 32))) (W.shr (W.add (W.mul (W.shr x (W.of .u64 32)) (W.and y (W.of .u64 4294967295))) (W.shr (W.mul (W.and x (W.of .u64 4294967295)) (W.and y (W.of .u64 4294967295))) (W.of .u64 32))) (W.of .u64 32))) (W.shr (W.add (W.and (W.add (W.mul (W.shr x (W.of .u64 32)) (W.and y (W.of .u64 4294967295))) (W.shr (W.mul (W.and x (W.of .u64 4294967295)) (W.and y (W.of .u64 4294967295))) (W.of .u64 32))) (W.of .u64 4294967295)) (W.mul (W.and x (W.of .u64 4294967295)) (W.shr y (W.of .u64 32)))) (W.of .u64 32))),(W.mul x y))
def F_bits_Mul64 (x y:W .u64):Option (W .u64×W .u64):=(T_bits_Mul64 x y).eval
def T_bits_Mul (x y:W .u64):Tree (W .u64×W .u64):=
 .opt (F_bits_Mul64 x y) fun r1=>
 .ret (r1.1,r1.2)
def F_bits_Mul (x y:W .u64):Option (W .u64×W .u64):=(T_bits_Mul x y).eval
def B_slices_Repeat_uint8_17 (newslice:Sl 1 (W .u8)) (n_8:W .i64):Tree (Rnd (Sl 1 (W .u8)×W .i64×Unit) (Sl 1 (W .u8)×Unit)):=
 .ite (W.lt n_8 (Sl.len newslice)) (.opt (nat? n_8) fun n3=>
 .opt (vw? (List.length newslice.l) (some n3) (none)) fun j4=>
 .opt (nat? n_8) fun n5=>
 .opt (vw? (List.length newslice.l) (none) (some n5)) fun j6=>
 .ret (.next ((Sl.copy newslice n3 (Sl.cut newslice 0 n5)),(W.add n_8 (Sl.copyLen newslice n3 (Sl.cut newslice 0 n5))),())))
 (.ret (.out (newslice,())))
def L_slices_Repeat_uint8_17 (a:Sl 1 (W .u8)×W .i64×Unit):Option (Sl 1 (W .u8)×Unit):=iter (fun a:Sl 1 (W .u8)×W .i64×Unit=>(B_slices_Repeat_uint8_17 a.1 a.2.1).eval) fuel a
def T_slices_Repeat_uint8 (x:Sl 1 (W .u8)) (count:W .i64):Tree (Sl 1 (W .u8)):=
 .ite (W.lt count (W.of .i64 0)) (.fail)
 (.opt (F_bits_Mul (W.conv (.u64) (Sl.len x)) (W.conv (.u64) count)) fun r1=>
 .ite (W.gt r1.1 (W.of .u64 0)) (.fail)
 (.ite (W.gt r1.2 (W.of .u64 9223372036854775807)) (.fail)
 (.opt (Sl.make? 1 (W.of .u8 0) (W.conv (.i64) r1.2) (W.conv (.i64) r1.2)) fun l2=>
 .opt (L_slices_Repeat_uint8_17 (((Sl.copy l2 0 x),(Sl.copyLen l2 0 x),()))) fun o7=>
 .ret o7.1)))
def F_slices_Repeat_uint8 (x:Sl 1 (W .u8)) (count:W .i64):Option (Sl 1 (W .u8)):=(T_slices_Repeat_uint8 x count).eval
def T_pht_New (bits:W .i64):Tree (Sl 1 (W .u8)):=
 .opt (F_pht_clamp bits) fun r1=>
 .opt (W.shl? (W.of .i64 1) r1) fun z2=>
 .opt (F_slices_Repeat_uint8 (Sl.lit 1 [(W.of .u8 1)] rfl:Sl 1 (W .u8)) z2) fun r3=>
 .ret r3
def F_pht_New (bits:W .i64):Option (Sl 1 (W .u8)):=(T_pht_New bits).eval
def T_btb_New (n_0:W .i64):Tree (Sl 16 (TBtb)):=
 .opt (Sl.make? 16 (TBtb.mk (W.of .u32 0) (W.of .u32 0) (W.of .i64 0)) (W.min (W.max n_0 (W.of .i64 0)) (W.of .i64 16)) (W.min (W.max n_0 (W.of .i64 0)) (W.of .i64 16))) fun l1=>
 .ret l1
def F_btb_New (n_0:W .i64):Option (Sl 16 (TBtb)):=(T_btb_New n_0).eval
def T_ras_New (n_0:W .i64):Tree (Sl 4 (W .u32)):=
 .opt (Sl.make? 4 (W.of .u32 0) (W.min (W.max n_0 (W.of .i64 0)) (W.of .i64 16)) (W.min (W.max n_0 (W.of .i64 0)) (W.of .i64 16))) fun l1=>
 .ret l1
def F_ras_New (n_0:W .i64):Option (Sl 4 (W .u32)):=(T_ras_New n_0).eval
def T_pred_New (c:TConf):Tree (TPred):=
 .opt (F_pht_New c.Hist) fun r1=>
 .opt (F_btb_New c.Btb) fun r2=>
 .opt (F_ras_New c.Ras) fun r3=>
 .ret (TPred.mk (W.of .u32 0) r1 r2 (W.of .i64 0) r3 (W.of .i64 0))
def F_pred_New (c:TConf):Option (TPred):=(T_pred_New c).eval
def T_tlb_New (n_0:W .i64):Tree (Sl 24 (TTlb)):=
 .opt (Sl.make? 24 (TTlb.mk false (W.of .u32 0) (TPte.mk (W.of .u32 0) (W.of .i64 0))) (W.min (W.max n_0 (W.of .i64 0)) (W.of .i64 8)) (W.min (W.max n_0 (W.of .i64 0)) (W.of .i64 8))) fun l1=>
 .ret l1
def F_tlb_New (n_0:W .i64):Option (Sl 24 (TTlb)):=(T_tlb_New n_0).eval
def T_dep_New (n_0:W .i64):Tree (Sl 1 (W .u8)):=
 .opt (Sl.make? 1 (W.of .u8 0) (W.min (W.max n_0 (W.of .i64 0)) (W.of .i64 16)) (W.min (W.max n_0 (W.of .i64 0)) (W.of .i64 16))) fun l1=>
 .ret l1
def F_dep_New (n_0:W .i64):Option (Sl 1 (W .u8)):=(T_dep_New n_0).eval
def B_rat_New_7 (t_0 m:Arr 16 (W .i64)) (r:W .i64):Tree (Rnd (Arr 16 (W .i64)×Arr 16 (W .i64)×W .i64×Unit) (Arr 16 (W .i64)×Arr 16 (W .i64)×Unit)):=
 .ite (W.lt r (W.of .i64 16)) (.opt (idx? 16 r) fun j1=>
 .ret (.next (t_0,(Arr.set m j1 r),(W.add r (W.of .i64 1)),())))
 (.ret (.out (t_0,m,())))
def L_rat_New_7 (a:Arr 16 (W .i64)×Arr 16 (W .i64)×W .i64×Unit):Option (Arr 16 (W .i64)×Arr 16 (W .i64)×Unit):=iter (fun a:Arr 16 (W .i64)×Arr 16 (W .i64)×W .i64×Unit=>(B_rat_New_7 a.1 a.2.1 a.2.2.1).eval) fuel a
def T_rat_New :Tree (Arr 16 (W .i64)):=
 .opt (L_rat_New_7 (((Arr.rep 16 (W.of .i64 0):Arr 16 (W .i64)),(Arr.lit 16 [(W.of .i64 (-1)),(W.of .i64 0),(W.of .i64 0),(W.of .i64 0),(W.of .i64 0),(W.of .i64 0),(W.of .i64 0),(W.of .i64 0),(W.of .i64 0),(W.of .i64 0),(W.of .i64 0),(W.of .i64 0),(W.of .i64 0),(W.of .i64 0),(W.of .i64 0),(W.of .i64 0)] rfl:Arr 16 (W .i64)),(W.of .i64 1),()))) fun o2=>
 .ret o2.2.1
def F_rat_New :Option (Arr 16 (W .i64)):=(T_rat_New).eval
def B_freel_New_11 (used:W .i64) (t_4 f:TFree) (t_21 t_22:W .i64):Tree (Rnd (W .i64×TFree×TFree×W .i64×W .i64×Unit) (TFree×TFree×Unit)):=
 .ite (W.lt t_22 t_21) (.opt (idx? (List.length f.Ring.l) t_22) fun j2=>
 .ret (.next (used,t_4,({ f with Ring:=(Sl.set f.Ring j2 (W.add used t_22)) }:TFree),t_21,(W.add t_22 (W.of .i64 1)),())))
 (.ret (.out (t_4,f,())))
def L_freel_New_11 (a:W .i64×TFree×TFree×W .i64×W .i64×Unit):Option (TFree×TFree×Unit):=iter (fun a:W .i64×TFree×TFree×W .i64×W .i64×Unit=>(B_freel_New_11 a.1 a.2.1 a.2.2.1 a.2.2.2.1 a.2.2.2.2.1).eval) fuel a
def T_freel_New (n_0 used:W .i64):Tree (TFree):=
 .opt (Sl.make? 8 (W.of .i64 0) (W.min (W.max n_0 (W.of .i64 0)) (W.of .i64 96)) (W.min (W.max n_0 (W.of .i64 0)) (W.of .i64 96))) fun l1=>
 .opt (L_freel_New_11 (((W.min (W.max used (W.of .i64 0)) (W.min (W.max n_0 (W.of .i64 0)) (W.of .i64 96))),(TFree.mk (Sl.nil:Sl 8 (W .i64)) (W.of .i64 0) (W.of .i64 0)),(TFree.mk l1 (W.of .i64 0) (W.sub (W.min (W.max n_0 (W.of .i64 0)) (W.of .i64 96)) (W.min (W.max used (W.of .i64 0)) (W.min (W.max n_0 (W.of .i64 0)) (W.of .i64 96))))),(W.sub (W.min (W.max n_0 (W.of .i64 0)) (W.of .i64 96)) (W.min (W.max used (W.of .i64 0)) (W.min (W.max n_0 (W.of .i64 0)) (W.of .i64 96)))),(W.of .i64 0),()))) fun o3=>
 .ret o3.2.1
def F_freel_New (n_0 used:W .i64):Option (TFree):=(T_freel_New n_0 used).eval
def T_rename_New (n_0:W .i64):Tree (TNames):=
 .opt (F_rat_New) fun r1=>
 .opt (F_rat_New) fun r2=>
 .opt (F_freel_New n_0 (W.of .i64 16)) fun r3=>
 .ret (TNames.mk r1 r2 r3 (W.of .u64 1))
def F_rename_New (n_0:W .i64):Option (TNames):=(T_rename_New n_0).eval
def B_slices_Repeat_bool_17 (newslice:Sl 1 (Bool)) (n_8:W .i64):Tree (Rnd (Sl 1 (Bool)×W .i64×Unit) (Sl 1 (Bool)×Unit)):=
 .ite (W.lt n_8 (Sl.len newslice)) (.opt (nat? n_8) fun n3=>
 .opt (vw? (List.length newslice.l) (some n3) (none)) fun j4=>
 .opt (nat? n_8) fun n5=>
 .opt (vw? (List.length newslice.l) (none) (some n5)) fun j6=>
 .ret (.next ((Sl.copy newslice n3 (Sl.cut newslice 0 n5)),(W.add n_8 (Sl.copyLen newslice n3 (Sl.cut newslice 0 n5))),())))
 (.ret (.out (newslice,())))
def L_slices_Repeat_bool_17 (a:Sl 1 (Bool)×W .i64×Unit):Option (Sl 1 (Bool)×Unit):=iter (fun a:Sl 1 (Bool)×W .i64×Unit=>(B_slices_Repeat_bool_17 a.1 a.2.1).eval) fuel a
def T_slices_Repeat_bool (x:Sl 1 (Bool)) (count:W .i64):Tree (Sl 1 (Bool)):=
 .ite (W.lt count (W.of .i64 0)) (.fail)
 (.opt (F_bits_Mul (W.conv (.u64) (Sl.len x)) (W.conv (.u64) count)) fun r1=>
 .ite (W.gt r1.1 (W.of .u64 0)) (.fail)
 (.ite (W.gt r1.2 (W.of .u64 9223372036854775807)) (.fail)
 (.opt (Sl.make? 1 false (W.conv (.i64) r1.2) (W.conv (.i64) r1.2)) fun l2=>
 .opt (L_slices_Repeat_bool_17 (((Sl.copy l2 0 x),(Sl.copyLen l2 0 x),()))) fun o7=>
 .ret o7.1)))
def F_slices_Repeat_bool (x:Sl 1 (Bool)) (count:W .i64):Option (Sl 1 (Bool)):=(T_slices_Repeat_bool x count).eval
def T_prf_New (n_0:W .i64):Tree (TPhys):=
 .opt (Sl.make? 4 (W.of .u32 0) (W.min (W.max n_0 (W.of .i64 0)) (W.of .i64 96)) (W.min (W.max n_0 (W.of .i64 0)) (W.of .i64 96))) fun l1=>
 .opt (F_slices_Repeat_bool (Sl.lit 1 [true] rfl:Sl 1 (Bool)) (W.min (W.max n_0 (W.of .i64 0)) (W.of .i64 96))) fun r2=>
 .ret (TPhys.mk l1 r2)
def F_prf_New (n_0:W .i64):Option (TPhys):=(T_prf_New n_0).eval
def F_slices_Clone_uint32 (s:Sl 4 (W .u32)):Option (Sl 4 (W .u32)):=some s
def F_slices_Clone_bool (s:Sl 1 (Bool)):Option (Sl 1 (Bool)):=some s
def T_prf_has (f:TPhys) (p:W .i64):Tree (Bool):=
 .ite (W.ge p (W.of .i64 0)) (.ite (W.lt p (Sl.len f.Val)) (.ret (W.lt p (Sl.len f.Ready)))
 (.ret false))
 (.ret false)
def F_prf_has (f:TPhys) (p:W .i64):Option (Bool):=(T_prf_has f p).eval
def T_prf_Put (f:TPhys) (p:W .i64) (v:W .u32):Tree (TPhys):=
 .opt (F_slices_Clone_uint32 f.Val) fun r1=>
 .opt (F_slices_Clone_bool f.Ready) fun r2=>
 .opt (F_prf_has f p) fun r3=>
 .ite r3 (.opt (idx? (List.length r1.l) p) fun j4=>
 .opt (idx? (List.length r2.l) p) fun j5=>
 .ret (TPhys.mk (Sl.set r1 j4 v) (Sl.set r2 j5 true)))
 (.ret (TPhys.mk r1 r2))
def F_prf_Put (f:TPhys) (p:W .i64) (v:W .u32):Option (TPhys):=(T_prf_Put f p v).eval
def B_core_New_27 (m:TMach) (t_4 k:TCore) (r:W .i64):Tree (Rnd (TMach×TCore×TCore×W .i64×Unit) (TCore×TCore×Unit)):=
 .ite (W.lt r (W.of .i64 16)) (.opt (idx? 16 r) fun j9=>
 .opt (F_prf_Put k.Phys r (Arr.get m.A.R j9)) fun r10=>
 .ret (.next (m,t_4,({ k with Phys:=r10 }:TCore),(W.add r (W.of .i64 1)),())))
 (.ret (.out (t_4,k,())))
def L_core_New_27 (a:TMach×TCore×TCore×W .i64×Unit):Option (TCore×TCore×Unit):=iter (fun a:TMach×TCore×TCore×W .i64×Unit=>(B_core_New_27 a.1 a.2.1 a.2.2.1 a.2.2.2.1).eval) fuel a
def T_core_New (c:TConf) (m:TMach):Tree (TCore×W .i64):=
 .opt (F_core_Conf c) fun r1=>
 .ite (W.ne r1 (W.of .i64 0)) (.ret ((TCore.mk (TConf.mk (W.of .i64 0) (W.of .i64 0) (W.of .i64 0) (W.of .i64 0) (W.of .i64 0) (W.of .i64 0) (W.of .i64 0) (W.of .i64 0) (W.of .i64 0) (W.of .i64 0) (W.of .i64 0) (W.of .i64 0) (W.of .i64 0) (W.of .i64 0) (W.of .i64 0) (W.of .i64 0) (W.of .i64 0) (W.of .i64 0) (W.of .i64 0) (W.of .i64 0) (W.of .i64 0) false) (TArch.mk (W.of .u32 0) (Arr.rep 16 (W.of .u32 0):Arr 16 (W .u32)) (Arr.rep 12 (W.of .u32 0):Arr 12 (W .u32)) false) (Sl.nil:Sl 1 (W .u8)) (Sl.nil:Sl 4 (W .u32)) (W.of .u32 0) false (TPred.mk (W.of .u32 0) (Sl.nil:Sl 1 (W .u8)) (Sl.nil:Sl 16 (TBtb)) (W.of .i64 0) (Sl.nil:Sl 4 (W .u32)) (W.of .i64 0)) (Sl.nil:Sl 24 (TTlb)) (W.of .i64 0) (Sl.nil:Sl 56 (TSlot)) (TNames.mk (Arr.rep 16 (W.of .i64 0):Arr 16 (W .i64)) (Arr.rep 16 (W.of .i64 0):Arr 16 (W .i64)) (TFree.mk (Sl.nil:Sl 8 (W .i64)) (W.of .i64 0) (W.of .i64 0)) (W.of .u64 0)) (TPhys.mk (Sl.nil:Sl 4 (W .u32)) (Sl.nil:Sl 1 (Bool))) (Sl.nil:Sl 248 (TRob)) (Sl.nil:Sl 224 (TIq)) (Sl.nil:Sl 48 (TLq)) (Sl.nil:Sl 32 (TSq)) (Sl.nil:Sl 16 (TSb)) (Sl.nil:Sl 256 (TFlight)) (Sl.nil:Sl 1 (W .u8)) (W.of .i64 0) (W.of .i64 0)),r1))
 (.opt (F_core_right m) fun r2=>
 .ite (!r2) (.ret ((TCore.mk (TConf.mk (W.of .i64 0) (W.of .i64 0) (W.of .i64 0) (W.of .i64 0) (W.of .i64 0) (W.of .i64 0) (W.of .i64 0) (W.of .i64 0) (W.of .i64 0) (W.of .i64 0) (W.of .i64 0) (W.of .i64 0) (W.of .i64 0) (W.of .i64 0) (W.of .i64 0) (W.of .i64 0) (W.of .i64 0) (W.of .i64 0) (W.of .i64 0) (W.of .i64 0) (W.of .i64 0) false) (TArch.mk (W.of .u32 0) (Arr.rep 16 (W.of .u32 0):Arr 16 (W .u32)) (Arr.rep 12 (W.of .u32 0):Arr 12 (W .u32)) false) (Sl.nil:Sl 1 (W .u8)) (Sl.nil:Sl 4 (W .u32)) (W.of .u32 0) false (TPred.mk (W.of .u32 0) (Sl.nil:Sl 1 (W .u8)) (Sl.nil:Sl 16 (TBtb)) (W.of .i64 0) (Sl.nil:Sl 4 (W .u32)) (W.of .i64 0)) (Sl.nil:Sl 24 (TTlb)) (W.of .i64 0) (Sl.nil:Sl 56 (TSlot)) (TNames.mk (Arr.rep 16 (W.of .i64 0):Arr 16 (W .i64)) (Arr.rep 16 (W.of .i64 0):Arr 16 (W .i64)) (TFree.mk (Sl.nil:Sl 8 (W .i64)) (W.of .i64 0) (W.of .i64 0)) (W.of .u64 0)) (TPhys.mk (Sl.nil:Sl 4 (W .u32)) (Sl.nil:Sl 1 (Bool))) (Sl.nil:Sl 248 (TRob)) (Sl.nil:Sl 224 (TIq)) (Sl.nil:Sl 48 (TLq)) (Sl.nil:Sl 32 (TSq)) (Sl.nil:Sl 16 (TSb)) (Sl.nil:Sl 256 (TFlight)) (Sl.nil:Sl 1 (W .u8)) (W.of .i64 0) (W.of .i64 0)),(W.of .i64 1)))
 (.opt (F_step_Copy m) fun r3=>
 .opt (F_pred_New c) fun r4=>
 .opt (F_tlb_New c.Tlb) fun r5=>
 .opt (F_dep_New c.Dep) fun r6=>
 .opt (F_rename_New c.Phys) fun r7=>
 .opt (F_prf_New c.Phys) fun r8=>
 .opt (L_core_New_27 ((r3,(TCore.mk (TConf.mk (W.of .i64 0) (W.of .i64 0) (W.of .i64 0) (W.of .i64 0) (W.of .i64 0) (W.of .i64 0) (W.of .i64 0) (W.of .i64 0) (W.of .i64 0) (W.of .i64 0) (W.of .i64 0) (W.of .i64 0) (W.of .i64 0) (W.of .i64 0) (W.of .i64 0) (W.of .i64 0) (W.of .i64 0) (W.of .i64 0) (W.of .i64 0) (W.of .i64 0) (W.of .i64 0) false) (TArch.mk (W.of .u32 0) (Arr.rep 16 (W.of .u32 0):Arr 16 (W .u32)) (Arr.rep 12 (W.of .u32 0):Arr 12 (W .u32)) false) (Sl.nil:Sl 1 (W .u8)) (Sl.nil:Sl 4 (W .u32)) (W.of .u32 0) false (TPred.mk (W.of .u32 0) (Sl.nil:Sl 1 (W .u8)) (Sl.nil:Sl 16 (TBtb)) (W.of .i64 0) (Sl.nil:Sl 4 (W .u32)) (W.of .i64 0)) (Sl.nil:Sl 24 (TTlb)) (W.of .i64 0) (Sl.nil:Sl 56 (TSlot)) (TNames.mk (Arr.rep 16 (W.of .i64 0):Arr 16 (W .i64)) (Arr.rep 16 (W.of .i64 0):Arr 16 (W .i64)) (TFree.mk (Sl.nil:Sl 8 (W .i64)) (W.of .i64 0) (W.of .i64 0)) (W.of .u64 0)) (TPhys.mk (Sl.nil:Sl 4 (W .u32)) (Sl.nil:Sl 1 (Bool))) (Sl.nil:Sl 248 (TRob)) (Sl.nil:Sl 224 (TIq)) (Sl.nil:Sl 48 (TLq)) (Sl.nil:Sl 32 (TSq)) (Sl.nil:Sl 16 (TSb)) (Sl.nil:Sl 256 (TFlight)) (Sl.nil:Sl 1 (W .u8)) (W.of .i64 0) (W.of .i64 0)),(TCore.mk c r3.A r3.Shadow r3.Out r3.A.PC false r4 r5 (W.of .i64 0) (Sl.nil:Sl 56 (TSlot)) r7 r8 (Sl.nil:Sl 248 (TRob)) (Sl.nil:Sl 224 (TIq)) (Sl.nil:Sl 48 (TLq)) (Sl.nil:Sl 32 (TSq)) (Sl.nil:Sl 16 (TSb)) (Sl.nil:Sl 256 (TFlight)) r6 (W.of .i64 0) (W.of .i64 0)),(W.of .i64 1),()))) fun o11=>
 .ret (o11.2.1,(W.of .i64 0))))
def F_core_New (c:TConf) (m:TMach):Option (TCore×W .i64):=(T_core_New c m).eval
def T_csr_Kernel (a:TArch):Tree (Bool):=
 .ret (W.ne (W.and (Arr.get a.C 0) (W.of .u32 1)) (W.of .u32 0))
def F_csr_Kernel (a:TArch):Option (Bool):=(T_csr_Kernel a).eval
def T_trap_sources :Tree (Arr 3 (TSource)):=
 .ret (Arr.lit 3 [(TSource.mk (W.of .u32 1) (W.of .i64 16)),(TSource.mk (W.of .u32 2) (W.of .i64 17)),(TSource.mk (W.of .u32 4) (W.of .i64 18))] rfl:Arr 3 (TSource))
def F_trap_sources :Option (Arr 3 (TSource)):=(T_trap_sources).eval
def B_trap_Pending_13 (open_3:W .u32) (t_22:Arr 3 (TSource)) (t_23:W .i64):Tree (Rnd (W .u32×Arr 3 (TSource)×W .i64×Unit) ((W .i64×Unit)⊕(Unit×Unit))):=
 .ite (W.lt t_23 (W.of .i64 3)) (.opt (idx? 3 t_23) fun j3=>
 .ite (W.ne (W.and open_3 (Arr.get t_22 j3).line) (W.of .u32 0)) (.ret (.out (.inl ((Arr.get t_22 j3).cause,()))))
 (.ret (.next (open_3,t_22,(W.add t_23 (W.of .i64 1)),()))))
 (.ret (.out (.inr ((),()))))
def L_trap_Pending_13 (a:W .u32×Arr 3 (TSource)×W .i64×Unit):Option ((W .i64×Unit)⊕(Unit×Unit)):=iter (fun a:W .u32×Arr 3 (TSource)×W .i64×Unit=>(B_trap_Pending_13 a.1 a.2.1 a.2.2.1).eval) fuel a
def T_trap_Pending (a:TArch):Tree (W .i64):=
 .opt (F_csr_Kernel a) fun r1=>
 .ite r1 (.ite (W.eq (W.and (Arr.get a.C 0) (W.of .u32 2)) (W.of .u32 0)) (.ret (W.of .i64 0))
 (.opt (F_trap_sources) fun r2=>
 .opt (L_trap_Pending_13 (((W.and (Arr.get a.C 10) (Arr.get a.C 9)),r2,(W.of .i64 0),()))) fun o4=>
 .sum o4 (fun p5=>
 .ret p5.1)
 (fun o6=>
 .ret (W.of .i64 0))))
 (.opt (F_trap_sources) fun r7=>
 .opt (L_trap_Pending_13 (((W.and (Arr.get a.C 10) (Arr.get a.C 9)),r7,(W.of .i64 0),()))) fun o8=>
 .sum o8 (fun p9=>
 .ret p9.1)
 (fun o10=>
 .ret (W.of .i64 0)))
def F_trap_Pending (a:TArch):Option (W .i64):=(T_trap_Pending a).eval
def T_trap_moved (s from_1 to_2:W .u32):Tree (W .u32):=
 .ite (W.ne (W.and s from_1) (W.of .u32 0)) (.ret (W.or s to_2))
 (.ret (W.andNot s to_2))
def F_trap_moved (s from_1 to_2:W .u32):Option (W .u32):=(T_trap_moved s from_1 to_2).eval
def T_trap_Take (a:TArch) (cause:W .i64) (val epc:W .u32):Tree (TArch):=
 .opt (F_csr_Masked (W.of .i64 1)) fun r1=>
 .opt (F_trap_moved (Arr.get (Arr.set (Arr.set (Arr.set a.C 1 (W.and (W.conv (.u32) cause) r1)) 2 val) 3 epc) 0) (W.of .u32 1) (W.of .u32 4)) fun r2=>
 .opt (F_trap_moved r2 (W.of .u32 2) (W.of .u32 8)) fun r3=>
 .ret ({ a with C:=(Arr.set (Arr.set (Arr.set (Arr.set a.C 1 (W.and (W.conv (.u32) cause) r1)) 2 val) 3 epc) 0 (W.andNot (W.or r3 (W.of .u32 1)) (W.of .u32 2))),PC:=(Arr.get (Arr.set (Arr.set (Arr.set (Arr.set a.C 1 (W.and (W.conv (.u32) cause) r1)) 2 val) 3 epc) 0 (W.andNot (W.or r3 (W.of .u32 1)) (W.of .u32 2))) 4) }:TArch)
def F_trap_Take (a:TArch) (cause:W .i64) (val epc:W .u32):Option (TArch):=(T_trap_Take a cause val epc).eval
def T_retire_trapped (ahead behind:TArch) (cause:W .i64) (val:W .u32):Tree (TEvent):=
 .ret (TEvent.mk ahead.PC (W.of .u32 0) (W.of .i64 (-1)) (W.of .u32 0) (W.of .i64 (-1)) (W.of .u32 0) (W.of .i64 0) (W.of .u32 0) (W.of .u32 0) cause val behind.PC)
def F_retire_trapped (ahead behind:TArch) (cause:W .i64) (val:W .u32):Option (TEvent):=(T_retire_trapped ahead behind cause val).eval
def T_flush_oldest (c:TCore):Tree (TSlot×Bool):=
 .ite (W.gt (Sl.len c.Rob) (W.of .i64 0)) (.opt (Sl.get? c.Rob (W.of .i64 0)) fun y1=>
 .ret (y1.Ren.Uop.Slot,true))
 (.ite (W.gt (Sl.len c.Queue) (W.of .i64 0)) (.opt (Sl.get? c.Queue (W.of .i64 0)) fun y2=>
 .ret (y2,true))
 (.ret ((TSlot.mk (W.of .u32 0) (W.of .u32 0) (W.of .i64 0) (W.of .u32 0) (TGuess.mk false (W.of .u32 0) (TSave.mk (W.of .u32 0) (W.of .i64 0) (W.of .u32 0)))),false)))
def F_flush_oldest (c:TCore):Option (TSlot×Bool):=(T_flush_oldest c).eval
def B_slices_Reverse_Rob_3 (s:Sl 248 (TRob)) (i j:W .i64):Tree (Rnd (Sl 248 (TRob)×W .i64×W .i64×Unit) (Sl 248 (TRob)×Unit)):=
 .ite (W.lt i j) (.opt (idx? (List.length s.l) j) fun j1=>
 .opt (idx? (List.length s.l) i) fun j2=>
 .opt (idx? (List.length s.l) i) fun j3=>
 .opt (idx? (List.length (Sl.set s j3 (List.getD s.l j1 (TRob.mk (TRen.mk (TUop.mk (TInst.mk (W.of .i64 0) (W.of .i64 0) (W.of .i64 0) (W.of .i64 0) (W.of .i64 0)) (TSlot.mk (W.of .u32 0) (W.of .u32 0) (W.of .i64 0) (W.of .u32 0) (TGuess.mk false (W.of .u32 0) (TSave.mk (W.of .u32 0) (W.of .i64 0) (W.of .u32 0)))) (W.of .i64 0) (W.of .i64 0) false (Arr.rep 3 (W.of .i64 0):Arr 3 (W .i64)) (W.of .i64 0) (W.of .i64 0) (W.of .u32 0)) (W.of .u64 0) (Arr.rep 3 (W.of .i64 0):Arr 3 (W .i64)) (W.of .i64 0) (W.of .i64 0)) false (W.of .u32 0) (W.of .u32 0) (W.of .i64 0) (W.of .u32 0) false))).l) j) fun j4=>
 .ret (.next ((Sl.set (Sl.set s j3 (List.getD s.l j1 (TRob.mk (TRen.mk (TUop.mk (TInst.mk (W.of .i64 0) (W.of .i64 0) (W.of .i64 0) (W.of .i64 0) (W.of .i64 0)) (TSlot.mk (W.of .u32 0) (W.of .u32 0) (W.of .i64 0) (W.of .u32 0) (TGuess.mk false (W.of .u32 0) (TSave.mk (W.of .u32 0) (W.of .i64 0) (W.of .u32 0)))) (W.of .i64 0) (W.of .i64 0) false (Arr.rep 3 (W.of .i64 0):Arr 3 (W .i64)) (W.of .i64 0) (W.of .i64 0) (W.of .u32 0)) (W.of .u64 0) (Arr.rep 3 (W.of .i64 0):Arr 3 (W .i64)) (W.of .i64 0) (W.of .i64 0)) false (W.of .u32 0) (W.of .u32 0) (W.of .i64 0) (W.of .u32 0) false))) j4 (List.getD s.l j2 (TRob.mk (TRen.mk (TUop.mk (TInst.mk (W.of .i64 0) (W.of .i64 0) (W.of .i64 0) (W.of .i64 0) (W.of .i64 0)) (TSlot.mk (W.of .u32 0) (W.of .u32 0) (W.of .i64 0) (W.of .u32 0) (TGuess.mk false (W.of .u32 0) (TSave.mk (W.of .u32 0) (W.of .i64 0) (W.of .u32 0)))) (W.of .i64 0) (W.of .i64 0) false (Arr.rep 3 (W.of .i64 0):Arr 3 (W .i64)) (W.of .i64 0) (W.of .i64 0) (W.of .u32 0)) (W.of .u64 0) (Arr.rep 3 (W.of .i64 0):Arr 3 (W .i64)) (W.of .i64 0) (W.of .i64 0)) false (W.of .u32 0) (W.of .u32 0) (W.of .i64 0) (W.of .u32 0) false))),(W.add i (W.of .i64 1)),(W.sub j (W.of .i64 1)),())))
 (.ret (.out (s,())))
def L_slices_Reverse_Rob_3 (a:Sl 248 (TRob)×W .i64×W .i64×Unit):Option (Sl 248 (TRob)×Unit):=iter (fun a:Sl 248 (TRob)×W .i64×W .i64×Unit=>(B_slices_Reverse_Rob_3 a.1 a.2.1 a.2.2.1).eval) fuel a
def T_slices_Reverse_Rob (s:Sl 248 (TRob)):Tree (Sl 248 (TRob)):=
 .opt (L_slices_Reverse_Rob_3 ((s,(W.of .i64 0),(W.sub (Sl.len s) (W.of .i64 1)),()))) fun o5=>
 .ret o5.1
def F_slices_Reverse_Rob (s:Sl 248 (TRob)):Option (Sl 248 (TRob)):=(T_slices_Reverse_Rob s).eval
def B_rob_Cut_7 (seq:W .u64) (left gone t_10:Sl 248 (TRob)) (t_11 t_12:W .i64):Tree (Rnd (W .u64×Sl 248 (TRob)×Sl 248 (TRob)×Sl 248 (TRob)×W .i64×W .i64×Unit) (Sl 248 (TRob)×Sl 248 (TRob)×Unit)):=
 .ite (W.lt t_12 t_11) (.opt (Sl.get? t_10 t_12) fun y1=>
 .ite (W.le y1.Ren.Seq seq) (.opt (Sl.app? left (Sl.lit 248 [y1] rfl:Sl 248 (TRob))) fun l2=>
 .ret (.next (seq,l2,gone,t_10,t_11,(W.add t_12 (W.of .i64 1)),())))
 (.opt (Sl.app? gone (Sl.lit 248 [y1] rfl:Sl 248 (TRob))) fun l3=>
 .ret (.next (seq,left,l3,t_10,t_11,(W.add t_12 (W.of .i64 1)),()))))
 (.ret (.out (left,gone,())))
def L_rob_Cut_7 (a:W .u64×Sl 248 (TRob)×Sl 248 (TRob)×Sl 248 (TRob)×W .i64×W .i64×Unit):Option (Sl 248 (TRob)×Sl 248 (TRob)×Unit):=iter (fun a:W .u64×Sl 248 (TRob)×Sl 248 (TRob)×Sl 248 (TRob)×W .i64×W .i64×Unit=>(B_rob_Cut_7 a.1 a.2.1 a.2.2.1 a.2.2.2.1 a.2.2.2.2.1 a.2.2.2.2.2.1).eval) fuel a
def T_rob_Cut (l_0:Sl 248 (TRob)) (seq:W .u64):Tree (Sl 248 (TRob)×Sl 248 (TRob)):=
 .opt (L_rob_Cut_7 ((seq,(Sl.nil:Sl 248 (TRob)),(Sl.nil:Sl 248 (TRob)),l_0,(Sl.len l_0),(W.of .i64 0),()))) fun o4=>
 .opt (F_slices_Reverse_Rob o4.2.1) fun r5=>
 .ret (o4.1,r5)
def F_rob_Cut (l_0:Sl 248 (TRob)) (seq:W .u64):Option (Sl 248 (TRob)×Sl 248 (TRob)):=(T_rob_Cut l_0 seq).eval
def T_rename_writes (u:TUop):Tree (Bool):=
 .ite (W.ge u.Dst (W.of .i64 1)) (.ret (W.lt u.Dst (W.of .i64 16)))
 (.ret false)
def F_rename_writes (u:TUop):Option (Bool):=(T_rename_writes u).eval
def T_rat_is (r:W .i64):Tree (Bool):=
 .ite (W.gt r (W.of .i64 0)) (.ret (W.lt r (W.of .i64 16)))
 (.ret false)
def F_rat_is (r:W .i64):Option (Bool):=(T_rat_is r).eval
def T_rat_Set (m:Arr 16 (W .i64)) (r p:W .i64):Tree (Arr 16 (W .i64)):=
 .opt (F_rat_is r) fun r1=>
 .ite r1 (.opt (idx? 16 r) fun j2=>
 .ret (Arr.set m j2 p))
 (.ret m)
def F_rat_Set (m:Arr 16 (W .i64)) (r p:W .i64):Option (Arr 16 (W .i64)):=(T_rat_Set m r p).eval
def T_freel_ring_sound (f:TFree):Tree (Bool):=
 .ite (W.le (Sl.len f.Ring) (W.of .i64 96)) (.ite (W.ge f.Head (W.of .i64 0)) (.ite (W.lt f.Head (Sl.len f.Ring)) (.ite (W.ge f.N (W.of .i64 0)) (.ret (W.le f.N (Sl.len f.Ring)))
 (.ret false))
 (.ite (W.eq f.Head (W.of .i64 0)) (.ite (W.ge f.N (W.of .i64 0)) (.ret (W.le f.N (Sl.len f.Ring)))
 (.ret false))
 (.ret false)))
 (.ret false))
 (.ret false)
def F_freel_ring_sound (f:TFree):Option (Bool):=(T_freel_ring_sound f).eval
def T_freel_ring_at (f:TFree) (k:W .i64):Tree (W .i64):=
 .opt (W.rem? (W.add f.Head k) (Sl.len f.Ring)) fun z1=>
 .opt (W.rem? (W.add z1 (Sl.len f.Ring)) (Sl.len f.Ring)) fun z2=>
 .ret z2
def F_freel_ring_at (f:TFree) (k:W .i64):Option (W .i64):=(T_freel_ring_at f k).eval
def T_freel_laid (f:TFree) (at_1 p:W .i64):Tree (TFree):=
 .opt (idx? (List.length f.Ring.l) at_1) fun j1=>
 .ret ({ f with Ring:=(Sl.set f.Ring j1 p),N:=(W.add f.N (W.of .i64 1)) }:TFree)
def F_freel_laid (f:TFree) (at_1 p:W .i64):Option (TFree):=(T_freel_laid f at_1 p).eval
def T_freel_Back (f:TFree) (p:W .i64):Tree (TFree):=
 .opt (F_freel_ring_sound f) fun r1=>
 .ite (!r1) (.ret f)
 (.ite (W.eq f.N (Sl.len f.Ring)) (.ret f)
 (.opt (F_freel_ring_at f (W.of .i64 (-1))) fun r2=>
 .opt (F_freel_laid ({ f with Head:=r2 }:TFree) r2 p) fun r3=>
 .ret r3))
def F_freel_Back (f:TFree) (p:W .i64):Option (TFree):=(T_freel_Back f p).eval
def T_rename_Undo (s:TNames) (r:TRen):Tree (TNames):=
 .opt (F_rename_writes r.Uop) fun r1=>
 .ite r1 (.ite (W.ge r.Out (W.of .i64 0)) (.opt (F_rat_Set s.Map r.Uop.Dst r.Old) fun r2=>
 .opt (F_freel_Back s.Free r.Out) fun r3=>
 .ret ({ s with Map:=r2,Free:=r3 }:TNames))
 (.ret s))
 (.ret s)
def F_rename_Undo (s:TNames) (r:TRen):Option (TNames):=(T_rename_Undo s r).eval
def F_slices_Clone_Iq (s:Sl 224 (TIq)):Option (Sl 224 (TIq)):=some s
def T_iq_Cut_1 (e:TIq) (a:W .u64):Tree (Bool):=
 .ret (W.gt e.Ren.Seq a)
def F_iq_Cut_1 (e:TIq) (a:W .u64):Option (Bool):=(T_iq_Cut_1 e a).eval
def B_slices_IndexFunc_Iq_of_iq_Cut_1_5 (s:Sl 224 (TIq)) (fc0:W .u64) (t_7 t_8:W .i64):Tree (Rnd (Sl 224 (TIq)×((Unit)×(W .u64×Unit))×W .i64×W .i64×Unit) ((W .i64×Unit)⊕(Unit×Unit))):=
 .ite (W.lt t_8 t_7) (.opt (Sl.get? s t_8) fun y1=>
 .opt (F_iq_Cut_1 y1 fc0) fun r2=>
 .ite r2 (.ret (.out (.inl (t_8,()))))
 (.ret (.next (s,((),(fc0,())),t_7,(W.add t_8 (W.of .i64 1)),()))))
 (.ret (.out (.inr ((),()))))
def L_slices_IndexFunc_Iq_of_iq_Cut_1_5 (a:Sl 224 (TIq)×((Unit)×(W .u64×Unit))×W .i64×W .i64×Unit):Option ((W .i64×Unit)⊕(Unit×Unit)):=iter (fun a:Sl 224 (TIq)×((Unit)×(W .u64×Unit))×W .i64×W .i64×Unit=>(B_slices_IndexFunc_Iq_of_iq_Cut_1_5 a.1 a.2.1.2.1 a.2.2.1 a.2.2.2.1).eval) fuel a
def T_slices_IndexFunc_Iq_of_iq_Cut_1 (s:Sl 224 (TIq)) (fc0:W .u64):Tree (W .i64):=
 .opt (L_slices_IndexFunc_Iq_of_iq_Cut_1_5 ((s,((),(fc0,())),(Sl.len s),(W.of .i64 0),()))) fun o3=>
 .sum o3 (fun p4=>
 .ret p4.1)
 (fun o5=>
 .ret (W.of .i64 (-1)))
def F_slices_IndexFunc_Iq_of_iq_Cut_1 (s:Sl 224 (TIq)) (fc0:W .u64):Option (W .i64):=(T_slices_IndexFunc_Iq_of_iq_Cut_1 s fc0).eval
def B_slices_DeleteFunc_Iq_of_iq_Cut_1_13 (s:Sl 224 (TIq)) (delc0:W .u64) (i j:W .i64):Tree (Rnd (Sl 224 (TIq)×((Unit)×(W .u64×Unit))×W .i64×W .i64×Unit) (Sl 224 (TIq)×W .i64×Unit)):=
 .ite (W.lt j (Sl.len s)) (.opt (idx? (List.length s.l) j) fun j2=>
 .opt (F_iq_Cut_1 (List.getD s.l j2 (TIq.mk (TRen.mk (TUop.mk (TInst.mk (W.of .i64 0) (W.of .i64 0) (W.of .i64 0) (W.of .i64 0) (W.of .i64 0)) (TSlot.mk (W.of .u32 0) (W.of .u32 0) (W.of .i64 0) (W.of .u32 0) (TGuess.mk false (W.of .u32 0) (TSave.mk (W.of .u32 0) (W.of .i64 0) (W.of .u32 0)))) (W.of .i64 0) (W.of .i64 0) false (Arr.rep 3 (W.of .i64 0):Arr 3 (W .i64)) (W.of .i64 0) (W.of .i64 0) (W.of .u32 0)) (W.of .u64 0) (Arr.rep 3 (W.of .i64 0):Arr 3 (W .i64)) (W.of .i64 0) (W.of .i64 0)) (Arr.rep 3 false:Arr 3 (Bool)))) delc0) fun r3=>
 .ite (!r3) (.opt (idx? (List.length s.l) i) fun j4=>
 .ret (.next ((Sl.set s j4 (List.getD s.l j2 (TIq.mk (TRen.mk (TUop.mk (TInst.mk (W.of .i64 0) (W.of .i64 0) (W.of .i64 0) (W.of .i64 0) (W.of .i64 0)) (TSlot.mk (W.of .u32 0) (W.of .u32 0) (W.of .i64 0) (W.of .u32 0) (TGuess.mk false (W.of .u32 0) (TSave.mk (W.of .u32 0) (W.of .i64 0) (W.of .u32 0)))) (W.of .i64 0) (W.of .i64 0) false (Arr.rep 3 (W.of .i64 0):Arr 3 (W .i64)) (W.of .i64 0) (W.of .i64 0) (W.of .u32 0)) (W.of .u64 0) (Arr.rep 3 (W.of .i64 0):Arr 3 (W .i64)) (W.of .i64 0) (W.of .i64 0)) (Arr.rep 3 false:Arr 3 (Bool))))),((),(delc0,())),(W.add i (W.of .i64 1)),(W.add j (W.of .i64 1)),())))
 (.ret (.next (s,((),(delc0,())),i,(W.add j (W.of .i64 1)),()))))
 (.ret (.out (s,i,())))
def L_slices_DeleteFunc_Iq_of_iq_Cut_1_13 (a:Sl 224 (TIq)×((Unit)×(W .u64×Unit))×W .i64×W .i64×Unit):Option (Sl 224 (TIq)×W .i64×Unit):=iter (fun a:Sl 224 (TIq)×((Unit)×(W .u64×Unit))×W .i64×W .i64×Unit=>(B_slices_DeleteFunc_Iq_of_iq_Cut_1_13 a.1 a.2.1.2.1 a.2.2.1 a.2.2.2.1).eval) fuel a
def T_slices_DeleteFunc_Iq_of_iq_Cut_1 (s:Sl 224 (TIq)) (delc0:W .u64):Tree (Sl 224 (TIq)):=
 .opt (F_slices_IndexFunc_Iq_of_iq_Cut_1 s delc0) fun r1=>
 .ite (W.eq r1 (W.of .i64 (-1))) (.ret s)
 (.opt (L_slices_DeleteFunc_Iq_of_iq_Cut_1_13 ((s,((),(delc0,())),r1,(W.add r1 (W.of .i64 1)),()))) fun o5=>
 .opt (nat? o5.2.1) fun n6=>
 .opt (vw? (List.length o5.1.l) (some n6) (none)) fun j7=>
 .opt (nat? o5.2.1) fun n8=>
 .opt (Sl.sub? (Sl.clr o5.1 n6 (TIq.mk (TRen.mk (TUop.mk (TInst.mk (W.of .i64 0) (W.of .i64 0) (W.of .i64 0) (W.of .i64 0) (W.of .i64 0)) (TSlot.mk (W.of .u32 0) (W.of .u32 0) (W.of .i64 0) (W.of .u32 0) (TGuess.mk false (W.of .u32 0) (TSave.mk (W.of .u32 0) (W.of .i64 0) (W.of .u32 0)))) (W.of .i64 0) (W.of .i64 0) false (Arr.rep 3 (W.of .i64 0):Arr 3 (W .i64)) (W.of .i64 0) (W.of .i64 0) (W.of .u32 0)) (W.of .u64 0) (Arr.rep 3 (W.of .i64 0):Arr 3 (W .i64)) (W.of .i64 0) (W.of .i64 0)) (Arr.rep 3 false:Arr 3 (Bool)))) 0 n8) fun l9=>
 .ret l9)
def F_slices_DeleteFunc_Iq_of_iq_Cut_1 (s:Sl 224 (TIq)) (delc0:W .u64):Option (Sl 224 (TIq)):=(T_slices_DeleteFunc_Iq_of_iq_Cut_1 s delc0).eval
def T_iq_Cut (l_0:Sl 224 (TIq)) (seq:W .u64):Tree (Sl 224 (TIq)):=
 .opt (F_slices_Clone_Iq l_0) fun r1=>
 .opt (F_slices_DeleteFunc_Iq_of_iq_Cut_1 r1 seq) fun r2=>
 .ret r2
def F_iq_Cut (l_0:Sl 224 (TIq)) (seq:W .u64):Option (Sl 224 (TIq)):=(T_iq_Cut l_0 seq).eval
def F_slices_Clone_Lq (s:Sl 48 (TLq)):Option (Sl 48 (TLq)):=some s
def T_lq_Cut_1 (e:TLq) (a:W .u64):Tree (Bool):=
 .ret (W.gt e.Seq a)
def F_lq_Cut_1 (e:TLq) (a:W .u64):Option (Bool):=(T_lq_Cut_1 e a).eval
def B_slices_IndexFunc_Lq_of_lq_Cut_1_5 (s:Sl 48 (TLq)) (fc0:W .u64) (t_7 t_8:W .i64):Tree (Rnd (Sl 48 (TLq)×((Unit)×(W .u64×Unit))×W .i64×W .i64×Unit) ((W .i64×Unit)⊕(Unit×Unit))):=
 .ite (W.lt t_8 t_7) (.opt (Sl.get? s t_8) fun y1=>
 .opt (F_lq_Cut_1 y1 fc0) fun r2=>
 .ite r2 (.ret (.out (.inl (t_8,()))))
 (.ret (.next (s,((),(fc0,())),t_7,(W.add t_8 (W.of .i64 1)),()))))
 (.ret (.out (.inr ((),()))))
def L_slices_IndexFunc_Lq_of_lq_Cut_1_5 (a:Sl 48 (TLq)×((Unit)×(W .u64×Unit))×W .i64×W .i64×Unit):Option ((W .i64×Unit)⊕(Unit×Unit)):=iter (fun a:Sl 48 (TLq)×((Unit)×(W .u64×Unit))×W .i64×W .i64×Unit=>(B_slices_IndexFunc_Lq_of_lq_Cut_1_5 a.1 a.2.1.2.1 a.2.2.1 a.2.2.2.1).eval) fuel a
def T_slices_IndexFunc_Lq_of_lq_Cut_1 (s:Sl 48 (TLq)) (fc0:W .u64):Tree (W .i64):=
 .opt (L_slices_IndexFunc_Lq_of_lq_Cut_1_5 ((s,((),(fc0,())),(Sl.len s),(W.of .i64 0),()))) fun o3=>
 .sum o3 (fun p4=>
 .ret p4.1)
 (fun o5=>
 .ret (W.of .i64 (-1)))
def F_slices_IndexFunc_Lq_of_lq_Cut_1 (s:Sl 48 (TLq)) (fc0:W .u64):Option (W .i64):=(T_slices_IndexFunc_Lq_of_lq_Cut_1 s fc0).eval
def B_slices_DeleteFunc_Lq_of_lq_Cut_1_13 (s:Sl 48 (TLq)) (delc0:W .u64) (i j:W .i64):Tree (Rnd (Sl 48 (TLq)×((Unit)×(W .u64×Unit))×W .i64×W .i64×Unit) (Sl 48 (TLq)×W .i64×Unit)):=
 .ite (W.lt j (Sl.len s)) (.opt (idx? (List.length s.l) j) fun j2=>
 .opt (F_lq_Cut_1 (List.getD s.l j2 (TLq.mk (W.of .u64 0) (W.of .u32 0) (W.of .u32 0) (W.of .i64 0) false false (W.of .u64 0) false)) delc0) fun r3=>
 .ite (!r3) (.opt (idx? (List.length s.l) i) fun j4=>
 .ret (.next ((Sl.set s j4 (List.getD s.l j2 (TLq.mk (W.of .u64 0) (W.of .u32 0) (W.of .u32 0) (W.of .i64 0) false false (W.of .u64 0) false))),((),(delc0,())),(W.add i (W.of .i64 1)),(W.add j (W.of .i64 1)),())))
 (.ret (.next (s,((),(delc0,())),i,(W.add j (W.of .i64 1)),()))))
 (.ret (.out (s,i,())))
def L_slices_DeleteFunc_Lq_of_lq_Cut_1_13 (a:Sl 48 (TLq)×((Unit)×(W .u64×Unit))×W .i64×W .i64×Unit):Option (Sl 48 (TLq)×W .i64×Unit):=iter (fun a:Sl 48 (TLq)×((Unit)×(W .u64×Unit))×W .i64×W .i64×Unit=>(B_slices_DeleteFunc_Lq_of_lq_Cut_1_13 a.1 a.2.1.2.1 a.2.2.1 a.2.2.2.1).eval) fuel a
def T_slices_DeleteFunc_Lq_of_lq_Cut_1 (s:Sl 48 (TLq)) (delc0:W .u64):Tree (Sl 48 (TLq)):=
 .opt (F_slices_IndexFunc_Lq_of_lq_Cut_1 s delc0) fun r1=>
 .ite (W.eq r1 (W.of .i64 (-1))) (.ret s)
 (.opt (L_slices_DeleteFunc_Lq_of_lq_Cut_1_13 ((s,((),(delc0,())),r1,(W.add r1 (W.of .i64 1)),()))) fun o5=>
 .opt (nat? o5.2.1) fun n6=>
 .opt (vw? (List.length o5.1.l) (some n6) (none)) fun j7=>
 .opt (nat? o5.2.1) fun n8=>
 .opt (Sl.sub? (Sl.clr o5.1 n6 (TLq.mk (W.of .u64 0) (W.of .u32 0) (W.of .u32 0) (W.of .i64 0) false false (W.of .u64 0) false)) 0 n8) fun l9=>
 .ret l9)
def F_slices_DeleteFunc_Lq_of_lq_Cut_1 (s:Sl 48 (TLq)) (delc0:W .u64):Option (Sl 48 (TLq)):=(T_slices_DeleteFunc_Lq_of_lq_Cut_1 s delc0).eval
def T_lq_Cut (l_0:Sl 48 (TLq)) (seq:W .u64):Tree (Sl 48 (TLq)):=
 .opt (F_slices_Clone_Lq l_0) fun r1=>
 .opt (F_slices_DeleteFunc_Lq_of_lq_Cut_1 r1 seq) fun r2=>
 .ret r2
def F_lq_Cut (l_0:Sl 48 (TLq)) (seq:W .u64):Option (Sl 48 (TLq)):=(T_lq_Cut l_0 seq).eval
def F_slices_Clone_Sq (s:Sl 32 (TSq)):Option (Sl 32 (TSq)):=some s
def T_sq_Cut_1 (s:TSq) (a:W .u64):Tree (Bool):=
 .ret (W.gt s.Seq a)
def F_sq_Cut_1 (s:TSq) (a:W .u64):Option (Bool):=(T_sq_Cut_1 s a).eval
def B_slices_IndexFunc_Sq_of_sq_Cut_1_5 (s:Sl 32 (TSq)) (fc0:W .u64) (t_7 t_8:W .i64):Tree (Rnd (Sl 32 (TSq)×((Unit)×(W .u64×Unit))×W .i64×W .i64×Unit) ((W .i64×Unit)⊕(Unit×Unit))):=
 .ite (W.lt t_8 t_7) (.opt (Sl.get? s t_8) fun y1=>
 .opt (F_sq_Cut_1 y1 fc0) fun r2=>
 .ite r2 (.ret (.out (.inl (t_8,()))))
 (.ret (.next (s,((),(fc0,())),t_7,(W.add t_8 (W.of .i64 1)),()))))
 (.ret (.out (.inr ((),()))))
def L_slices_IndexFunc_Sq_of_sq_Cut_1_5 (a:Sl 32 (TSq)×((Unit)×(W .u64×Unit))×W .i64×W .i64×Unit):Option ((W .i64×Unit)⊕(Unit×Unit)):=iter (fun a:Sl 32 (TSq)×((Unit)×(W .u64×Unit))×W .i64×W .i64×Unit=>(B_slices_IndexFunc_Sq_of_sq_Cut_1_5 a.1 a.2.1.2.1 a.2.2.1 a.2.2.2.1).eval) fuel a
def T_slices_IndexFunc_Sq_of_sq_Cut_1 (s:Sl 32 (TSq)) (fc0:W .u64):Tree (W .i64):=
 .opt (L_slices_IndexFunc_Sq_of_sq_Cut_1_5 ((s,((),(fc0,())),(Sl.len s),(W.of .i64 0),()))) fun o3=>
 .sum o3 (fun p4=>
 .ret p4.1)
 (fun o5=>
 .ret (W.of .i64 (-1)))
def F_slices_IndexFunc_Sq_of_sq_Cut_1 (s:Sl 32 (TSq)) (fc0:W .u64):Option (W .i64):=(T_slices_IndexFunc_Sq_of_sq_Cut_1 s fc0).eval
def B_slices_DeleteFunc_Sq_of_sq_Cut_1_13 (s:Sl 32 (TSq)) (delc0:W .u64) (i j:W .i64):Tree (Rnd (Sl 32 (TSq)×((Unit)×(W .u64×Unit))×W .i64×W .i64×Unit) (Sl 32 (TSq)×W .i64×Unit)):=
 .ite (W.lt j (Sl.len s)) (.opt (idx? (List.length s.l) j) fun j2=>
 .opt (F_sq_Cut_1 (List.getD s.l j2 (TSq.mk (W.of .u64 0) (W.of .u32 0) (W.of .u32 0) (W.of .i64 0) false)) delc0) fun r3=>
 .ite (!r3) (.opt (idx? (List.length s.l) i) fun j4=>
 .ret (.next ((Sl.set s j4 (List.getD s.l j2 (TSq.mk (W.of .u64 0) (W.of .u32 0) (W.of .u32 0) (W.of .i64 0) false))),((),(delc0,())),(W.add i (W.of .i64 1)),(W.add j (W.of .i64 1)),())))
 (.ret (.next (s,((),(delc0,())),i,(W.add j (W.of .i64 1)),()))))
 (.ret (.out (s,i,())))
def L_slices_DeleteFunc_Sq_of_sq_Cut_1_13 (a:Sl 32 (TSq)×((Unit)×(W .u64×Unit))×W .i64×W .i64×Unit):Option (Sl 32 (TSq)×W .i64×Unit):=iter (fun a:Sl 32 (TSq)×((Unit)×(W .u64×Unit))×W .i64×W .i64×Unit=>(B_slices_DeleteFunc_Sq_of_sq_Cut_1_13 a.1 a.2.1.2.1 a.2.2.1 a.2.2.2.1).eval) fuel a
def T_slices_DeleteFunc_Sq_of_sq_Cut_1 (s:Sl 32 (TSq)) (delc0:W .u64):Tree (Sl 32 (TSq)):=
 .opt (F_slices_IndexFunc_Sq_of_sq_Cut_1 s delc0) fun r1=>
 .ite (W.eq r1 (W.of .i64 (-1))) (.ret s)
 (.opt (L_slices_DeleteFunc_Sq_of_sq_Cut_1_13 ((s,((),(delc0,())),r1,(W.add r1 (W.of .i64 1)),()))) fun o5=>
 .opt (nat? o5.2.1) fun n6=>
 .opt (vw? (List.length o5.1.l) (some n6) (none)) fun j7=>
 .opt (nat? o5.2.1) fun n8=>
 .opt (Sl.sub? (Sl.clr o5.1 n6 (TSq.mk (W.of .u64 0) (W.of .u32 0) (W.of .u32 0) (W.of .i64 0) false)) 0 n8) fun l9=>
 .ret l9)
def F_slices_DeleteFunc_Sq_of_sq_Cut_1 (s:Sl 32 (TSq)) (delc0:W .u64):Option (Sl 32 (TSq)):=(T_slices_DeleteFunc_Sq_of_sq_Cut_1 s delc0).eval
def T_sq_Cut (l_0:Sl 32 (TSq)) (seq:W .u64):Tree (Sl 32 (TSq)):=
 .opt (F_slices_Clone_Sq l_0) fun r1=>
 .opt (F_slices_DeleteFunc_Sq_of_sq_Cut_1 r1 seq) fun r2=>
 .ret r2
def F_sq_Cut (l_0:Sl 32 (TSq)) (seq:W .u64):Option (Sl 32 (TSq)):=(T_sq_Cut l_0 seq).eval
def B_unit_Cut_7 (seq:W .u64) (out t_8:Sl 256 (TFlight)) (t_9 t_10:W .i64):Tree (Rnd (W .u64×Sl 256 (TFlight)×Sl 256 (TFlight)×W .i64×W .i64×Unit) (Sl 256 (TFlight)×Unit)):=
 .ite (W.lt t_10 t_9) (.opt (Sl.get? t_8 t_10) fun y1=>
 .ite (W.le y1.Ren.Seq seq) (.opt (Sl.app? out (Sl.lit 256 [y1] rfl:Sl 256 (TFlight))) fun l2=>
 .ret (.next (seq,l2,t_8,t_9,(W.add t_10 (W.of .i64 1)),())))
 (.ret (.next (seq,out,t_8,t_9,(W.add t_10 (W.of .i64 1)),()))))
 (.ret (.out (out,())))
def L_unit_Cut_7 (a:W .u64×Sl 256 (TFlight)×Sl 256 (TFlight)×W .i64×W .i64×Unit):Option (Sl 256 (TFlight)×Unit):=iter (fun a:W .u64×Sl 256 (TFlight)×Sl 256 (TFlight)×W .i64×W .i64×Unit=>(B_unit_Cut_7 a.1 a.2.1 a.2.2.1 a.2.2.2.1 a.2.2.2.2.1).eval) fuel a
def T_unit_Cut (l_0:Sl 256 (TFlight)) (seq:W .u64):Tree (Sl 256 (TFlight)):=
 .opt (L_unit_Cut_7 ((seq,(Sl.nil:Sl 256 (TFlight)),l_0,(Sl.len l_0),(W.of .i64 0),()))) fun o3=>
 .ret o3.1
def F_unit_Cut (l_0:Sl 256 (TFlight)) (seq:W .u64):Option (Sl 256 (TFlight)):=(T_unit_Cut l_0 seq).eval
def B_flush_After_9 (seq:W .u64) (pc:W .u32) (c t_6:TCore) (left:Sl 248 (TRob)) (notes:Sl 32 (TNote)) (t_20:Sl 248 (TRob)) (t_21 t_22:W .i64):Tree (Rnd (W .u64×W .u32×TCore×TCore×Sl 248 (TRob)×Sl 32 (TNote)×Sl 248 (TRob)×W .i64×W .i64×Unit) (W .u64×W .u32×TCore×TCore×Sl 248 (TRob)×Sl 32 (TNote)×Unit)):=
 .ite (W.lt t_22 t_21) (.opt (Sl.get? t_20 t_22) fun y2=>
 .opt (F_rename_Undo c.Names y2.Ren) fun r3=>
 .opt (Sl.app? notes (Sl.lit 32 [(TNote.mk c.Cycle (W.of .i64 6) y2.Ren.Seq y2.Ren.Uop.Slot.PC)] rfl:Sl 32 (TNote))) fun l4=>
 .ret (.next (seq,pc,({ c with Names:=r3 }:TCore),t_6,left,l4,t_20,t_21,(W.add t_22 (W.of .i64 1)),())))
 (.ret (.out (seq,pc,c,t_6,left,notes,())))
def L_flush_After_9 (a:W .u64×W .u32×TCore×TCore×Sl 248 (TRob)×Sl 32 (TNote)×Sl 248 (TRob)×W .i64×W .i64×Unit):Option (W .u64×W .u32×TCore×TCore×Sl 248 (TRob)×Sl 32 (TNote)×Unit):=iter (fun a:W .u64×W .u32×TCore×TCore×Sl 248 (TRob)×Sl 32 (TNote)×Sl 248 (TRob)×W .i64×W .i64×Unit=>(B_flush_After_9 a.1 a.2.1 a.2.2.1 a.2.2.2.1 a.2.2.2.2.1 a.2.2.2.2.2.1 a.2.2.2.2.2.2.1 a.2.2.2.2.2.2.2.1 a.2.2.2.2.2.2.2.2.1).eval) fuel a
def T_flush_After (c:TCore) (seq:W .u64) (pc:W .u32):Tree (TCore×Sl 32 (TNote)):=
 .opt (F_rob_Cut c.Rob seq) fun r1=>
 .opt (L_flush_After_9 ((seq,pc,c,(TCore.mk (TConf.mk (W.of .i64 0) (W.of .i64 0) (W.of .i64 0) (W.of .i64 0) (W.of .i64 0) (W.of .i64 0) (W.of .i64 0) (W.of .i64 0) (W.of .i64 0) (W.of .i64 0) (W.of .i64 0) (W.of .i64 0) (W.of .i64 0) (W.of .i64 0) (W.of .i64 0) (W.of .i64 0) (W.of .i64 0) (W.of .i64 0) (W.of .i64 0) (W.of .i64 0) (W.of .i64 0) false) (TArch.mk (W.of .u32 0) (Arr.rep 16 (W.of .u32 0):Arr 16 (W .u32)) (Arr.rep 12 (W.of .u32 0):Arr 12 (W .u32)) false) (Sl.nil:Sl 1 (W .u8)) (Sl.nil:Sl 4 (W .u32)) (W.of .u32 0) false (TPred.mk (W.of .u32 0) (Sl.nil:Sl 1 (W .u8)) (Sl.nil:Sl 16 (TBtb)) (W.of .i64 0) (Sl.nil:Sl 4 (W .u32)) (W.of .i64 0)) (Sl.nil:Sl 24 (TTlb)) (W.of .i64 0) (Sl.nil:Sl 56 (TSlot)) (TNames.mk (Arr.rep 16 (W.of .i64 0):Arr 16 (W .i64)) (Arr.rep 16 (W.of .i64 0):Arr 16 (W .i64)) (TFree.mk (Sl.nil:Sl 8 (W .i64)) (W.of .i64 0) (W.of .i64 0)) (W.of .u64 0)) (TPhys.mk (Sl.nil:Sl 4 (W .u32)) (Sl.nil:Sl 1 (Bool))) (Sl.nil:Sl 248 (TRob)) (Sl.nil:Sl 224 (TIq)) (Sl.nil:Sl 48 (TLq)) (Sl.nil:Sl 32 (TSq)) (Sl.nil:Sl 16 (TSb)) (Sl.nil:Sl 256 (TFlight)) (Sl.nil:Sl 1 (W .u8)) (W.of .i64 0) (W.of .i64 0)),r1.1,(Sl.nil:Sl 32 (TNote)),r1.2,(Sl.len r1.2),(W.of .i64 0),()))) fun o5=>
 .opt (F_iq_Cut o5.2.2.1.Iq o5.1) fun r6=>
 .opt (F_lq_Cut o5.2.2.1.Lq o5.1) fun r7=>
 .opt (F_sq_Cut o5.2.2.1.Sq o5.1) fun r8=>
 .opt (F_unit_Cut o5.2.2.1.Units o5.1) fun r9=>
 .ret (({ o5.2.2.1 with Rob:=o5.2.2.2.2.1,Iq:=r6,Lq:=r7,Sq:=r8,Units:=r9,Queue:=(Sl.nil:Sl 56 (TSlot)),PC:=o5.2.1,Hold:=false }:TCore),o5.2.2.2.2.2.1)
def F_flush_After (c:TCore) (seq:W .u64) (pc:W .u32):Option (TCore×Sl 32 (TNote)):=(T_flush_After c seq pc).eval
def T_ras_place (l_0:Sl 4 (W .u32)) (top:W .i64):Tree (W .i64):=
 .opt (W.rem? top (Sl.len l_0)) fun z1=>
 .opt (W.rem? (W.add z1 (Sl.len l_0)) (Sl.len l_0)) fun z2=>
 .ret z2
def F_ras_place (l_0:Sl 4 (W .u32)) (top:W .i64):Option (W .i64):=(T_ras_place l_0 top).eval
def T_ras_with (l_0:Sl 4 (W .u32)) (at_1:W .i64) (v:W .u32):Tree (Sl 4 (W .u32)):=
 .opt (F_slices_Clone_uint32 l_0) fun r1=>
 .opt (idx? (List.length r1.l) at_1) fun j2=>
 .ret (Sl.set r1 j2 v)
def F_ras_with (l_0:Sl 4 (W .u32)) (at_1:W .i64) (v:W .u32):Option (Sl 4 (W .u32)):=(T_ras_with l_0 at_1 v).eval
def T_ras_Back (l_0:Sl 4 (W .u32)) (top:W .i64) (val:W .u32):Tree (Sl 4 (W .u32)×W .i64):=
 .ite (W.eq (Sl.len l_0) (W.of .i64 0)) (.ret (l_0,(W.of .i64 0)))
 (.opt (F_ras_place l_0 top) fun r1=>
 .opt (F_ras_with l_0 r1 val) fun r2=>
 .ret (r2,r1))
def F_ras_Back (l_0:Sl 4 (W .u32)) (top:W .i64) (val:W .u32):Option (Sl 4 (W .u32)×W .i64):=(T_ras_Back l_0 top val).eval
def T_flush_All (c:TCore) (pc:W .u32):Tree (TCore×Sl 32 (TNote)):=
 .opt (F_flush_oldest c) fun r1=>
 .opt (F_flush_After c (W.of .u64 0) pc) fun r2=>
 .ite r1.2 (.opt (F_ras_Back r2.1.Pred.Ras r1.1.Guess.Save.Top r1.1.Guess.Save.Val) fun r3=>
 .ret (({ r2.1 with Pred:=({ r2.1.Pred with Hist:=r1.1.Guess.Save.Hist,Ras:=r3.1,Top:=r3.2 }:TPred) }:TCore),r2.2))
 (.ret (r2.1,r2.2))
def F_flush_All (c:TCore) (pc:W .u32):Option (TCore×Sl 32 (TNote)):=(T_flush_All c pc).eval
def T_retire_stage_flush (s:TStage):Tree (TStage):=
 .opt (F_flush_All s.c s.c.A.PC) fun r1=>
 .opt (Sl.app? s.notes r1.2) fun l2=>
 .ret ({ s with c:=r1.1,notes:=l2 }:TStage)
def F_retire_stage_flush (s:TStage):Option (TStage):=(T_retire_stage_flush s).eval
def T_retire_stage_trap (s:TStage) (cause:W .i64) (val:W .u32) (v:TEvent):Tree (TStage):=
 .opt (F_trap_Take s.c.A cause val s.c.A.PC) fun r1=>
 .opt (Sl.app? s.events (Sl.lit 72 [v] rfl:Sl 72 (TEvent))) fun l2=>
 .opt (F_retire_stage_flush ({ s with c:=({ s.c with A:=r1 }:TCore),events:=l2 }:TStage)) fun r3=>
 .ret r3
def F_retire_stage_trap (s:TStage) (cause:W .i64) (val:W .u32) (v:TEvent):Option (TStage):=(T_retire_stage_trap s cause val v).eval
def T_retire_stage_bare (s:TStage) (cause:W .i64) (val:W .u32):Tree (TStage):=
 .opt (F_trap_Take s.c.A cause val s.c.A.PC) fun r1=>
 .opt (F_retire_trapped s.c.A r1 cause val) fun r2=>
 .opt (F_retire_stage_trap s cause val r2) fun r3=>
 .ret r3
def F_retire_stage_bare (s:TStage) (cause:W .i64) (val:W .u32):Option (TStage):=(T_retire_stage_bare s cause val).eval
def T_trap_Stops (a:TArch) (pc:W .u32):Tree (Bool):=
 .opt (F_csr_Kernel a) fun r1=>
 .ite (!r1) (.ite (W.eq (W.and (Arr.get a.C 11) (W.of .u32 1)) (W.of .u32 1)) (.ite (W.eq (Arr.get a.C 11) (W.or pc (W.of .u32 1))) (.ret (W.eq (W.and pc (W.of .u32 1)) (W.of .u32 0)))
 (.ret false))
 (.ret false))
 (.ret false)
def F_trap_Stops (a:TArch) (pc:W .u32):Option (Bool):=(T_trap_Stops a pc).eval
def T_rob_may (e:TRob):Tree (Bool):=
 .ite e.Done (.ret true)
 (.ite (W.eq e.Ren.Uop.Unit (W.of .i64 7)) (.ret true)
 (.ret (W.ne e.Cause (W.of .i64 0))))
def F_rob_may (e:TRob):Option (Bool):=(T_rob_may e).eval
def B_rob_Ready_7 (n_3:W .i64) (t_6:Sl 248 (TRob)) (t_7 t_8:W .i64):Tree (Rnd (W .i64×Sl 248 (TRob)×W .i64×W .i64×Unit) (W .i64×Unit)):=
 .ite (W.lt t_8 t_7) (.opt (Sl.get? t_6 t_8) fun y1=>
 .opt (F_rob_may y1) fun r2=>
 .ite (!r2) (.ret (.out (n_3,())))
 (.ite y1.Ren.Uop.Last (.ret (.next ((W.add t_8 (W.of .i64 1)),t_6,t_7,(W.add t_8 (W.of .i64 1)),())))
 (.ret (.next (n_3,t_6,t_7,(W.add t_8 (W.of .i64 1)),())))))
 (.ret (.out (n_3,())))
def L_rob_Ready_7 (a:W .i64×Sl 248 (TRob)×W .i64×W .i64×Unit):Option (W .i64×Unit):=iter (fun a:W .i64×Sl 248 (TRob)×W .i64×W .i64×Unit=>(B_rob_Ready_7 a.1 a.2.1 a.2.2.1 a.2.2.2.1).eval) fuel a
def T_rob_Ready (l_0:Sl 248 (TRob)):Tree (W .i64):=
 .opt (L_rob_Ready_7 (((W.of .i64 0),l_0,(Sl.len l_0),(W.of .i64 0),()))) fun o3=>
 .ret o3.1
def F_rob_Ready (l_0:Sl 248 (TRob)):Option (W .i64):=(T_rob_Ready l_0).eval
def T_retire_stage_front_1 (e:TRob):Tree (Bool):=
 .ret e.Ren.Uop.Last
def F_retire_stage_front_1 (e:TRob):Option (Bool):=(T_retire_stage_front_1 e).eval
def B_slices_IndexFunc_Rob_of_retire_stage_front_1_5 (s:Sl 248 (TRob)) (t_7 t_8:W .i64):Tree (Rnd (Sl 248 (TRob)×((Unit)×(Unit))×W .i64×W .i64×Unit) ((W .i64×Unit)⊕(Unit×Unit))):=
 .ite (W.lt t_8 t_7) (.opt (Sl.get? s t_8) fun y1=>
 .opt (F_retire_stage_front_1 y1) fun r2=>
 .ite r2 (.ret (.out (.inl (t_8,()))))
 (.ret (.next (s,((),()),t_7,(W.add t_8 (W.of .i64 1)),()))))
 (.ret (.out (.inr ((),()))))
def L_slices_IndexFunc_Rob_of_retire_stage_front_1_5 (a:Sl 248 (TRob)×((Unit)×(Unit))×W .i64×W .i64×Unit):Option ((W .i64×Unit)⊕(Unit×Unit)):=iter (fun a:Sl 248 (TRob)×((Unit)×(Unit))×W .i64×W .i64×Unit=>(B_slices_IndexFunc_Rob_of_retire_stage_front_1_5 a.1 a.2.2.1 a.2.2.2.1).eval) fuel a
def T_slices_IndexFunc_Rob_of_retire_stage_front_1 (s:Sl 248 (TRob)):Tree (W .i64):=
 .opt (L_slices_IndexFunc_Rob_of_retire_stage_front_1_5 ((s,((),()),(Sl.len s),(W.of .i64 0),()))) fun o3=>
 .sum o3 (fun p4=>
 .ret p4.1)
 (fun o5=>
 .ret (W.of .i64 (-1)))
def F_slices_IndexFunc_Rob_of_retire_stage_front_1 (s:Sl 248 (TRob)):Option (W .i64):=(T_slices_IndexFunc_Rob_of_retire_stage_front_1 s).eval
def T_retire_stage_front (s:TStage):Tree (Sl 248 (TRob)×TStage):=
 .opt (F_slices_IndexFunc_Rob_of_retire_stage_front_1 s.c.Rob) fun r1=>
 .opt (nat? (W.add r1 (W.of .i64 1))) fun n2=>
 .opt (Sl.sub? s.c.Rob 0 n2) fun l3=>
 .ret (l3,s)
def F_retire_stage_front (s:TStage):Option (Sl 248 (TRob)×TStage):=(T_retire_stage_front s).eval
def T_retire_stage_boundary_1 (e:TRob):Tree (Bool):=
 .ret (W.ne e.Cause (W.of .i64 0))
def F_retire_stage_boundary_1 (e:TRob):Option (Bool):=(T_retire_stage_boundary_1 e).eval
def B_slices_IndexFunc_Rob_of_retire_stage_boundary_1_5 (s:Sl 248 (TRob)) (t_7 t_8:W .i64):Tree (Rnd (Sl 248 (TRob)×((Unit)×(Unit))×W .i64×W .i64×Unit) ((W .i64×Unit)⊕(Unit×Unit))):=
 .ite (W.lt t_8 t_7) (.opt (Sl.get? s t_8) fun y1=>
 .opt (F_retire_stage_boundary_1 y1) fun r2=>
 .ite r2 (.ret (.out (.inl (t_8,()))))
 (.ret (.next (s,((),()),t_7,(W.add t_8 (W.of .i64 1)),()))))
 (.ret (.out (.inr ((),()))))
def L_slices_IndexFunc_Rob_of_retire_stage_boundary_1_5 (a:Sl 248 (TRob)×((Unit)×(Unit))×W .i64×W .i64×Unit):Option ((W .i64×Unit)⊕(Unit×Unit)):=iter (fun a:Sl 248 (TRob)×((Unit)×(Unit))×W .i64×W .i64×Unit=>(B_slices_IndexFunc_Rob_of_retire_stage_boundary_1_5 a.1 a.2.2.1 a.2.2.2.1).eval) fuel a
def T_slices_IndexFunc_Rob_of_retire_stage_boundary_1 (s:Sl 248 (TRob)):Tree (W .i64):=
 .opt (L_slices_IndexFunc_Rob_of_retire_stage_boundary_1_5 ((s,((),()),(Sl.len s),(W.of .i64 0),()))) fun o3=>
 .sum o3 (fun p4=>
 .ret p4.1)
 (fun o5=>
 .ret (W.of .i64 (-1)))
def F_slices_IndexFunc_Rob_of_retire_stage_boundary_1 (s:Sl 248 (TRob)):Option (W .i64):=(T_slices_IndexFunc_Rob_of_retire_stage_boundary_1 s).eval
def T_retire_stage_stale_1 (e:TRob):Tree (Bool):=
 .ite (W.ne e.Ren.Uop.Unit (W.of .i64 5)) (.ret false)
 (.fail)
def F_retire_stage_stale_1 (e:TRob):Option (Bool):=(T_retire_stage_stale_1 e).eval
def B_slices_IndexFunc_Rob_of_retire_stage_stale_1_5 (s:Sl 248 (TRob)) (t_7 t_8:W .i64):Tree (Rnd (Sl 248 (TRob)×((Unit)×(Unit×Unit))×W .i64×W .i64×Unit) ((W .i64×Unit)⊕(Unit×Unit))):=
 .ite (W.lt t_8 t_7) (.opt (Sl.get? s t_8) fun y1=>
 .opt (F_retire_stage_stale_1 y1) fun r2=>
 .ite r2 (.ret (.out (.inl (t_8,()))))
 (.ret (.next (s,((),((),())),t_7,(W.add t_8 (W.of .i64 1)),()))))
 (.ret (.out (.inr ((),()))))
def L_slices_IndexFunc_Rob_of_retire_stage_stale_1_5 (a:Sl 248 (TRob)×((Unit)×(Unit×Unit))×W .i64×W .i64×Unit):Option ((W .i64×Unit)⊕(Unit×Unit)):=iter (fun a:Sl 248 (TRob)×((Unit)×(Unit×Unit))×W .i64×W .i64×Unit=>(B_slices_IndexFunc_Rob_of_retire_stage_stale_1_5 a.1 a.2.2.1 a.2.2.2.1).eval) fuel a
def T_slices_IndexFunc_Rob_of_retire_stage_stale_1 (s:Sl 248 (TRob)):Tree (W .i64):=
 .opt (L_slices_IndexFunc_Rob_of_retire_stage_stale_1_5 ((s,((),((),())),(Sl.len s),(W.of .i64 0),()))) fun o3=>
 .sum o3 (fun p4=>
 .ret p4.1)
 (fun o5=>
 .ret (W.of .i64 (-1)))
def F_slices_IndexFunc_Rob_of_retire_stage_stale_1 (s:Sl 248 (TRob)):Option (W .i64):=(T_slices_IndexFunc_Rob_of_retire_stage_stale_1 s).eval
def T_slices_ContainsFunc_Rob_of_retire_stage_stale_1 (s:Sl 248 (TRob)):Tree (Bool):=
 .opt (F_slices_IndexFunc_Rob_of_retire_stage_stale_1 s) fun r1=>
 .ret (W.ge r1 (W.of .i64 0))
def F_slices_ContainsFunc_Rob_of_retire_stage_stale_1 (s:Sl 248 (TRob)):Option (Bool):=(T_slices_ContainsFunc_Rob_of_retire_stage_stale_1 s).eval
def T_retire_stage_stale (s:TStage) (l_1:Sl 248 (TRob)):Tree (Bool×TStage):=
 .opt (F_slices_ContainsFunc_Rob_of_retire_stage_stale_1 l_1) fun r1=>
 .ret (r1,s)
def F_retire_stage_stale (s:TStage) (l_1:Sl 248 (TRob)):Option (Bool×TStage):=(T_retire_stage_stale s l_1).eval
def T_retire_Event_1 (e:TRob):Tree (Bool):=
 .ret (W.ne e.Cause (W.of .i64 0))
def F_retire_Event_1 (e:TRob):Option (Bool):=(T_retire_Event_1 e).eval
def B_slices_IndexFunc_Rob_of_retire_Event_1_5 (s:Sl 248 (TRob)) (t_7 t_8:W .i64):Tree (Rnd (Sl 248 (TRob)×((Unit)×(Unit))×W .i64×W .i64×Unit) ((W .i64×Unit)⊕(Unit×Unit))):=
 .ite (W.lt t_8 t_7) (.opt (Sl.get? s t_8) fun y1=>
 .opt (F_retire_Event_1 y1) fun r2=>
 .ite r2 (.ret (.out (.inl (t_8,()))))
 (.ret (.next (s,((),()),t_7,(W.add t_8 (W.of .i64 1)),()))))
 (.ret (.out (.inr ((),()))))
def L_slices_IndexFunc_Rob_of_retire_Event_1_5 (a:Sl 248 (TRob)×((Unit)×(Unit))×W .i64×W .i64×Unit):Option ((W .i64×Unit)⊕(Unit×Unit)):=iter (fun a:Sl 248 (TRob)×((Unit)×(Unit))×W .i64×W .i64×Unit=>(B_slices_IndexFunc_Rob_of_retire_Event_1_5 a.1 a.2.2.1 a.2.2.2.1).eval) fuel a
def T_slices_IndexFunc_Rob_of_retire_Event_1 (s:Sl 248 (TRob)):Tree (W .i64):=
 .opt (L_slices_IndexFunc_Rob_of_retire_Event_1_5 ((s,((),()),(Sl.len s),(W.of .i64 0),()))) fun o3=>
 .sum o3 (fun p4=>
 .ret p4.1)
 (fun o5=>
 .ret (W.of .i64 (-1)))
def F_slices_IndexFunc_Rob_of_retire_Event_1 (s:Sl 248 (TRob)):Option (W .i64):=(T_slices_IndexFunc_Rob_of_retire_Event_1 s).eval
def T_retire_is (r:W .i64):Tree (Bool):=
 .ite (W.gt r (W.of .i64 0)) (.ret (W.lt r (W.of .i64 16)))
 (.ret false)
def F_retire_is (r:W .i64):Option (Bool):=(T_retire_is r).eval
def T_retire_written (e:TRob):Tree (W .i64×W .u32):=
 .opt (F_retire_is e.Ren.Uop.Dst) fun r1=>
 .ite (!r1) (.ret ((W.of .i64 (-1)),(W.of .u32 0)))
 (.ret (e.Ren.Uop.Dst,e.Val))
def F_retire_written (e:TRob):Option (W .i64×W .u32):=(T_retire_written e).eval
def T_retire_Event_2 (e:TRob):Tree (Bool):=
 .ret (W.eq e.Ren.Uop.Unit (W.of .i64 6))
def F_retire_Event_2 (e:TRob):Option (Bool):=(T_retire_Event_2 e).eval
def B_slices_IndexFunc_Rob_of_retire_Event_2_5 (s:Sl 248 (TRob)) (t_7 t_8:W .i64):Tree (Rnd (Sl 248 (TRob)×((Unit)×(Unit))×W .i64×W .i64×Unit) ((W .i64×Unit)⊕(Unit×Unit))):=
 .ite (W.lt t_8 t_7) (.opt (Sl.get? s t_8) fun y1=>
 .opt (F_retire_Event_2 y1) fun r2=>
 .ite r2 (.ret (.out (.inl (t_8,()))))
 (.ret (.next (s,((),()),t_7,(W.add t_8 (W.of .i64 1)),()))))
 (.ret (.out (.inr ((),()))))
def L_slices_IndexFunc_Rob_of_retire_Event_2_5 (a:Sl 248 (TRob)×((Unit)×(Unit))×W .i64×W .i64×Unit):Option ((W .i64×Unit)⊕(Unit×Unit)):=iter (fun a:Sl 248 (TRob)×((Unit)×(Unit))×W .i64×W .i64×Unit=>(B_slices_IndexFunc_Rob_of_retire_Event_2_5 a.1 a.2.2.1 a.2.2.2.1).eval) fuel a
def T_slices_IndexFunc_Rob_of_retire_Event_2 (s:Sl 248 (TRob)):Tree (W .i64):=
 .opt (L_slices_IndexFunc_Rob_of_retire_Event_2_5 ((s,((),()),(Sl.len s),(W.of .i64 0),()))) fun o3=>
 .sum o3 (fun p4=>
 .ret p4.1)
 (fun o5=>
 .ret (W.of .i64 (-1)))
def F_slices_IndexFunc_Rob_of_retire_Event_2 (s:Sl 248 (TRob)):Option (W .i64):=(T_slices_IndexFunc_Rob_of_retire_Event_2 s).eval
def T_retire_reg (a:TArch) (r:W .i64):Tree (W .u32):=
 .opt (F_retire_is r) fun r1=>
 .ite (!r1) (.ret (W.of .u32 0))
 (.opt (idx? 16 r) fun j2=>
 .ret (Arr.get a.R j2))
def F_retire_reg (a:TArch) (r:W .i64):Option (W .u32):=(T_retire_reg a r).eval
def T_crack_Size (op:W .i64):Tree (W .i64):=
 .ite (W.eq op (W.of .i64 34)) (.ret (W.of .i64 1))
 (.ite (W.eq op (W.of .i64 35)) (.ret (W.of .i64 1))
 (.ite (W.eq op (W.of .i64 40)) (.ret (W.of .i64 1))
 (.ite (W.eq op (W.of .i64 36)) (.ret (W.of .i64 2))
 (.ite (W.eq op (W.of .i64 37)) (.ret (W.of .i64 2))
 (.ite (W.eq op (W.of .i64 41)) (.ret (W.of .i64 2))
 (.ite (W.eq op (W.of .i64 38)) (.ret (W.of .i64 4))
 (.ite (W.eq op (W.of .i64 39)) (.ret (W.of .i64 4))
 (.ite (W.eq op (W.of .i64 42)) (.ret (W.of .i64 4))
 (.ite (W.eq op (W.of .i64 51)) (.ret (W.of .i64 4))
 (.ite (W.eq op (W.of .i64 52)) (.ret (W.of .i64 4))
 (.ite (W.eq op (W.of .i64 53)) (.ret (W.of .i64 4))
 (.ret (W.of .i64 0)))))))))))))
def F_crack_Size (op:W .i64):Option (W .i64):=(T_crack_Size op).eval
def T_exec_between (op from_1 to_2:W .i64):Tree (Bool):=
 .ite (W.ge op from_1) (.ret (W.le op to_2))
 (.ret false)
def F_exec_between (op from_1 to_2:W .i64):Option (Bool):=(T_exec_between op from_1 to_2).eval
def T_bits_Zext (x:W .u32) (n_1:W .i64):Tree (W .u32):=
 .opt (F_bits_clamp n_1 (W.of .i64 0) (W.of .i64 32)) fun r1=>
 .opt (F_bits_ones r1) fun r2=>
 .ret (W.and x r2)
def F_bits_Zext (x:W .u32) (n_1:W .i64):Option (W .u32):=(T_bits_Zext x n_1).eval
def T_exec_Data (u:TUop) (in_1:Arr 3 (W .u32)):Tree (W .u32):=
 .opt (F_exec_between u.Inst.Op (W.of .i64 40) (W.of .i64 42)) fun r1=>
 .ite (!r1) (.ret (W.of .u32 0))
 (.opt (F_crack_Size u.Inst.Op) fun r2=>
 .opt (F_bits_Zext (Arr.get in_1 1) (W.mul (W.of .i64 8) r2)) fun r3=>
 .ret r3)
def F_exec_Data (u:TUop) (in_1:Arr 3 (W .u32)):Option (W .u32):=(T_exec_Data u in_1).eval
def T_retire_Event (l_0:Sl 248 (TRob)) (a:TArch):Tree (TEvent):=
 .ite (W.eq (Sl.len l_0) (W.of .i64 0)) (.ret (TEvent.mk (W.of .u32 0) (W.of .u32 0) (W.of .i64 (-1)) (W.of .u32 0) (W.of .i64 (-1)) (W.of .u32 0) (W.of .i64 0) (W.of .u32 0) (W.of .u32 0) (W.of .i64 0) (W.of .u32 0) (W.of .u32 0)))
 (.opt (Sl.get? l_0 (W.of .i64 0)) fun y1=>
 .opt (F_slices_IndexFunc_Rob_of_retire_Event_1 l_0) fun r2=>
 .ite (W.ge r2 (W.of .i64 0)) (.opt (Sl.get? l_0 r2) fun y3=>
 .opt (Sl.get? l_0 r2) fun y4=>
 .ret (TEvent.mk y1.Ren.Uop.Slot.PC y1.Ren.Uop.Slot.Word (W.of .i64 (-1)) (W.of .u32 0) (W.of .i64 (-1)) (W.of .u32 0) (W.of .i64 0) (W.of .u32 0) (W.of .u32 0) y3.Cause y4.Tval (Arr.get a.C 4)))
 (.opt (Sl.get? l_0 (W.of .i64 0)) fun y5=>
 .opt (F_retire_written y5) fun r6=>
 .ite (W.gt (Sl.len l_0) (W.of .i64 1)) (.opt (Sl.get? l_0 (W.of .i64 1)) fun y7=>
 .opt (F_retire_written y7) fun r8=>
 .opt (Sl.get? l_0 (W.sub (Sl.len l_0) (W.of .i64 1))) fun y9=>
 .opt (F_slices_IndexFunc_Rob_of_retire_Event_2 l_0) fun r10=>
 .ite (W.ge r10 (W.of .i64 0)) (.opt (Sl.get? l_0 r10) fun y11=>
 .opt (F_retire_reg a (Arr.get y11.Ren.Uop.Src 0)) fun r12=>
 .opt (F_retire_reg a (Arr.get y11.Ren.Uop.Src 1)) fun r13=>
 .opt (F_retire_reg a (Arr.get y11.Ren.Uop.Src 2)) fun r14=>
 .opt (F_crack_Size y11.Ren.Uop.Inst.Op) fun r15=>
 .opt (Sl.get? l_0 r10) fun y16=>
 .opt (F_exec_Data y11.Ren.Uop (Arr.lit 3 [r12,r13,r14] rfl:Arr 3 (W .u32))) fun r17=>
 .ret (TEvent.mk y1.Ren.Uop.Slot.PC y1.Ren.Uop.Slot.Word r6.1 r6.2 r8.1 r8.2 r15 y16.Val r17 (W.of .i64 0) (W.of .u32 0) y9.Next))
 (.ret (TEvent.mk y1.Ren.Uop.Slot.PC y1.Ren.Uop.Slot.Word r6.1 r6.2 r8.1 r8.2 (W.of .i64 0) (W.of .u32 0) (W.of .u32 0) (W.of .i64 0) (W.of .u32 0) y9.Next)))
 (.opt (Sl.get? l_0 (W.sub (Sl.len l_0) (W.of .i64 1))) fun y18=>
 .opt (F_slices_IndexFunc_Rob_of_retire_Event_2 l_0) fun r19=>
 .ite (W.ge r19 (W.of .i64 0)) (.opt (Sl.get? l_0 r19) fun y20=>
 .opt (F_retire_reg a (Arr.get y20.Ren.Uop.Src 0)) fun r21=>
 .opt (F_retire_reg a (Arr.get y20.Ren.Uop.Src 1)) fun r22=>
 .opt (F_retire_reg a (Arr.get y20.Ren.Uop.Src 2)) fun r23=>
 .opt (F_crack_Size y20.Ren.Uop.Inst.Op) fun r24=>
 .opt (Sl.get? l_0 r19) fun y25=>
 .opt (F_exec_Data y20.Ren.Uop (Arr.lit 3 [r21,r22,r23] rfl:Arr 3 (W .u32))) fun r26=>
 .ret (TEvent.mk y1.Ren.Uop.Slot.PC y1.Ren.Uop.Slot.Word r6.1 r6.2 (W.of .i64 (-1)) (W.of .u32 0) r24 y25.Val r26 (W.of .i64 0) (W.of .u32 0) y18.Next))
 (.ret (TEvent.mk y1.Ren.Uop.Slot.PC y1.Ren.Uop.Slot.Word r6.1 r6.2 (W.of .i64 (-1)) (W.of .u32 0) (W.of .i64 0) (W.of .u32 0) (W.of .u32 0) (W.of .i64 0) (W.of .u32 0) y18.Next)))))
def F_retire_Event (l_0:Sl 248 (TRob)) (a:TArch):Option (TEvent):=(T_retire_Event l_0 a).eval
def T_crack_Serial (op:W .i64):Tree (Bool):=
 .ite (W.ge op (W.of .i64 51)) (.ret (W.le op (W.of .i64 62)))
 (.ret false)
def F_crack_Serial (op:W .i64):Option (Bool):=(T_crack_Serial op).eval
def T_inst_Priv (op:W .i64):Tree (Bool):=
 .ite (W.eq op (W.of .i64 55)) (.ret true)
 (.ite (W.eq op (W.of .i64 57)) (.ret true)
 (.ite (W.eq op (W.of .i64 61)) (.ret true)
 (.ret (W.eq op (W.of .i64 59)))))
def F_inst_Priv (op:W .i64):Option (Bool):=(T_inst_Priv op).eval
def T_trap_Return (a:TArch):Tree (TArch×W .i64):=
 .opt (F_csr_Kernel a) fun r1=>
 .ite (!r1) (.ret ((TArch.mk (W.of .u32 0) (Arr.rep 16 (W.of .u32 0):Arr 16 (W .u32)) (Arr.rep 12 (W.of .u32 0):Arr 12 (W .u32)) false),(W.of .i64 8)))
 (.opt (F_trap_moved (Arr.get a.C 0) (W.of .u32 4) (W.of .u32 1)) fun r2=>
 .opt (F_trap_moved r2 (W.of .u32 8) (W.of .u32 2)) fun r3=>
 .ret (({ a with C:=(Arr.set a.C 0 r3),PC:=(Arr.get (Arr.set a.C 0 r3) 3) }:TArch),(W.of .i64 0)))
def F_trap_Return (a:TArch):Option (TArch×W .i64):=(T_trap_Return a).eval
def T_csr_may (a:TArch) (n_1:W .i64) (free:Bool):Tree (W .i64):=
 .opt (F_csr_Kernel a) fun r1=>
 .ite (!r1) (.ite (!free) (.ret (W.of .i64 8))
 (.ite (W.lt n_1 (W.of .i64 0)) (.ret (W.of .i64 2))
 (.ite (W.ge n_1 (W.of .i64 12)) (.ret (W.of .i64 2))
 (.ret (W.of .i64 0)))))
 (.ite (W.lt n_1 (W.of .i64 0)) (.ret (W.of .i64 2))
 (.ite (W.ge n_1 (W.of .i64 12)) (.ret (W.of .i64 2))
 (.ret (W.of .i64 0))))
def F_csr_may (a:TArch) (n_1:W .i64) (free:Bool):Option (W .i64):=(T_csr_may a n_1 free).eval
def T_csr_Read (a:TArch) (n_1:W .i64):Tree (W .u32×W .i64):=
 .opt (F_csr_may a n_1 (W.eq n_1 (W.of .i64 7))) fun r1=>
 .ite (W.ne r1 (W.of .i64 0)) (.ret ((W.of .u32 0),r1))
 (.opt (idx? 12 n_1) fun j2=>
 .ret ((Arr.get a.C j2),(W.of .i64 0)))
def F_csr_Read (a:TArch) (n_1:W .i64):Option (W .u32×W .i64):=(T_csr_Read a n_1).eval
def T_csr_Write (a:TArch) (n_1:W .i64) (v:W .u32):Tree (TArch×W .i64):=
 .opt (F_csr_may a n_1 false) fun r1=>
 .ite (W.ne r1 (W.of .i64 0)) (.ret ((TArch.mk (W.of .u32 0) (Arr.rep 16 (W.of .u32 0):Arr 16 (W .u32)) (Arr.rep 12 (W.of .u32 0):Arr 12 (W .u32)) false),r1))
 (.opt (F_csr_Masked n_1) fun r2=>
 .opt (idx? 12 n_1) fun j3=>
 .ret (({ a with C:=(Arr.set a.C j3 (W.and v r2)) }:TArch),(W.of .i64 0)))
def F_csr_Write (a:TArch) (n_1:W .i64) (v:W .u32):Option (TArch×W .i64):=(T_csr_Write a n_1 v).eval
def T_walk_Paged (a:TArch):Tree (Bool):=
 .ite (W.ne (W.and (Arr.get a.C 0) (W.of .u32 16)) (W.of .u32 0)) (.opt (F_csr_Kernel a) fun r1=>
 .ret (!r1))
 (.ret false)
def F_walk_Paged (a:TArch):Option (Bool):=(T_walk_Paged a).eval
def T_walk_Fault (access:W .i64):Tree (W .i64):=
 .ite (W.eq access (W.of .i64 1)) (.ret (W.of .i64 1))
 (.ite (W.eq access (W.of .i64 2)) (.ret (W.of .i64 4))
 (.ite (W.eq access (W.of .i64 3)) (.ret (W.of .i64 6))
 (.ret (W.of .i64 9))))
def F_walk_Fault (access:W .i64):Option (W .i64):=(T_walk_Fault access).eval
def T_bits_Field (x:W .u32) (hi lo:W .i64):Tree (W .u32):=
 .opt (F_bits_mask hi lo) fun r1=>
 .opt (W.shr? (W.and x r1.1) r1.2) fun z2=>
 .ret z2
def F_bits_Field (x:W .u32) (hi lo:W .i64):Option (W .u32):=(T_bits_Field x hi lo).eval
def T_pte_Index (va:W .u32) (level:W .i64):Tree (W .i64):=
 .ite (W.eq level (W.of .i64 0)) (.opt (F_bits_Field va (W.of .i64 13) (W.of .i64 10)) fun r1=>
 .ret (W.conv (.i64) r1))
 (.ite (W.eq level (W.of .i64 1)) (.opt (F_bits_Field va (W.of .i64 9) (W.of .i64 6)) fun r2=>
 .ret (W.conv (.i64) r2))
 (.ret (W.of .i64 0)))
def F_pte_Index (va:W .u32) (level:W .i64):Option (W .i64):=(T_pte_Index va level).eval
def T_mem_Check (m:Sl 1 (W .u8)) (addr:W .u32) (size:W .i64):Tree (W .i64):=
 .ite (W.ne size (W.of .i64 1)) (.ite (W.ne size (W.of .i64 2)) (.ite (W.ne size (W.of .i64 4)) (.ret (W.of .i64 9))
 (.ite (W.gt (W.add (W.conv (.u64) addr) (W.conv (.u64) size)) (W.conv (.u64) (Sl.len m))) (.ret (W.of .i64 9))
 (.ret (W.of .i64 0))))
 (.ite (W.gt (W.add (W.conv (.u64) addr) (W.conv (.u64) size)) (W.conv (.u64) (Sl.len m))) (.ret (W.of .i64 9))
 (.ret (W.of .i64 0))))
 (.ite (W.gt (W.add (W.conv (.u64) addr) (W.conv (.u64) size)) (W.conv (.u64) (Sl.len m))) (.ret (W.of .i64 9))
 (.ret (W.of .i64 0)))
def F_mem_Check (m:Sl 1 (W .u8)) (addr:W .u32) (size:W .i64):Option (W .i64):=(T_mem_Check m addr size).eval
def B_bits_Of_7 (v:W .u32) (t_10:Sl 1 (W .u8)) (t_11 t_12:W .i64):Tree (Rnd (W .u32×Sl 1 (W .u8)×W .i64×W .i64×Unit) (W .u32×Unit)):=
 .ite (W.lt t_12 t_11) (.opt (Sl.get? t_10 t_12) fun y3=>
 .opt (W.shl? (W.conv (.u32) y3) (W.mul (W.of .i64 8) t_12)) fun z4=>
 .ret (.next ((W.or v z4),t_10,t_11,(W.add t_12 (W.of .i64 1)),())))
 (.ret (.out (v,())))
def L_bits_Of_7 (a:W .u32×Sl 1 (W .u8)×W .i64×W .i64×Unit):Option (W .u32×Unit):=iter (fun a:W .u32×Sl 1 (W .u8)×W .i64×W .i64×Unit=>(B_bits_Of_7 a.1 a.2.1 a.2.2.1 a.2.2.2.1).eval) fuel a
def T_bits_Of (b:Sl 1 (W .u8)):Tree (W .u32):=
 .opt (nat? (W.min (Sl.len b) (W.of .i64 4))) fun n1=>
 .opt (Sl.sub? b 0 n1) fun l2=>
 .opt (L_bits_Of_7 (((W.of .u32 0),l2,(Sl.len l2),(W.of .i64 0),()))) fun o5=>
 .ret o5.1
def F_bits_Of (b:Sl 1 (W .u8)):Option (W .u32):=(T_bits_Of b).eval
def T_mem_Read (m:Sl 1 (W .u8)) (addr:W .u32) (size:W .i64):Tree (W .u32×W .i64):=
 .opt (F_mem_Check m addr size) fun r1=>
 .ite (W.ne r1 (W.of .i64 0)) (.ret ((W.of .u32 0),r1))
 (.opt (nat? addr) fun n2=>
 .opt (nat? (W.add (W.conv (.i64) addr) size)) fun n3=>
 .opt (Sl.sub? m n2 n3) fun l4=>
 .opt (F_bits_Of l4) fun r5=>
 .ret (r5,(W.of .i64 0)))
def F_mem_Read (m:Sl 1 (W .u8)) (addr:W .u32) (size:W .i64):Option (W .u32×W .i64):=(T_mem_Read m addr size).eval
def T_pte_Of (w:W .u32):Tree (TPte):=
 .opt (F_bits_Field w (W.of .i64 15) (W.of .i64 8)) fun r1=>
 .ret (TPte.mk (W.and w (W.of .u32 127)) (W.conv (.i64) r1))
def F_pte_Of (w:W .u32):Option (TPte):=(T_pte_Of w).eval
def T_walk_walker_entry (w:TWalker) (at_1:W .u32):Tree (TPte×Bool×TWalker):=
 .opt (F_mem_Read w.shadow at_1 (W.of .i64 4)) fun r1=>
 .ite (W.ne r1.2 (W.of .i64 0)) (.ret ((TPte.mk (W.of .u32 0) (W.of .i64 0)),false,w))
 (.opt (Sl.app? w.read (Sl.lit 4 [at_1] rfl:Sl 4 (W .u32))) fun l2=>
 .opt (F_pte_Of r1.1) fun r3=>
 .ret (r3,true,({ w with read:=l2 }:TWalker)))
def F_walk_walker_entry (w:TWalker) (at_1:W .u32):Option (TPte×Bool×TWalker):=(T_walk_walker_entry w at_1).eval
def T_pte_Leaf (p:TPte):Tree (Bool):=
 .ret (W.ne (W.and p.Bits (W.of .u32 14)) (W.of .u32 0))
def F_pte_Leaf (p:TPte):Option (Bool):=(T_pte_Leaf p).eval
def T_walk_Walk (shadow:Sl 1 (W .u8)) (root va:W .u32):Tree (TPte×Sl 4 (W .u32)×Bool):=
 .ite (W.ge va (W.of .u32 16384)) (.ret ((TPte.mk (W.of .u32 0) (W.of .i64 0)),(Sl.nil:Sl 4 (W .u32)),false))
 (.opt (F_pte_Index va (W.of .i64 0)) fun r1=>
 .opt (F_walk_walker_entry (TWalker.mk shadow (Sl.nil:Sl 4 (W .u32))) (W.add root (W.mul (W.of .u32 4) (W.conv (.u32) r1)))) fun r2=>
 .ite (!r2.2.1) (.ret ((TPte.mk (W.of .u32 0) (W.of .i64 0)),r2.2.2.read,false))
 (.ite (W.eq (W.and r2.1.Bits (W.of .u32 1)) (W.of .u32 0)) (.ret ((TPte.mk (W.of .u32 0) (W.of .i64 0)),r2.2.2.read,false))
 (.opt (F_pte_Leaf r2.1) fun r3=>
 .ite r3 (.ret ((TPte.mk (W.of .u32 0) (W.of .i64 0)),r2.2.2.read,false))
 (.opt (F_pte_Index va (W.of .i64 1)) fun r4=>
 .opt (F_walk_walker_entry r2.2.2 (W.add (W.conv (.u32) (W.mul (W.of .i64 64) r2.1.Page)) (W.mul (W.of .u32 4) (W.conv (.u32) r4)))) fun r5=>
 .ite (!r5.2.1) (.ret ((TPte.mk (W.of .u32 0) (W.of .i64 0)),r5.2.2.read,false))
 (.ite (W.eq (W.and r5.1.Bits (W.of .u32 1)) (W.of .u32 0)) (.ret ((TPte.mk (W.of .u32 0) (W.of .i64 0)),r5.2.2.read,false))
 (.opt (F_pte_Leaf r5.1) fun r6=>
 .ite (!r6) (.ret ((TPte.mk (W.of .u32 0) (W.of .i64 0)),r5.2.2.read,false))
 (.ret (r5.1,r5.2.2.read,true))))))))
def F_walk_Walk (shadow:Sl 1 (W .u8)) (root va:W .u32):Option (TPte×Sl 4 (W .u32)×Bool):=(T_walk_Walk shadow root va).eval
def T_pte_Allows (p:TPte) (access:W .i64) (kernel:Bool):Tree (Bool):=
 .ite (!kernel) (.ite (W.eq access (W.of .i64 1)) (.ret (W.eq (W.and p.Bits (W.of .u32 57)) (W.of .u32 57)))
 (.ite (W.eq access (W.of .i64 2)) (.ret (W.eq (W.and p.Bits (W.of .u32 51)) (W.of .u32 51)))
 (.ite (W.eq access (W.of .i64 3)) (.ret (W.eq (W.and p.Bits (W.of .u32 117)) (W.of .u32 117)))
 (.ret false))))
 (.ite (W.eq access (W.of .i64 1)) (.ret (W.eq (W.and p.Bits (W.of .u32 41)) (W.of .u32 41)))
 (.ite (W.eq access (W.of .i64 2)) (.ret (W.eq (W.and p.Bits (W.of .u32 35)) (W.of .u32 35)))
 (.ite (W.eq access (W.of .i64 3)) (.ret (W.eq (W.and p.Bits (W.of .u32 101)) (W.of .u32 101)))
 (.ret false))))
def F_pte_Allows (p:TPte) (access:W .i64) (kernel:Bool):Option (Bool):=(T_pte_Allows p access kernel).eval
def T_pte_page (p:TPte):Tree (W .u32):=
 .ret (W.and (W.conv (.u32) p.Page) (W.of .u32 255))
def F_pte_page (p:TPte):Option (W .u32):=(T_pte_page p).eval
def T_pte_Addr (p:TPte) (va:W .u32):Tree (W .u32):=
 .opt (F_pte_page p) fun r1=>
 .ret (W.add (W.mul r1 (W.of .u32 64)) (W.rem va (W.of .u32 64)))
def F_pte_Addr (p:TPte) (va:W .u32):Option (W .u32):=(T_pte_Addr p va).eval
def T_walk_Trans (a:TArch) (shadow:Sl 1 (W .u8)) (va:W .u32) (access:W .i64):Tree (W .u32×W .i64):=
 .opt (F_walk_Paged a) fun r1=>
 .ite (!r1) (.ret (va,(W.of .i64 0)))
 (.opt (F_walk_Fault access) fun r2=>
 .ite (W.eq r2 (W.of .i64 9)) (.ret ((W.of .u32 0),r2))
 (.opt (F_walk_Walk shadow (Arr.get a.C 5) va) fun r3=>
 .ite (!r3.2.2) (.ret ((W.of .u32 0),r2))
 (.opt (F_pte_Allows r3.1 access false) fun r4=>
 .ite (!r4) (.ret ((W.of .u32 0),r2))
 (.opt (F_pte_Addr r3.1 va) fun r5=>
 .ret (r5,(W.of .i64 0))))))
def F_walk_Trans (a:TArch) (shadow:Sl 1 (W .u8)) (va:W .u32) (access:W .i64):Option (W .u32×W .i64):=(T_walk_Trans a shadow va access).eval
def T_retire_serial_place (s:TSerial):Tree (W .u32×W .i64×TSerial):=
 .opt (F_retire_reg s.ahead s.i.Ra) fun r1=>
 .ite (W.ne (W.rem r1 (W.of .u32 4)) (W.of .u32 0)) (.ret ((W.of .u32 0),(W.of .i64 5),s))
 (.opt (F_walk_Trans s.ahead s.c.Shadow r1 (W.of .i64 3)) fun r2=>
 .ite (W.ne r2.2 (W.of .i64 0)) (.ret ((W.of .u32 0),r2.2,s))
 (.opt (F_mem_Check s.m.Mem r2.1 (W.of .i64 4)) fun r3=>
 .ret (r2.1,r3,s)))
def F_retire_serial_place (s:TSerial):Option (W .u32×W .i64×TSerial):=(T_retire_serial_place s).eval
def T_retire_serial_fault (s:TSerial):Tree (W .i64×W .u32×TSerial):=
 .opt (F_inst_Priv s.i.Op) fun r1=>
 .ite r1 (.opt (F_csr_Kernel s.ahead) fun r2=>
 .ite (!r2) (.ret ((W.of .i64 8),s.word,s))
 (.ite (W.eq s.i.Op (W.of .i64 54)) (.ret ((W.of .i64 7),(W.of .u32 0),s))
 (.ite (W.eq s.i.Op (W.of .i64 55)) (.opt (F_trap_Return s.ahead) fun r3=>
 .ret (r3.2,s.word,s))
 (.ite (W.eq s.i.Op (W.of .i64 56)) (.opt (F_csr_Read s.ahead s.i.Imm) fun r4=>
 .ret (r4.2,s.word,s))
 (.ite (W.eq s.i.Op (W.of .i64 57)) (.opt (F_retire_reg s.ahead s.i.Ra) fun r5=>
 .opt (F_csr_Write s.ahead s.i.Imm r5) fun r6=>
 .ret (r6.2,s.word,s))
 (.opt (F_inst_Form s.i.Op) fun r7=>
 .ite (W.eq r7 (W.of .i64 6)) (.opt (F_retire_serial_place s) fun r8=>
 .opt (F_retire_reg s.ahead r8.2.2.i.Ra) fun r9=>
 .ret (r8.2.1,r9,r8.2.2))
 (.ret ((W.of .i64 0),s.word,s))))))))
 (.ite (W.eq s.i.Op (W.of .i64 54)) (.ret ((W.of .i64 7),(W.of .u32 0),s))
 (.ite (W.eq s.i.Op (W.of .i64 55)) (.opt (F_trap_Return s.ahead) fun r10=>
 .ret (r10.2,s.word,s))
 (.ite (W.eq s.i.Op (W.of .i64 56)) (.opt (F_csr_Read s.ahead s.i.Imm) fun r11=>
 .ret (r11.2,s.word,s))
 (.ite (W.eq s.i.Op (W.of .i64 57)) (.opt (F_retire_reg s.ahead s.i.Ra) fun r12=>
 .opt (F_csr_Write s.ahead s.i.Imm r12) fun r13=>
 .ret (r13.2,s.word,s))
 (.opt (F_inst_Form s.i.Op) fun r14=>
 .ite (W.eq r14 (W.of .i64 6)) (.opt (F_retire_serial_place s) fun r15=>
 .opt (F_retire_reg s.ahead r15.2.2.i.Ra) fun r16=>
 .ret (r15.2.1,r16,r15.2.2))
 (.ret ((W.of .i64 0),s.word,s)))))))
def F_retire_serial_fault (s:TSerial):Option (W .i64×W .u32×TSerial):=(T_retire_serial_fault s).eval
def T_coh_reached (m:TCoh) (who:W .i64) (addr:W .u32) (size:W .i64):Tree (Bool):=
 .ite (W.lt who (W.of .i64 0)) (.ret false)
 (.ite (W.ge who (Sl.len m.Caches)) (.ret false)
 (.ite (W.ne size (W.of .i64 1)) (.ite (W.ne size (W.of .i64 2)) (.ite (W.ne size (W.of .i64 4)) (.ret false)
 (.ite (W.le (W.add (W.conv (.i64) (W.rem addr (W.of .u32 16))) size) (W.of .i64 16)) (.opt (F_mem_Check m.Mem addr size) fun r1=>
 .ret (W.eq r1 (W.of .i64 0)))
 (.ret false)))
 (.ite (W.le (W.add (W.conv (.i64) (W.rem addr (W.of .u32 16))) size) (W.of .i64 16)) (.opt (F_mem_Check m.Mem addr size) fun r2=>
 .ret (W.eq r2 (W.of .i64 0)))
 (.ret false)))
 (.ite (W.le (W.add (W.conv (.i64) (W.rem addr (W.of .u32 16))) size) (W.of .i64 16)) (.opt (F_mem_Check m.Mem addr size) fun r3=>
 .ret (W.eq r3 (W.of .i64 0)))
 (.ret false))))
def F_coh_reached (m:TCoh) (who:W .i64) (addr:W .u32) (size:W .i64):Option (Bool):=(T_coh_reached m who addr size).eval
def T_mem_LineOf (addr:W .u32):Tree (W .u32):=
 .ret (W.quo addr (W.of .u32 16))
def F_mem_LineOf (addr:W .u32):Option (W .u32):=(T_mem_LineOf addr).eval
def T_cache_setOf (c:TCache) (line:W .u32):Tree (W .i64):=
 .ite (W.eq (Sl.len c.Sets) (W.of .i64 0)) (.ret (W.of .i64 0))
 (.opt (W.rem? (W.conv (.u64) line) (W.conv (.u64) (Sl.len c.Sets))) fun z1=>
 .ret (W.conv (.i64) z1))
def F_cache_setOf (c:TCache) (line:W .u32):Option (W .i64):=(T_cache_setOf c line).eval
def T_cache_ways (c:TCache) (line:W .u32):Tree (Sl 40 (TWay)):=
 .ite (W.eq (Sl.len c.Sets) (W.of .i64 0)) (.ret (Sl.nil:Sl 40 (TWay)))
 (.opt (F_cache_setOf c line) fun r1=>
 .opt (Sl.get? c.Sets r1) fun y2=>
 .ret y2)
def F_cache_ways (c:TCache) (line:W .u32):Option (Sl 40 (TWay)):=(T_cache_ways c line).eval
def T_cache_Find_1 (w:TWay) (a:W .u32):Tree (Bool):=
 .ite (W.eq w.Tag a) (.ret (W.ne w.State (W.of .i64 0)))
 (.ret false)
def F_cache_Find_1 (w:TWay) (a:W .u32):Option (Bool):=(T_cache_Find_1 w a).eval
def B_slices_IndexFunc_Way_of_cache_Find_1_5 (s:Sl 40 (TWay)) (fc0:W .u32) (t_7 t_8:W .i64):Tree (Rnd (Sl 40 (TWay)×((Unit)×(W .u32×Unit))×W .i64×W .i64×Unit) ((W .i64×Unit)⊕(Unit×Unit))):=
 .ite (W.lt t_8 t_7) (.opt (Sl.get? s t_8) fun y1=>
 .opt (F_cache_Find_1 y1 fc0) fun r2=>
 .ite r2 (.ret (.out (.inl (t_8,()))))
 (.ret (.next (s,((),(fc0,())),t_7,(W.add t_8 (W.of .i64 1)),()))))
 (.ret (.out (.inr ((),()))))
def L_slices_IndexFunc_Way_of_cache_Find_1_5 (a:Sl 40 (TWay)×((Unit)×(W .u32×Unit))×W .i64×W .i64×Unit):Option ((W .i64×Unit)⊕(Unit×Unit)):=iter (fun a:Sl 40 (TWay)×((Unit)×(W .u32×Unit))×W .i64×W .i64×Unit=>(B_slices_IndexFunc_Way_of_cache_Find_1_5 a.1 a.2.1.2.1 a.2.2.1 a.2.2.2.1).eval) fuel a
def T_slices_IndexFunc_Way_of_cache_Find_1 (s:Sl 40 (TWay)) (fc0:W .u32):Tree (W .i64):=
 .opt (L_slices_IndexFunc_Way_of_cache_Find_1_5 ((s,((),(fc0,())),(Sl.len s),(W.of .i64 0),()))) fun o3=>
 .sum o3 (fun p4=>
 .ret p4.1)
 (fun o5=>
 .ret (W.of .i64 (-1)))
def F_slices_IndexFunc_Way_of_cache_Find_1 (s:Sl 40 (TWay)) (fc0:W .u32):Option (W .i64):=(T_slices_IndexFunc_Way_of_cache_Find_1 s fc0).eval
def T_cache_Find (c:TCache) (line:W .u32):Tree (W .i64×W .i64×Bool):=
 .opt (F_cache_ways c line) fun r1=>
 .opt (F_slices_IndexFunc_Way_of_cache_Find_1 r1 line) fun r2=>
 .ite (W.lt r2 (W.of .i64 0)) (.ret ((W.of .i64 0),(W.of .i64 0),false))
 (.opt (F_cache_setOf c line) fun r3=>
 .ret (r3,r2,true))
def F_cache_Find (c:TCache) (line:W .u32):Option (W .i64×W .i64×Bool):=(T_cache_Find c line).eval
def T_bus_lines_way (l_0:TLines) (who:W .i64):Tree (TWay):=
 .ite (W.lt who (W.of .i64 0)) (.ret (TWay.mk (W.of .i64 0) (W.of .u32 0) (Arr.rep 16 (W.of .u8 0):Arr 16 (W .u8)) (W.of .i64 0)))
 (.ite (W.ge who (Sl.len l_0.m.Caches)) (.ret (TWay.mk (W.of .i64 0) (W.of .u32 0) (Arr.rep 16 (W.of .u8 0):Arr 16 (W .u8)) (W.of .i64 0)))
 (.opt (Sl.get? l_0.m.Caches who) fun y1=>
 .opt (F_cache_Find y1 l_0.line) fun r2=>
 .ite (!r2.2.2) (.ret (TWay.mk (W.of .i64 0) (W.of .u32 0) (Arr.rep 16 (W.of .u8 0):Arr 16 (W .u8)) (W.of .i64 0)))
 (.opt (Sl.get? l_0.m.Caches who) fun y3=>
 .opt (Sl.get? y3.Sets r2.1) fun y4=>
 .opt (Sl.get? y4 r2.2.1) fun y5=>
 .ret y5)))
def F_bus_lines_way (l_0:TLines) (who:W .i64):Option (TWay):=(T_bus_lines_way l_0 who).eval
def T_mesi_known (state:W .i64):Tree (Bool):=
 .ite (W.ge state (W.of .i64 0)) (.ret (W.le state (W.of .i64 3)))
 (.ret false)
def F_mesi_known (state:W .i64):Option (Bool):=(T_mesi_known state).eval
def T_mesi_of (state:W .i64):Tree (W .i64):=
 .opt (F_mesi_known state) fun r1=>
 .ite (!r1) (.ret (W.of .i64 0))
 (.ret state)
def F_mesi_of (state:W .i64):Option (W .i64):=(T_mesi_of state).eval
def T_mesi_Ask (state ask:W .i64):Tree (W .i64):=
 .opt (F_mesi_of state) fun r1=>
 .ite (W.eq ask (W.of .i64 1)) (.ite (W.eq r1 (W.of .i64 0)) (.ret (W.of .i64 1))
 (.ite (W.eq ask (W.of .i64 2)) (.ite (W.eq r1 (W.of .i64 0)) (.ret (W.of .i64 2))
 (.ite (W.eq ask (W.of .i64 2)) (.ite (W.eq r1 (W.of .i64 1)) (.ret (W.of .i64 3))
 (.ret (W.of .i64 0)))
 (.ret (W.of .i64 0))))
 (.ite (W.eq ask (W.of .i64 2)) (.ite (W.eq r1 (W.of .i64 1)) (.ret (W.of .i64 3))
 (.ret (W.of .i64 0)))
 (.ret (W.of .i64 0)))))
 (.ite (W.eq ask (W.of .i64 2)) (.ite (W.eq r1 (W.of .i64 0)) (.ret (W.of .i64 2))
 (.ite (W.eq ask (W.of .i64 2)) (.ite (W.eq r1 (W.of .i64 1)) (.ret (W.of .i64 3))
 (.ret (W.of .i64 0)))
 (.ret (W.of .i64 0))))
 (.ite (W.eq ask (W.of .i64 2)) (.ite (W.eq r1 (W.of .i64 1)) (.ret (W.of .i64 3))
 (.ret (W.of .i64 0)))
 (.ret (W.of .i64 0))))
def F_mesi_Ask (state ask:W .i64):Option (W .i64):=(T_mesi_Ask state ask).eval
def T_bus_Want (m:TCoh) (who:W .i64) (line:W .u32) (ask:W .i64):Tree (TReq):=
 .ite (W.lt who (W.of .i64 0)) (.ret (TReq.mk (W.of .i64 0) (W.of .u32 0)))
 (.ite (W.ge who (Sl.len m.Caches)) (.ret (TReq.mk (W.of .i64 0) (W.of .u32 0)))
 (.opt (F_bus_lines_way (TLines.mk m line) who) fun r1=>
 .opt (F_mesi_Ask r1.State ask) fun r2=>
 .ret (TReq.mk r2 line)))
def F_bus_Want (m:TCoh) (who:W .i64) (line:W .u32) (ask:W .i64):Option (TReq):=(T_bus_Want m who line ask).eval
def T_bus_lies (m:TCoh) (line:W .u32):Tree (Bool):=
 .ret (W.le (W.mul (W.add (W.conv (.u64) line) (W.of .u64 1)) (W.of .u64 16)) (W.conv (.u64) (Sl.len m.Mem)))
def F_bus_lies (m:TCoh) (line:W .u32):Option (Bool):=(T_bus_lies m line).eval
def T_mesi_Snoop (state bus:W .i64):Tree (W .i64×Bool):=
 .opt (F_mesi_of state) fun r1=>
 .ite (W.eq bus (W.of .i64 1)) (.ret ((W.min r1 (W.of .i64 1)),(W.eq r1 (W.of .i64 3))))
 (.ite (W.eq bus (W.of .i64 2)) (.ret ((W.of .i64 0),(W.eq r1 (W.of .i64 3))))
 (.ite (W.eq bus (W.of .i64 3)) (.ret ((W.of .i64 0),(W.eq r1 (W.of .i64 3))))
 (.ret (r1,false))))
def F_mesi_Snoop (state bus:W .i64):Option (W .i64×Bool):=(T_mesi_Snoop state bus).eval
def T_bus_Back (m:TCoh) (who:W .i64) (w:TWay):Tree (TCoh):=
 .ite (W.ne w.State (W.of .i64 3)) (.ret m)
 (.opt (F_bus_lies m w.Tag) fun r1=>
 .ite (!r1) (.ret m)
 (.opt (nat? (W.mul (W.conv (.i64) w.Tag) (W.of .i64 16))) fun n2=>
 .opt (vw? (List.length m.Mem.l) (some n2) (none)) fun j3=>
 .ret ({ m with Mem:=(Sl.copy m.Mem n2 (Sl.cut (Arr.sl 1 w.Data rfl) 0 16)) }:TCoh)))
def F_bus_Back (m:TCoh) (who:W .i64) (w:TWay):Option (TCoh):=(T_bus_Back m who w).eval
def T_cache_Set (c:TCache) (line:W .u32) (state:W .i64):Tree (TCache):=
 .opt (F_cache_Find c line) fun r1=>
 .ite (!r1.2.2) (.ret c)
 (.ite (W.lt state (W.of .i64 0)) (.ret c)
 (.ite (W.gt state (W.of .i64 3)) (.ret c)
 (.fail)))
def F_cache_Set (c:TCache) (line:W .u32) (state:W .i64):Option (TCache):=(T_cache_Set c line state).eval
def T_coh_got (m:TCoh) (who:W .i64) (line:W .u32) (ask:W .i64):Tree (TCoh×Bool):=
 .opt (F_bus_Want m who line ask) fun r1=>
 .ite (W.eq r1.Kind (W.of .i64 0)) (.ret (m,true))
 (.fail)
def F_coh_got (m:TCoh) (who:W .i64) (line:W .u32) (ask:W .i64):Option (TCoh×Bool):=(T_coh_got m who line ask).eval
def T_cache_place (c:TCache) (addr:W .u32) (size:W .i64):Tree (W .i64×W .i64×W .i64×Bool):=
 .ite (W.ne size (W.of .i64 1)) (.ite (W.ne size (W.of .i64 2)) (.ite (W.ne size (W.of .i64 4)) (.ret ((W.of .i64 0),(W.of .i64 0),(W.of .i64 0),false))
 (.ite (W.gt (W.add (W.conv (.i64) (W.rem addr (W.of .u32 16))) size) (W.of .i64 16)) (.ret ((W.of .i64 0),(W.of .i64 0),(W.of .i64 0),false))
 (.opt (F_mem_LineOf addr) fun r1=>
 .opt (F_cache_Find c r1) fun r2=>
 .ret (r2.1,r2.2.1,(W.conv (.i64) (W.rem addr (W.of .u32 16))),r2.2.2))))
 (.ite (W.gt (W.add (W.conv (.i64) (W.rem addr (W.of .u32 16))) size) (W.of .i64 16)) (.ret ((W.of .i64 0),(W.of .i64 0),(W.of .i64 0),false))
 (.opt (F_mem_LineOf addr) fun r3=>
 .opt (F_cache_Find c r3) fun r4=>
 .ret (r4.1,r4.2.1,(W.conv (.i64) (W.rem addr (W.of .u32 16))),r4.2.2))))
 (.ite (W.gt (W.add (W.conv (.i64) (W.rem addr (W.of .u32 16))) size) (W.of .i64 16)) (.ret ((W.of .i64 0),(W.of .i64 0),(W.of .i64 0),false))
 (.opt (F_mem_LineOf addr) fun r5=>
 .opt (F_cache_Find c r5) fun r6=>
 .ret (r6.1,r6.2.1,(W.conv (.i64) (W.rem addr (W.of .u32 16))),r6.2.2)))
def F_cache_place (c:TCache) (addr:W .u32) (size:W .i64):Option (W .i64×W .i64×W .i64×Bool):=(T_cache_place c addr size).eval
def T_cache_Read (c:TCache) (addr:W .u32) (size:W .i64):Tree (W .u32×Bool):=
 .opt (F_cache_place c addr size) fun r1=>
 .ite (!r1.2.2.2) (.ret ((W.of .u32 0),false))
 (.opt (Sl.get? c.Sets r1.1) fun y2=>
 .opt (Sl.get? y2 r1.2.1) fun y3=>
 .opt (nat? r1.2.2.1) fun n4=>
 .opt (nat? (W.add r1.2.2.1 size)) fun n5=>
 .opt (Sl.sub? (Arr.sl 1 y3.Data rfl) n4 n5) fun l6=>
 .opt (F_bits_Of l6) fun r7=>
 .ret (r7,true))
def F_cache_Read (c:TCache) (addr:W .u32) (size:W .i64):Option (W .u32×Bool):=(T_cache_Read c addr size).eval
def T_cache_Touch (c:TCache) (set_1 way:W .i64):Tree (TCache):=
 .ite (W.lt set_1 (W.of .i64 0)) (.ret c)
 (.ite (W.ge set_1 (Sl.len c.Sets)) (.ret c)
 (.ite (W.lt way (W.of .i64 0)) (.ret c)
 (.opt (Sl.get? c.Sets set_1) fun y1=>
 .ite (W.ge way (Sl.len y1)) (.ret c)
 (.fail))))
def F_cache_Touch (c:TCache) (set_1 way:W .i64):Option (TCache):=(T_cache_Touch c set_1 way).eval
def F_slices_Clone_Cache (s:Sl 24 (TCache)):Option (Sl 24 (TCache)):=some s
def T_coh_with (m:TCoh) (who:W .i64) (c:TCache):Tree (TCoh):=
 .opt (F_slices_Clone_Cache m.Caches) fun r1=>
 .opt (idx? (List.length r1.l) who) fun j2=>
 .ret ({ m with Caches:=(Sl.set r1 j2 c) }:TCoh)
def F_coh_with (m:TCoh) (who:W .i64) (c:TCache):Option (TCoh):=(T_coh_with m who c).eval
def T_coh_touched (m:TCoh) (who:W .i64) (line:W .u32):Tree (TCoh):=
 .opt (Sl.get? m.Caches who) fun y1=>
 .opt (F_cache_Find y1 line) fun r2=>
 .ite (!r2.2.2) (.ret m)
 (.opt (F_cache_Touch y1 r2.1 r2.2.1) fun r3=>
 .opt (F_coh_with m who r3) fun r4=>
 .ret r4)
def F_coh_touched (m:TCoh) (who:W .i64) (line:W .u32):Option (TCoh):=(T_coh_touched m who line).eval
def T_coh_Read (m:TCoh) (who:W .i64) (addr:W .u32) (size:W .i64):Tree (W .u32×TCoh×Bool):=
 .opt (F_coh_reached m who addr size) fun r1=>
 .ite (!r1) (.ret ((W.of .u32 0),m,false))
 (.opt (F_mem_LineOf addr) fun r2=>
 .opt (F_coh_got m who r2 (W.of .i64 1)) fun r3=>
 .opt (Sl.get? r3.1.Caches who) fun y4=>
 .opt (F_cache_Read y4 addr size) fun r5=>
 .opt (F_coh_touched r3.1 who r2) fun r6=>
 .ret (r5.1,r6,r3.2))
def F_coh_Read (m:TCoh) (who:W .i64) (addr:W .u32) (size:W .i64):Option (W .u32×TCoh×Bool):=(T_coh_Read m who addr size).eval
def T_cache_Write (c:TCache) (addr:W .u32) (size:W .i64) (v:W .u32):Tree (TCache×Bool):=
 .opt (F_cache_place c addr size) fun r1=>
 .ite (!r1.2.2.2) (.ret ((TCache.mk (Sl.nil:Sl 24 (Sl 40 (TWay)))),false))
 (.opt (Sl.get? c.Sets r1.1) fun y2=>
 .opt (Sl.get? y2 r1.2.1) fun y3=>
 .ite (W.ne y3.State (W.of .i64 2)) (.opt (Sl.get? c.Sets r1.1) fun y4=>
 .opt (Sl.get? y4 r1.2.1) fun y5=>
 .ite (W.ne y5.State (W.of .i64 3)) (.ret ((TCache.mk (Sl.nil:Sl 24 (Sl 40 (TWay)))),false))
 (.fail))
 (.fail))
def F_cache_Write (c:TCache) (addr:W .u32) (size:W .i64) (v:W .u32):Option (TCache×Bool):=(T_cache_Write c addr size v).eval
def T_coh_Write (m:TCoh) (who:W .i64) (addr:W .u32) (size:W .i64) (v:W .u32):Tree (TCoh×Bool):=
 .opt (F_coh_reached m who addr size) fun r1=>
 .ite (!r1) (.ret (m,false))
 (.opt (F_mem_LineOf addr) fun r2=>
 .opt (F_coh_got m who r2 (W.of .i64 2)) fun r3=>
 .opt (Sl.get? r3.1.Caches who) fun y4=>
 .opt (F_cache_Write y4 addr size v) fun r5=>
 .ite r5.2 (.opt (F_coh_with r3.1 who r5.1) fun r6=>
 .opt (F_coh_touched r6 who r2) fun r7=>
 .ret (r7,r3.2))
 (.opt (F_coh_touched r3.1 who r2) fun r8=>
 .ret (r8,r3.2)))
def F_coh_Write (m:TCoh) (who:W .i64) (addr:W .u32) (size:W .i64) (v:W .u32):Option (TCoh×Bool):=(T_coh_Write m who addr size v).eval
def T_retire_serial_atomic (s:TSerial):Tree (TSerial):=
 .opt (F_retire_serial_place s) fun r1=>
 .opt (F_coh_Read r1.2.2.m r1.2.2.who r1.1 (W.of .i64 4)) fun r2=>
 .opt (F_retire_reg r1.2.2.ahead r1.2.2.i.Rb) fun r3=>
 .ite (W.eq r1.2.2.i.Op (W.of .i64 52)) (.opt (F_coh_Write r2.2.1 r1.2.2.who r1.1 (W.of .i64 4) (W.add r3 r2.1)) fun r4=>
 .ret ({ r1.2.2 with m:=r4.1,v:=({ r1.2.2.v with Size:=(W.of .i64 4),Addr:=r1.1,Data:=(W.add r3 r2.1) }:TEvent),val:=r2.1,write:=true }:TSerial))
 (.ite (W.eq r1.2.2.i.Op (W.of .i64 53)) (.opt (F_retire_reg r1.2.2.ahead r1.2.2.i.Rd) fun r5=>
 .ite (W.eq r2.1 r5) (.opt (F_coh_Write r2.2.1 r1.2.2.who r1.1 (W.of .i64 4) r3) fun r6=>
 .ret ({ r1.2.2 with m:=r6.1,v:=({ r1.2.2.v with Size:=(W.of .i64 4),Addr:=r1.1,Data:=r3 }:TEvent),val:=r2.1,write:=true }:TSerial))
 (.ret ({ r1.2.2 with m:=r2.2.1,val:=r2.1,write:=true }:TSerial)))
 (.opt (F_coh_Write r2.2.1 r1.2.2.who r1.1 (W.of .i64 4) r3) fun r7=>
 .ret ({ r1.2.2 with m:=r7.1,v:=({ r1.2.2.v with Size:=(W.of .i64 4),Addr:=r1.1,Data:=r3 }:TEvent),val:=r2.1,write:=true }:TSerial)))
def F_retire_serial_atomic (s:TSerial):Option (TSerial):=(T_retire_serial_atomic s).eval
def T_tlb_Flush (l_0:Sl 24 (TTlb)):Tree (Sl 24 (TTlb)):=
 .opt (Sl.make? 24 (TTlb.mk false (W.of .u32 0) (TPte.mk (W.of .u32 0) (W.of .i64 0))) (Sl.len l_0) (Sl.len l_0)) fun l1=>
 .ret l1
def F_tlb_Flush (l_0:Sl 24 (TTlb)):Option (Sl 24 (TTlb)):=(T_tlb_Flush l_0).eval
def T_retire_serial_forget (s:TSerial):Tree (TSerial):=
 .opt (F_tlb_Flush s.c.Tlb) fun r1=>
 .ret ({ s with c:=({ s.c with Tlb:=r1,TlbNext:=(W.of .i64 0) }:TCore) }:TSerial)
def F_retire_serial_forget (s:TSerial):Option (TSerial):=(T_retire_serial_forget s).eval
def F_slices_Clone_byte (s:Sl 1 (W .u8)):Option (Sl 1 (W .u8)):=some s
def T_coh_lies (m:Sl 1 (W .u8)) (line:W .u32):Tree (Bool):=
 .ret (W.le (W.add (W.mul (W.conv (.u64) line) (W.of .u64 16)) (W.of .u64 16)) (W.conv (.u64) (Sl.len m)))
def F_coh_lies (m:Sl 1 (W .u8)) (line:W .u32):Option (Bool):=(T_coh_lies m line).eval
def T_coh_View_1 (w:TWay) (a:Sl 1 (W .u8)):Tree (Bool×Sl 1 (W .u8)):=
 .ite (W.eq w.State (W.of .i64 3)) (.opt (F_coh_lies a w.Tag) fun r1=>
 .ite r1 (.opt (nat? (W.mul (W.conv (.i64) w.Tag) (W.of .i64 16))) fun n2=>
 .opt (vw? (List.length a.l) (some n2) (none)) fun j3=>
 .ret (true,(Sl.copy a n2 (Sl.cut (Arr.sl 1 w.Data rfl) 0 16))))
 (.ret (true,a)))
 (.ret (true,a))
def F_coh_View_1 (w:TWay) (a:Sl 1 (W .u8)):Option (Bool×Sl 1 (W .u8)):=(T_coh_View_1 w a).eval
def B_coh_each_27 (see:Sl 1 (W .u8)) (t_12:Sl 24 (TCache)) (t_13 t_14:W .i64) (t_19:Sl 24 (Sl 40 (TWay))) (t_20 t_21:W .i64) (t_25:Sl 40 (TWay)) (t_26 t_27:W .i64):Tree (Rnd (Sl 1 (W .u8)×Sl 24 (TCache)×W .i64×W .i64×Sl 24 (Sl 40 (TWay))×W .i64×W .i64×Sl 40 (TWay)×W .i64×W .i64×Unit) ((Sl 1 (W .u8)×Bool×Sl 24 (TCache)×W .i64×W .i64×Sl 24 (Sl 40 (TWay))×W .i64×W .i64×Unit)⊕(Sl 1 (W .u8)×Unit×Sl 24 (TCache)×W .i64×W .i64×Sl 24 (Sl 40 (TWay))×W .i64×W .i64×Unit))):=
 .ite (W.lt t_27 t_26) (.opt (Sl.get? t_25 t_27) fun y3=>
 .opt (F_coh_View_1 y3 see) fun r4=>
 .ite (!r4.1) (.ret (.out (.inl (r4.2,false,t_12,t_13,t_14,t_19,t_20,t_21,()))))
 (.ret (.next (r4.2,t_12,t_13,t_14,t_19,t_20,t_21,t_25,t_26,(W.add t_27 (W.of .i64 1)),()))))
 (.ret (.out (.inr (see,(),t_12,t_13,t_14,t_19,t_20,t_21,()))))
def L_coh_each_27 (a:Sl 1 (W .u8)×Sl 24 (TCache)×W .i64×W .i64×Sl 24 (Sl 40 (TWay))×W .i64×W .i64×Sl 40 (TWay)×W .i64×W .i64×Unit):Option ((Sl 1 (W .u8)×Bool×Sl 24 (TCache)×W .i64×W .i64×Sl 24 (Sl 40 (TWay))×W .i64×W .i64×Unit)⊕(Sl 1 (W .u8)×Unit×Sl 24 (TCache)×W .i64×W .i64×Sl 24 (Sl 40 (TWay))×W .i64×W .i64×Unit)):=iter (fun a:Sl 1 (W .u8)×Sl 24 (TCache)×W .i64×W .i64×Sl 24 (Sl 40 (TWay))×W .i64×W .i64×Sl 40 (TWay)×W .i64×W .i64×Unit=>(B_coh_each_27 a.1 a.2.1 a.2.2.1 a.2.2.2.1 a.2.2.2.2.1 a.2.2.2.2.2.1 a.2.2.2.2.2.2.1 a.2.2.2.2.2.2.2.1 a.2.2.2.2.2.2.2.2.1 a.2.2.2.2.2.2.2.2.2.1).eval) fuel a
def B_coh_each_16 (see:Sl 1 (W .u8)) (t_12:Sl 24 (TCache)) (t_13 t_14:W .i64) (t_19:Sl 24 (Sl 40 (TWay))) (t_20 t_21:W .i64):Tree (Rnd (Sl 1 (W .u8)×Sl 24 (TCache)×W .i64×W .i64×Sl 24 (Sl 40 (TWay))×W .i64×W .i64×Unit) ((Sl 1 (W .u8)×Bool×Sl 24 (TCache)×W .i64×W .i64×Unit)⊕(Sl 1 (W .u8)×Unit×Sl 24 (TCache)×W .i64×W .i64×Unit))):=
 .ite (W.lt t_21 t_20) (.opt (Sl.get? t_19 t_21) fun y2=>
 .opt (L_coh_each_27 ((see,t_12,t_13,t_14,t_19,t_20,t_21,y2,(Sl.len y2),(W.of .i64 0),()))) fun o5=>
 .sum o5 (fun p6=>
 .ret (.out (.inl (p6.1,p6.2.1,p6.2.2.1,p6.2.2.2.1,p6.2.2.2.2.1,()))))
 (fun o7=>
 .ret (.next (o7.1,o7.2.2.1,o7.2.2.2.1,o7.2.2.2.2.1,o7.2.2.2.2.2.1,o7.2.2.2.2.2.2.1,(W.add o7.2.2.2.2.2.2.2.1 (W.of .i64 1)),()))))
 (.ret (.out (.inr (see,(),t_12,t_13,t_14,()))))
def L_coh_each_16 (a:Sl 1 (W .u8)×Sl 24 (TCache)×W .i64×W .i64×Sl 24 (Sl 40 (TWay))×W .i64×W .i64×Unit):Option ((Sl 1 (W .u8)×Bool×Sl 24 (TCache)×W .i64×W .i64×Unit)⊕(Sl 1 (W .u8)×Unit×Sl 24 (TCache)×W .i64×W .i64×Unit)):=iter (fun a:Sl 1 (W .u8)×Sl 24 (TCache)×W .i64×W .i64×Sl 24 (Sl 40 (TWay))×W .i64×W .i64×Unit=>(B_coh_each_16 a.1 a.2.1 a.2.2.1 a.2.2.2.1 a.2.2.2.2.1 a.2.2.2.2.2.1 a.2.2.2.2.2.2.1).eval) fuel a
def B_coh_each_5 (see:Sl 1 (W .u8)) (t_12:Sl 24 (TCache)) (t_13 t_14:W .i64):Tree (Rnd (Sl 1 (W .u8)×Sl 24 (TCache)×W .i64×W .i64×Unit) ((Sl 1 (W .u8)×Bool×Unit)⊕(Sl 1 (W .u8)×Unit×Unit))):=
 .ite (W.lt t_14 t_13) (.opt (Sl.get? t_12 t_14) fun y1=>
 .opt (L_coh_each_16 ((see,t_12,t_13,t_14,y1.Sets,(Sl.len y1.Sets),(W.of .i64 0),()))) fun o8=>
 .sum o8 (fun p9=>
 .ret (.out (.inl (p9.1,p9.2.1,()))))
 (fun o10=>
 .ret (.next (o10.1,o10.2.2.1,o10.2.2.2.1,(W.add o10.2.2.2.2.1 (W.of .i64 1)),()))))
 (.ret (.out (.inr (see,(),()))))
def L_coh_each_5 (a:Sl 1 (W .u8)×Sl 24 (TCache)×W .i64×W .i64×Unit):Option ((Sl 1 (W .u8)×Bool×Unit)⊕(Sl 1 (W .u8)×Unit×Unit)):=iter (fun a:Sl 1 (W .u8)×Sl 24 (TCache)×W .i64×W .i64×Unit=>(B_coh_each_5 a.1 a.2.1 a.2.2.1 a.2.2.2.1).eval) fuel a
def T_coh_each (m:TCoh) (see:Sl 1 (W .u8)):Tree (Bool×Sl 1 (W .u8)):=
 .opt (L_coh_each_5 ((see,m.Caches,(Sl.len m.Caches),(W.of .i64 0),()))) fun o11=>
 .sum o11 (fun p12=>
 .ret (p12.2.1,p12.1))
 (fun o13=>
 .ret (true,o13.1))
def F_coh_each (m:TCoh) (see:Sl 1 (W .u8)):Option (Bool×Sl 1 (W .u8)):=(T_coh_each m see).eval
def T_coh_View (m:TCoh):Tree (Sl 1 (W .u8)):=
 .opt (F_slices_Clone_byte m.Mem) fun r1=>
 .opt (F_coh_each m r1) fun r2=>
 .ret r2.2
def F_coh_View (m:TCoh):Option (Sl 1 (W .u8)):=(T_coh_View m).eval
def T_retire_serial_do (s:TSerial):Tree (TSerial):=
 .opt (F_retire_reg s.ahead s.i.Ra) fun r1=>
 .ite (W.eq s.i.Op (W.of .i64 51)) (.opt (F_retire_serial_atomic ({ s with c:=({ s.c with A:=({ s.c.A with PC:=(W.add s.c.A.PC (W.of .u32 4)) }:TArch) }:TCore) }:TSerial)) fun r2=>
 .ret r2)
 (.ite (W.eq s.i.Op (W.of .i64 52)) (.opt (F_retire_serial_atomic ({ s with c:=({ s.c with A:=({ s.c.A with PC:=(W.add s.c.A.PC (W.of .u32 4)) }:TArch) }:TCore) }:TSerial)) fun r3=>
 .ret r3)
 (.ite (W.eq s.i.Op (W.of .i64 53)) (.opt (F_retire_serial_atomic ({ s with c:=({ s.c with A:=({ s.c.A with PC:=(W.add s.c.A.PC (W.of .u32 4)) }:TArch) }:TCore) }:TSerial)) fun r4=>
 .ret r4)
 (.ite (W.eq s.i.Op (W.of .i64 55)) (.opt (F_trap_Return s.ahead) fun r5=>
 .ret ({ s with c:=({ s.c with A:=r5.1 }:TCore) }:TSerial))
 (.ite (W.eq s.i.Op (W.of .i64 56)) (.opt (F_csr_Read s.ahead s.i.Imm) fun r6=>
 .ret ({ s with c:=({ s.c with A:=({ s.c.A with PC:=(W.add s.c.A.PC (W.of .u32 4)) }:TArch) }:TCore),val:=r6.1,write:=true }:TSerial))
 (.ite (W.eq s.i.Op (W.of .i64 57)) (.opt (F_csr_Write ({ s.c.A with PC:=(W.add s.c.A.PC (W.of .u32 4)) }:TArch) s.i.Imm r1) fun r7=>
 .opt (F_retire_serial_forget ({ s with c:=({ s.c with A:=r7.1 }:TCore) }:TSerial)) fun r8=>
 .ret r8)
 (.ite (W.eq s.i.Op (W.of .i64 59)) (.opt (F_coh_View s.m) fun r9=>
 .opt (F_retire_serial_forget ({ s with c:=({ s.c with A:=({ s.c.A with PC:=(W.add s.c.A.PC (W.of .u32 4)) }:TArch),Shadow:=r9 }:TCore) }:TSerial)) fun r10=>
 .ret r10)
 (.ite (W.eq s.i.Op (W.of .i64 60)) (.opt (F_slices_Clone_uint32 s.c.Out) fun r11=>
 .opt (Sl.app? r11 (Sl.lit 4 [r1] rfl:Sl 4 (W .u32))) fun l12=>
 .ret ({ s with c:=({ s.c with A:=({ s.c.A with PC:=(W.add s.c.A.PC (W.of .u32 4)) }:TArch),Out:=l12 }:TCore),v:=({ s.v with Data:=r1 }:TEvent) }:TSerial))
 (.ite (W.eq s.i.Op (W.of .i64 62)) (.ret ({ s with c:=({ s.c with A:=({ s.c.A with PC:=(W.add s.c.A.PC (W.of .u32 4)) }:TArch) }:TCore),v:=({ s.v with Data:=r1 }:TEvent) }:TSerial))
 (.ite (W.eq s.i.Op (W.of .i64 61)) (.ret ({ s with c:=({ s.c with A:=({ s.c.A with PC:=(W.add s.c.A.PC (W.of .u32 4)),Halt:=true }:TArch) }:TCore) }:TSerial))
 (.ret ({ s with c:=({ s.c with A:=({ s.c.A with PC:=(W.add s.c.A.PC (W.of .u32 4)) }:TArch) }:TCore) }:TSerial)))))))))))
def F_retire_serial_do (s:TSerial):Option (TSerial):=(T_retire_serial_do s).eval
def T_csr_Count (a:TArch):Tree (TArch):=
 .ite (W.ne (Arr.get (Arr.set a.C 7 (W.add (Arr.get a.C 7) (W.of .u32 1))) 8) (W.of .u32 0)) (.ite (W.ge (Arr.get (Arr.set a.C 7 (W.add (Arr.get a.C 7) (W.of .u32 1))) 7) (Arr.get (Arr.set a.C 7 (W.add (Arr.get a.C 7) (W.of .u32 1))) 8)) (.ret ({ a with C:=(Arr.set (Arr.set a.C 7 (W.add (Arr.get a.C 7) (W.of .u32 1))) 10 (W.or (Arr.get (Arr.set a.C 7 (W.add (Arr.get a.C 7) (W.of .u32 1))) 10) (W.of .u32 4))) }:TArch))
 (.ret ({ a with C:=(Arr.set a.C 7 (W.add (Arr.get a.C 7) (W.of .u32 1))) }:TArch)))
 (.ret ({ a with C:=(Arr.set a.C 7 (W.add (Arr.get a.C 7) (W.of .u32 1))) }:TArch))
def F_csr_Count (a:TArch):Option (TArch):=(T_csr_Count a).eval
def T_trap_Single (a:TArch):Tree (Bool):=
 .opt (F_csr_Kernel a) fun r1=>
 .ite (!r1) (.ret (W.ne (W.and (Arr.get a.C 0) (W.of .u32 32)) (W.of .u32 0)))
 (.ret false)
def F_trap_Single (a:TArch):Option (Bool):=(T_trap_Single a).eval
def T_freel_Give (f:TFree) (p:W .i64):Tree (TFree):=
 .opt (F_freel_ring_sound f) fun r1=>
 .ite (!r1) (.ret f)
 (.ite (W.eq f.N (Sl.len f.Ring)) (.ret f)
 (.opt (F_freel_ring_at f f.N) fun r2=>
 .opt (F_freel_laid f r2 p) fun r3=>
 .ret r3))
def F_freel_Give (f:TFree) (p:W .i64):Option (TFree):=(T_freel_Give f p).eval
def T_rename_Retire (s:TNames) (r:TRen):Tree (TNames):=
 .opt (F_rename_writes r.Uop) fun r1=>
 .ite r1 (.ite (W.ge r.Out (W.of .i64 0)) (.opt (F_rat_Set s.Done r.Uop.Dst r.Out) fun r2=>
 .ite (W.ge r.Old (W.of .i64 0)) (.opt (F_freel_Give s.Free r.Old) fun r3=>
 .ret ({ s with Done:=r2,Free:=r3 }:TNames))
 (.ret ({ s with Done:=r2 }:TNames)))
 (.ret s))
 (.ret s)
def F_rename_Retire (s:TNames) (r:TRen):Option (TNames):=(T_rename_Retire s r).eval
def F_slices_Clone_Rob (s:Sl 248 (TRob)):Option (Sl 248 (TRob)):=some s
def T_rob_Pop (l_0:Sl 248 (TRob)):Tree (Sl 248 (TRob)×TRob×Bool):=
 .ite (W.eq (Sl.len l_0) (W.of .i64 0)) (.ret ((Sl.nil:Sl 248 (TRob)),(TRob.mk (TRen.mk (TUop.mk (TInst.mk (W.of .i64 0) (W.of .i64 0) (W.of .i64 0) (W.of .i64 0) (W.of .i64 0)) (TSlot.mk (W.of .u32 0) (W.of .u32 0) (W.of .i64 0) (W.of .u32 0) (TGuess.mk false (W.of .u32 0) (TSave.mk (W.of .u32 0) (W.of .i64 0) (W.of .u32 0)))) (W.of .i64 0) (W.of .i64 0) false (Arr.rep 3 (W.of .i64 0):Arr 3 (W .i64)) (W.of .i64 0) (W.of .i64 0) (W.of .u32 0)) (W.of .u64 0) (Arr.rep 3 (W.of .i64 0):Arr 3 (W .i64)) (W.of .i64 0) (W.of .i64 0)) false (W.of .u32 0) (W.of .u32 0) (W.of .i64 0) (W.of .u32 0) false),false))
 (.opt (Sl.sub? l_0 1 (List.length l_0.l)) fun l1=>
 .opt (F_slices_Clone_Rob l1) fun r2=>
 .opt (Sl.get? l_0 (W.of .i64 0)) fun y3=>
 .ret (r2,y3,true))
def F_rob_Pop (l_0:Sl 248 (TRob)):Option (Sl 248 (TRob)×TRob×Bool):=(T_rob_Pop l_0).eval
def T_retire_serial_ends (s:TSerial) (e:TRob):Tree (TSerial):=
 .ite s.write (.opt (F_retire_is s.i.Rd) fun r1=>
 .ite r1 (.opt (idx? 16 s.i.Rd) fun j2=>
 .opt (F_prf_Put s.c.Phys e.Ren.Out s.val) fun r3=>
 .opt (F_csr_Count ({ s.c.A with R:=(Arr.set s.c.A.R j2 s.val) }:TArch)) fun r4=>
 .opt (F_trap_Single s.ahead) fun r5=>
 .ite r5 (.ite (!r4.Halt) (.opt (F_trap_Take r4 (W.of .i64 10) (W.of .u32 0) r4.PC) fun r6=>
 .opt (F_rename_Retire s.c.Names e.Ren) fun r7=>
 .opt (F_rob_Pop s.c.Rob) fun r8=>
 .ite r8.2.2 (.ret ({ s with c:=({ s.c with A:=r6,Phys:=r3,Names:=r7,Rob:=r8.1 }:TCore),v:=({ s.v with Rd:=s.i.Rd,Val:=s.val,Cause:=(W.of .i64 10),Next:=r6.PC }:TEvent) }:TSerial))
 (.ret ({ s with c:=({ s.c with A:=r6,Phys:=r3,Names:=r7 }:TCore),v:=({ s.v with Rd:=s.i.Rd,Val:=s.val,Cause:=(W.of .i64 10),Next:=r6.PC }:TEvent) }:TSerial)))
 (.opt (F_rename_Retire s.c.Names e.Ren) fun r9=>
 .opt (F_rob_Pop s.c.Rob) fun r10=>
 .ite r10.2.2 (.ret ({ s with c:=({ s.c with A:=r4,Phys:=r3,Names:=r9,Rob:=r10.1 }:TCore),v:=({ s.v with Rd:=s.i.Rd,Val:=s.val,Next:=r4.PC }:TEvent) }:TSerial))
 (.ret ({ s with c:=({ s.c with A:=r4,Phys:=r3,Names:=r9 }:TCore),v:=({ s.v with Rd:=s.i.Rd,Val:=s.val,Next:=r4.PC }:TEvent) }:TSerial))))
 (.opt (F_rename_Retire s.c.Names e.Ren) fun r11=>
 .opt (F_rob_Pop s.c.Rob) fun r12=>
 .ite r12.2.2 (.ret ({ s with c:=({ s.c with A:=r4,Phys:=r3,Names:=r11,Rob:=r12.1 }:TCore),v:=({ s.v with Rd:=s.i.Rd,Val:=s.val,Next:=r4.PC }:TEvent) }:TSerial))
 (.ret ({ s with c:=({ s.c with A:=r4,Phys:=r3,Names:=r11 }:TCore),v:=({ s.v with Rd:=s.i.Rd,Val:=s.val,Next:=r4.PC }:TEvent) }:TSerial))))
 (.opt (F_csr_Count s.c.A) fun r13=>
 .opt (F_trap_Single s.ahead) fun r14=>
 .ite r14 (.ite (!r13.Halt) (.opt (F_trap_Take r13 (W.of .i64 10) (W.of .u32 0) r13.PC) fun r15=>
 .opt (F_rename_Retire s.c.Names e.Ren) fun r16=>
 .opt (F_rob_Pop s.c.Rob) fun r17=>
 .ite r17.2.2 (.ret ({ s with c:=({ s.c with A:=r15,Names:=r16,Rob:=r17.1 }:TCore),v:=({ s.v with Cause:=(W.of .i64 10),Next:=r15.PC }:TEvent) }:TSerial))
 (.ret ({ s with c:=({ s.c with A:=r15,Names:=r16 }:TCore),v:=({ s.v with Cause:=(W.of .i64 10),Next:=r15.PC }:TEvent) }:TSerial)))
 (.opt (F_rename_Retire s.c.Names e.Ren) fun r18=>
 .opt (F_rob_Pop s.c.Rob) fun r19=>
 .ite r19.2.2 (.ret ({ s with c:=({ s.c with A:=r13,Names:=r18,Rob:=r19.1 }:TCore),v:=({ s.v with Next:=r13.PC }:TEvent) }:TSerial))
 (.ret ({ s with c:=({ s.c with A:=r13,Names:=r18 }:TCore),v:=({ s.v with Next:=r13.PC }:TEvent) }:TSerial))))
 (.opt (F_rename_Retire s.c.Names e.Ren) fun r20=>
 .opt (F_rob_Pop s.c.Rob) fun r21=>
 .ite r21.2.2 (.ret ({ s with c:=({ s.c with A:=r13,Names:=r20,Rob:=r21.1 }:TCore),v:=({ s.v with Next:=r13.PC }:TEvent) }:TSerial))
 (.ret ({ s with c:=({ s.c with A:=r13,Names:=r20 }:TCore),v:=({ s.v with Next:=r13.PC }:TEvent) }:TSerial)))))
 (.opt (F_csr_Count s.c.A) fun r22=>
 .opt (F_trap_Single s.ahead) fun r23=>
 .ite r23 (.ite (!r22.Halt) (.opt (F_trap_Take r22 (W.of .i64 10) (W.of .u32 0) r22.PC) fun r24=>
 .opt (F_rename_Retire s.c.Names e.Ren) fun r25=>
 .opt (F_rob_Pop s.c.Rob) fun r26=>
 .ite r26.2.2 (.ret ({ s with c:=({ s.c with A:=r24,Names:=r25,Rob:=r26.1 }:TCore),v:=({ s.v with Cause:=(W.of .i64 10),Next:=r24.PC }:TEvent) }:TSerial))
 (.ret ({ s with c:=({ s.c with A:=r24,Names:=r25 }:TCore),v:=({ s.v with Cause:=(W.of .i64 10),Next:=r24.PC }:TEvent) }:TSerial)))
 (.opt (F_rename_Retire s.c.Names e.Ren) fun r27=>
 .opt (F_rob_Pop s.c.Rob) fun r28=>
 .ite r28.2.2 (.ret ({ s with c:=({ s.c with A:=r22,Names:=r27,Rob:=r28.1 }:TCore),v:=({ s.v with Next:=r22.PC }:TEvent) }:TSerial))
 (.ret ({ s with c:=({ s.c with A:=r22,Names:=r27 }:TCore),v:=({ s.v with Next:=r22.PC }:TEvent) }:TSerial))))
 (.opt (F_rename_Retire s.c.Names e.Ren) fun r29=>
 .opt (F_rob_Pop s.c.Rob) fun r30=>
 .ite r30.2.2 (.ret ({ s with c:=({ s.c with A:=r22,Names:=r29,Rob:=r30.1 }:TCore),v:=({ s.v with Next:=r22.PC }:TEvent) }:TSerial))
 (.ret ({ s with c:=({ s.c with A:=r22,Names:=r29 }:TCore),v:=({ s.v with Next:=r22.PC }:TEvent) }:TSerial))))
def F_retire_serial_ends (s:TSerial) (e:TRob):Option (TSerial):=(T_retire_serial_ends s e).eval
def T_retire_Serial (c:TCore) (m:TCoh) (who:W .i64) (e:TRob):Tree (TCore×TCoh×TEvent×Bool):=
 .opt (F_crack_Serial e.Ren.Uop.Inst.Op) fun r1=>
 .ite (!r1) (.ret (c,m,(TEvent.mk (W.of .u32 0) (W.of .u32 0) (W.of .i64 0) (W.of .u32 0) (W.of .i64 0) (W.of .u32 0) (W.of .i64 0) (W.of .u32 0) (W.of .u32 0) (W.of .i64 0) (W.of .u32 0) (W.of .u32 0)),false))
 (.ite (W.gt (Sl.len c.Sb) (W.of .i64 0)) (.ret (c,m,(TEvent.mk (W.of .u32 0) (W.of .u32 0) (W.of .i64 0) (W.of .u32 0) (W.of .i64 0) (W.of .u32 0) (W.of .i64 0) (W.of .u32 0) (W.of .u32 0) (W.of .i64 0) (W.of .u32 0) (W.of .u32 0)),false))
 (.opt (F_retire_serial_fault (TSerial.mk c m who e.Ren.Uop.Inst e.Ren.Uop.Slot.Word c.A (TEvent.mk (W.of .u32 0) (W.of .u32 0) (W.of .i64 0) (W.of .u32 0) (W.of .i64 0) (W.of .u32 0) (W.of .i64 0) (W.of .u32 0) (W.of .u32 0) (W.of .i64 0) (W.of .u32 0) (W.of .u32 0)) (W.of .u32 0) false)) fun r2=>
 .ite (W.ne r2.1 (W.of .i64 0)) (.opt (F_trap_Take c.A r2.1 r2.2.1 c.A.PC) fun r3=>
 .opt (F_retire_trapped r2.2.2.ahead r3 r2.1 r2.2.1) fun r4=>
 .ret (({ c with A:=r3 }:TCore),m,({ r4 with Word:=r2.2.2.word }:TEvent),true))
 (.opt (F_retire_serial_do ({ r2.2.2 with v:=(TEvent.mk r2.2.2.ahead.PC r2.2.2.word (W.of .i64 (-1)) (W.of .u32 0) (W.of .i64 (-1)) (W.of .u32 0) (W.of .i64 0) (W.of .u32 0) (W.of .u32 0) (W.of .i64 0) (W.of .u32 0) (W.of .u32 0)) }:TSerial)) fun r5=>
 .opt (F_retire_serial_ends r5 e) fun r6=>
 .ret (r6.c,r6.m,r6.v,true))))
def F_retire_Serial (c:TCore) (m:TCoh) (who:W .i64) (e:TRob):Option (TCore×TCoh×TEvent×Bool):=(T_retire_Serial c m who e).eval
def T_retire_stage_note (s:TStage) (e:TRob):Tree (TStage):=
 .opt (Sl.app? s.notes (Sl.lit 32 [(TNote.mk s.c.Cycle (W.of .i64 5) e.Ren.Seq e.Ren.Uop.Slot.PC)] rfl:Sl 32 (TNote))) fun l1=>
 .ret ({ s with notes:=l1 }:TStage)
def F_retire_stage_note (s:TStage) (e:TRob):Option (TStage):=(T_retire_stage_note s e).eval
def T_retire_stage_alone (s:TStage) (e:TRob):Tree (TStage):=
 .ite (W.gt s.retired (W.of .i64 0)) (.ret s)
 (.opt (F_retire_Serial s.c s.m s.who e) fun r1=>
 .ite (!r1.2.2.2) (.ret s)
 (.ite (W.lt (Sl.len r1.1.Rob) (Sl.len s.c.Rob)) (.opt (F_retire_stage_note s e) fun r2=>
 .opt (Sl.app? r2.events (Sl.lit 72 [r1.2.2.1] rfl:Sl 72 (TEvent))) fun l3=>
 .opt (F_retire_stage_flush ({ r2 with c:=r1.1,m:=r1.2.1,events:=l3 }:TStage)) fun r4=>
 .ret r4)
 (.opt (Sl.app? s.events (Sl.lit 72 [r1.2.2.1] rfl:Sl 72 (TEvent))) fun l5=>
 .opt (F_retire_stage_flush ({ s with c:=r1.1,m:=r1.2.1,events:=l5 }:TStage)) fun r6=>
 .ret r6)))
def F_retire_stage_alone (s:TStage) (e:TRob):Option (TStage):=(T_retire_stage_alone s e).eval
def T_sq_Pop (l_0:Sl 32 (TSq)) (seq:W .u64):Tree (Sl 32 (TSq)×TSq×Bool):=
 .ite (W.eq (Sl.len l_0) (W.of .i64 0)) (.ret ((Sl.nil:Sl 32 (TSq)),(TSq.mk (W.of .u64 0) (W.of .u32 0) (W.of .u32 0) (W.of .i64 0) false),false))
 (.opt (Sl.get? l_0 (W.of .i64 0)) fun y1=>
 .ite (W.ne y1.Seq seq) (.ret ((Sl.nil:Sl 32 (TSq)),(TSq.mk (W.of .u64 0) (W.of .u32 0) (W.of .u32 0) (W.of .i64 0) false),false))
 (.opt (Sl.sub? l_0 1 (List.length l_0.l)) fun l2=>
 .opt (F_slices_Clone_Sq l2) fun r3=>
 .opt (Sl.get? l_0 (W.of .i64 0)) fun y4=>
 .ret (r3,y4,true)))
def F_sq_Pop (l_0:Sl 32 (TSq)) (seq:W .u64):Option (Sl 32 (TSq)×TSq×Bool):=(T_sq_Pop l_0 seq).eval
def T_sb_Put (l_0:Sl 16 (TSb)) (s:TSq) (most:W .i64):Tree (Sl 16 (TSb)×Bool):=
 .ite (W.ge (Sl.len l_0) (W.min (W.max most (W.of .i64 0)) (W.of .i64 8))) (.ret (l_0,false))
 (.opt (nat? (Sl.len l_0)) fun n1=>
 .opt (nat? (Sl.len l_0)) fun n2=>
 .opt (Sl.sub3? l_0 0 n1 n2) fun l3=>
 .opt (Sl.app? l3 (Sl.lit 16 [(TSb.mk s.Addr s.Data s.Size)] rfl:Sl 16 (TSb))) fun l4=>
 .ret (l4,true))
def F_sb_Put (l_0:Sl 16 (TSb)) (s:TSq) (most:W .i64):Option (Sl 16 (TSb)×Bool):=(T_sb_Put l_0 s most).eval
def T_lq_Pop (l_0:Sl 48 (TLq)) (seq:W .u64):Tree (Sl 48 (TLq)×TLq×Bool):=
 .ite (W.eq (Sl.len l_0) (W.of .i64 0)) (.ret ((Sl.nil:Sl 48 (TLq)),(TLq.mk (W.of .u64 0) (W.of .u32 0) (W.of .u32 0) (W.of .i64 0) false false (W.of .u64 0) false),false))
 (.opt (Sl.get? l_0 (W.of .i64 0)) fun y1=>
 .ite (W.ne y1.Seq seq) (.ret ((Sl.nil:Sl 48 (TLq)),(TLq.mk (W.of .u64 0) (W.of .u32 0) (W.of .u32 0) (W.of .i64 0) false false (W.of .u64 0) false),false))
 (.opt (Sl.sub? l_0 1 (List.length l_0.l)) fun l2=>
 .opt (F_slices_Clone_Lq l2) fun r3=>
 .opt (Sl.get? l_0 (W.of .i64 0)) fun y4=>
 .ret (r3,y4,true)))
def F_lq_Pop (l_0:Sl 48 (TLq)) (seq:W .u64):Option (Sl 48 (TLq)×TLq×Bool):=(T_lq_Pop l_0 seq).eval
def T_retire_leaves (c:TCore) (e:TRob):Tree (TCore×Bool):=
 .opt (Sl.sub? c.Rob 1 (List.length c.Rob.l)) fun l1=>
 .ite (W.eq e.Ren.Uop.Unit (W.of .i64 6)) (.opt (F_sq_Pop c.Sq e.Ren.Seq) fun r2=>
 .ite (!r2.2.2) (.ret (({ c with Rob:=l1 }:TCore),false))
 (.opt (F_sb_Put c.Sb r2.2.1 c.Conf.Sb) fun r3=>
 .ite (!r3.2) (.ret (({ c with Rob:=l1 }:TCore),false))
 (.opt (F_rename_Retire c.Names e.Ren) fun r4=>
 .ret (({ c with Rob:=l1,Sq:=r2.1,Sb:=r3.1,Names:=r4 }:TCore),true))))
 (.ite (W.eq e.Ren.Uop.Unit (W.of .i64 5)) (.opt (F_lq_Pop c.Lq e.Ren.Seq) fun r5=>
 .ite r5.2.2 (.opt (F_rename_Retire c.Names e.Ren) fun r6=>
 .ret (({ c with Rob:=l1,Lq:=r5.1,Names:=r6 }:TCore),true))
 (.opt (F_rename_Retire c.Names e.Ren) fun r7=>
 .ret (({ c with Rob:=l1,Names:=r7 }:TCore),true)))
 (.opt (F_rename_Retire c.Names e.Ren) fun r8=>
 .ret (({ c with Rob:=l1,Names:=r8 }:TCore),true)))
def F_retire_leaves (c:TCore) (e:TRob):Option (TCore×Bool):=(T_retire_leaves c e).eval
def B_retire_stage_whole_7 (s:TStage) (l_1:Sl 248 (TRob)) (c:TCore) (t_19:Sl 248 (TRob)) (t_20 t_21:W .i64):Tree (Rnd (TStage×Sl 248 (TRob)×TCore×Sl 248 (TRob)×W .i64×W .i64×Unit) ((TStage×Sl 248 (TRob)×Bool×TCore×Unit)⊕(TStage×Sl 248 (TRob)×Unit×TCore×Unit))):=
 .ite (W.lt t_21 t_20) (.opt (Sl.get? t_19 t_21) fun y1=>
 .opt (F_retire_leaves c y1) fun r2=>
 .ite (!r2.2) (.ret (.out (.inl (s,l_1,false,r2.1,()))))
 (.ret (.next (s,l_1,r2.1,t_19,t_20,(W.add t_21 (W.of .i64 1)),()))))
 (.ret (.out (.inr (s,l_1,(),c,()))))
def L_retire_stage_whole_7 (a:TStage×Sl 248 (TRob)×TCore×Sl 248 (TRob)×W .i64×W .i64×Unit):Option ((TStage×Sl 248 (TRob)×Bool×TCore×Unit)⊕(TStage×Sl 248 (TRob)×Unit×TCore×Unit)):=iter (fun a:TStage×Sl 248 (TRob)×TCore×Sl 248 (TRob)×W .i64×W .i64×Unit=>(B_retire_stage_whole_7 a.1 a.2.1 a.2.2.1 a.2.2.2.1 a.2.2.2.2.1 a.2.2.2.2.2.1).eval) fuel a
def B_retire_stage_whole_32 (s:TStage) (l_1:Sl 248 (TRob)) (c:TCore) (v:TEvent) (single:Bool) (t_57:Arr 2 (TS305)) (t_58:W .i64):Tree (Rnd (TStage×Sl 248 (TRob)×TCore×TEvent×Bool×Arr 2 (TS305)×W .i64×Unit) (TStage×Sl 248 (TRob)×TCore×TEvent×Bool×Unit)):=
 .ite (W.lt t_58 (W.of .i64 2)) (.opt (idx? 2 t_58) fun j8=>
 .opt (F_retire_is (Arr.get t_57 j8).r) fun r9=>
 .ite r9 (.opt (idx? 16 (Arr.get t_57 j8).r) fun j10=>
 .ret (.next (s,l_1,({ c with A:=({ c.A with R:=(Arr.set c.A.R j10 (Arr.get t_57 j8).v) }:TArch) }:TCore),v,single,t_57,(W.add t_58 (W.of .i64 1)),())))
 (.ret (.next (s,l_1,c,v,single,t_57,(W.add t_58 (W.of .i64 1)),()))))
 (.ret (.out (s,l_1,c,v,single,())))
def L_retire_stage_whole_32 (a:TStage×Sl 248 (TRob)×TCore×TEvent×Bool×Arr 2 (TS305)×W .i64×Unit):Option (TStage×Sl 248 (TRob)×TCore×TEvent×Bool×Unit):=iter (fun a:TStage×Sl 248 (TRob)×TCore×TEvent×Bool×Arr 2 (TS305)×W .i64×Unit=>(B_retire_stage_whole_32 a.1 a.2.1 a.2.2.1 a.2.2.2.1 a.2.2.2.2.1 a.2.2.2.2.2.1 a.2.2.2.2.2.2.1).eval) fuel a
def B_retire_stage_whole_57 (s:TStage) (c:TCore) (v:TEvent) (single:Bool) (t_91:Sl 248 (TRob)) (t_92 t_93:W .i64):Tree (Rnd (TStage×TCore×TEvent×Bool×Sl 248 (TRob)×W .i64×W .i64×Unit) (TStage×TCore×TEvent×Bool×Unit)):=
 .ite (W.lt t_93 t_92) (.opt (Sl.get? t_91 t_93) fun y13=>
 .opt (F_retire_stage_note s y13) fun r14=>
 .ret (.next (r14,c,v,single,t_91,t_92,(W.add t_93 (W.of .i64 1)),())))
 (.ret (.out (s,c,v,single,())))
def L_retire_stage_whole_57 (a:TStage×TCore×TEvent×Bool×Sl 248 (TRob)×W .i64×W .i64×Unit):Option (TStage×TCore×TEvent×Bool×Unit):=iter (fun a:TStage×TCore×TEvent×Bool×Sl 248 (TRob)×W .i64×W .i64×Unit=>(B_retire_stage_whole_57 a.1 a.2.1 a.2.2.1 a.2.2.2.1 a.2.2.2.2.1 a.2.2.2.2.2.1 a.2.2.2.2.2.2.1).eval) fuel a
def T_retire_stage_whole (s:TStage) (l_1:Sl 248 (TRob)):Tree (Bool×TStage):=
 .opt (L_retire_stage_whole_7 ((s,l_1,s.c,l_1,(Sl.len l_1),(W.of .i64 0),()))) fun o3=>
 .sum o3 (fun p4=>
 .ret (p4.2.2.1,p4.1))
 (fun o5=>
 .opt (F_retire_Event o5.2.1 o5.1.c.A) fun r6=>
 .opt (F_trap_Single o5.1.c.A) fun r7=>
 .opt (L_retire_stage_whole_32 ((o5.1,o5.2.1,o5.2.2.2.1,r6,r7,(Arr.lit 2 [(TS305.mk r6.Rd2 r6.Val2),(TS305.mk r6.Rd r6.Val)] rfl:Arr 2 (TS305)),(W.of .i64 0),()))) fun o11=>
 .opt (F_csr_Count ({ o11.2.2.1.A with PC:=o11.2.2.2.1.Next }:TArch)) fun r12=>
 .opt (L_retire_stage_whole_57 ((({ o11.1 with c:=({ o11.2.2.1 with A:=r12 }:TCore),retired:=(W.add o11.1.retired (W.of .i64 1)) }:TStage),({ o11.2.2.1 with A:=r12 }:TCore),o11.2.2.2.1,o11.2.2.2.2.1,o11.2.1,(Sl.len o11.2.1),(W.of .i64 0),()))) fun o15=>
 .ite (!o15.2.2.2.1) (.opt (Sl.app? o15.1.events (Sl.lit 72 [o15.2.2.1] rfl:Sl 72 (TEvent))) fun l16=>
 .ret (true,({ o15.1 with events:=l16 }:TStage)))
 (.opt (F_trap_Take o15.2.1.A (W.of .i64 10) (W.of .u32 0) o15.2.1.A.PC) fun r17=>
 .opt (F_retire_stage_trap o15.1 (W.of .i64 10) (W.of .u32 0) ({ o15.2.2.1 with Cause:=(W.of .i64 10),Next:=r17.PC }:TEvent)) fun r18=>
 .ret (false,r18)))
def F_retire_stage_whole (s:TStage) (l_1:Sl 248 (TRob)):Option (Bool×TStage):=(T_retire_stage_whole s l_1).eval
def T_retire_stage_boundary (s:TStage):Tree (Bool×TStage):=
 .opt (F_trap_Pending s.c.A) fun r1=>
 .ite s.c.A.Halt (.ret (false,s))
 (.ite (W.ne r1 (W.of .i64 0)) (.opt (F_retire_stage_bare s r1 (W.of .u32 0)) fun r2=>
 .ret (false,r2))
 (.opt (F_trap_Stops s.c.A s.c.A.PC) fun r3=>
 .ite r3 (.opt (F_retire_stage_bare s (W.of .i64 3) s.c.A.PC) fun r4=>
 .ret (false,r4))
 (.opt (F_rob_Ready s.c.Rob) fun r5=>
 .ite (W.lt r5 (W.of .i64 1)) (.ret (false,s))
 (.opt (F_retire_stage_front s) fun r6=>
 .opt (F_slices_IndexFunc_Rob_of_retire_stage_boundary_1 r6.1) fun r7=>
 .opt (F_retire_stage_stale r6.2 r6.1) fun r8=>
 .ite r8.1 (.opt (F_retire_stage_flush r8.2) fun r9=>
 .ret (false,r9))
 (.ite (W.ge r7 (W.of .i64 0)) (.opt (Sl.get? r6.1 r7) fun y10=>
 .opt (Sl.get? r6.1 r7) fun y11=>
 .opt (F_retire_Event r6.1 s.c.A) fun r12=>
 .opt (F_retire_stage_trap r8.2 y10.Cause y11.Tval r12) fun r13=>
 .ret (false,r13))
 (.opt (Sl.get? r6.1 (W.of .i64 0)) fun y14=>
 .ite (W.eq y14.Ren.Uop.Unit (W.of .i64 7)) (.opt (Sl.get? r6.1 (W.of .i64 0)) fun y15=>
 .opt (F_retire_stage_alone r8.2 y15) fun r16=>
 .ret (false,r16))
 (.opt (F_retire_stage_whole r8.2 r6.1) fun r17=>
 .ret (r17.1,r17.2))))))))
def F_retire_stage_boundary (s:TStage):Option (Bool×TStage):=(T_retire_stage_boundary s).eval
def T_bits_Sext (x:W .u32) (n_1:W .i64):Tree (W .u32):=
 .opt (F_bits_clamp n_1 (W.of .i64 0) (W.of .i64 32)) fun r1=>
 .opt (W.shl? x (W.sub (W.of .i64 32) r1)) fun z2=>
 .opt (W.shr? (W.conv (.i32) z2) (W.sub (W.of .i64 32) r1)) fun z3=>
 .ret (W.conv (.u32) z3)
def F_bits_Sext (x:W .u32) (n_1:W .i64):Option (W .u32):=(T_bits_Sext x n_1).eval
def T_inst_number (op:W .i64) (w:W .u32):Tree (W .i64):=
 .ite (W.eq op (W.of .i64 33)) (.opt (F_bits_Zext w (W.of .i64 18)) fun r1=>
 .ret (W.conv (.i64) r1))
 (.opt (F_inst_width op) fun r2=>
 .opt (F_bits_Sext w r2) fun r3=>
 .ret (W.conv (.i64) (W.conv (.i32) r3)))
def F_inst_number (op:W .i64) (w:W .u32):Option (W .i64):=(T_inst_number op w).eval
def T_inst_Dec (w:W .u32):Tree (TInst×W .i64):=
 .opt (F_bits_Field w (W.of .i64 31) (W.of .i64 26)) fun r1=>
 .ite (W.eq (W.conv (.i64) r1) (W.of .i64 0)) (.ret ((TInst.mk (W.of .i64 0) (W.of .i64 0) (W.of .i64 0) (W.of .i64 0) (W.of .i64 0)),(W.of .i64 9)))
 (.opt (F_inst_has (W.conv (.i64) r1) (W.of .i64 1)) fun r2=>
 .ite r2 (.opt (F_bits_Field w (W.of .i64 25) (W.of .i64 22)) fun r3=>
 .opt (F_inst_has (W.conv (.i64) r1) (W.of .i64 2)) fun r4=>
 .ite r4 (.opt (F_bits_Field w (W.of .i64 21) (W.of .i64 18)) fun r5=>
 .opt (F_inst_has (W.conv (.i64) r1) (W.of .i64 4)) fun r6=>
 .ite r6 (.opt (F_bits_Field w (W.of .i64 17) (W.of .i64 14)) fun r7=>
 .opt (F_inst_has (W.conv (.i64) r1) (W.of .i64 8)) fun r8=>
 .ite r8 (.opt (F_inst_number (W.conv (.i64) r1) w) fun r9=>
 .opt (F_inst_Enc (TInst.mk (W.conv (.i64) r1) (W.conv (.i64) r3) (W.conv (.i64) r5) (W.conv (.i64) r7) r9)) fun r10=>
 .ite (W.ne r10.2 (W.of .i64 0)) (.ret ((TInst.mk (W.of .i64 0) (W.of .i64 0) (W.of .i64 0) (W.of .i64 0) (W.of .i64 0)),(W.of .i64 2)))
 (.ite (W.ne r10.1 w) (.ret ((TInst.mk (W.of .i64 0) (W.of .i64 0) (W.of .i64 0) (W.of .i64 0) (W.of .i64 0)),(W.of .i64 2)))
 (.ret ((TInst.mk (W.conv (.i64) r1) (W.conv (.i64) r3) (W.conv (.i64) r5) (W.conv (.i64) r7) r9),(W.of .i64 0)))))
 (.opt (F_inst_Enc (TInst.mk (W.conv (.i64) r1) (W.conv (.i64) r3) (W.conv (.i64) r5) (W.conv (.i64) r7) (W.of .i64 0))) fun r11=>
 .ite (W.ne r11.2 (W.of .i64 0)) (.ret ((TInst.mk (W.of .i64 0) (W.of .i64 0) (W.of .i64 0) (W.of .i64 0) (W.of .i64 0)),(W.of .i64 2)))
 (.ite (W.ne r11.1 w) (.ret ((TInst.mk (W.of .i64 0) (W.of .i64 0) (W.of .i64 0) (W.of .i64 0) (W.of .i64 0)),(W.of .i64 2)))
 (.ret ((TInst.mk (W.conv (.i64) r1) (W.conv (.i64) r3) (W.conv (.i64) r5) (W.conv (.i64) r7) (W.of .i64 0)),(W.of .i64 0))))))
 (.opt (F_inst_has (W.conv (.i64) r1) (W.of .i64 8)) fun r12=>
 .ite r12 (.opt (F_inst_number (W.conv (.i64) r1) w) fun r13=>
 .opt (F_inst_Enc (TInst.mk (W.conv (.i64) r1) (W.conv (.i64) r3) (W.conv (.i64) r5) (W.of .i64 0) r13)) fun r14=>
 .ite (W.ne r14.2 (W.of .i64 0)) (.ret ((TInst.mk (W.of .i64 0) (W.of .i64 0) (W.of .i64 0) (W.of .i64 0) (W.of .i64 0)),(W.of .i64 2)))
 (.ite (W.ne r14.1 w) (.ret ((TInst.mk (W.of .i64 0) (W.of .i64 0) (W.of .i64 0) (W.of .i64 0) (W.of .i64 0)),(W.of .i64 2)))
 (.ret ((TInst.mk (W.conv (.i64) r1) (W.conv (.i64) r3) (W.conv (.i64) r5) (W.of .i64 0) r13),(W.of .i64 0)))))
 (.opt (F_inst_Enc (TInst.mk (W.conv (.i64) r1) (W.conv (.i64) r3) (W.conv (.i64) r5) (W.of .i64 0) (W.of .i64 0))) fun r15=>
 .ite (W.ne r15.2 (W.of .i64 0)) (.ret ((TInst.mk (W.of .i64 0) (W.of .i64 0) (W.of .i64 0) (W.of .i64 0) (W.of .i64 0)),(W.of .i64 2)))
 (.ite (W.ne r15.1 w) (.ret ((TInst.mk (W.of .i64 0) (W.of .i64 0) (W.of .i64 0) (W.of .i64 0) (W.of .i64 0)),(W.of .i64 2)))
 (.ret ((TInst.mk (W.conv (.i64) r1) (W.conv (.i64) r3) (W.conv (.i64) r5) (W.of .i64 0) (W.of .i64 0)),(W.of .i64 0)))))))
 (.opt (F_inst_has (W.conv (.i64) r1) (W.of .i64 4)) fun r16=>
 .ite r16 (.opt (F_bits_Field w (W.of .i64 17) (W.of .i64 14)) fun r17=>
 .opt (F_inst_has (W.conv (.i64) r1) (W.of .i64 8)) fun r18=>
 .ite r18 (.opt (F_inst_number (W.conv (.i64) r1) w) fun r19=>
 .opt (F_inst_Enc (TInst.mk (W.conv (.i64) r1) (W.conv (.i64) r3) (W.of .i64 0) (W.conv (.i64) r17) r19)) fun r20=>
 .ite (W.ne r20.2 (W.of .i64 0)) (.ret ((TInst.mk (W.of .i64 0) (W.of .i64 0) (W.of .i64 0) (W.of .i64 0) (W.of .i64 0)),(W.of .i64 2)))
 (.ite (W.ne r20.1 w) (.ret ((TInst.mk (W.of .i64 0) (W.of .i64 0) (W.of .i64 0) (W.of .i64 0) (W.of .i64 0)),(W.of .i64 2)))
 (.ret ((TInst.mk (W.conv (.i64) r1) (W.conv (.i64) r3) (W.of .i64 0) (W.conv (.i64) r17) r19),(W.of .i64 0)))))
 (.opt (F_inst_Enc (TInst.mk (W.conv (.i64) r1) (W.conv (.i64) r3) (W.of .i64 0) (W.conv (.i64) r17) (W.of .i64 0))) fun r21=>
 .ite (W.ne r21.2 (W.of .i64 0)) (.ret ((TInst.mk (W.of .i64 0) (W.of .i64 0) (W.of .i64 0) (W.of .i64 0) (W.of .i64 0)),(W.of .i64 2)))
 (.ite (W.ne r21.1 w) (.ret ((TInst.mk (W.of .i64 0) (W.of .i64 0) (W.of .i64 0) (W.of .i64 0) (W.of .i64 0)),(W.of .i64 2)))
 (.ret ((TInst.mk (W.conv (.i64) r1) (W.conv (.i64) r3) (W.of .i64 0) (W.conv (.i64) r17) (W.of .i64 0)),(W.of .i64 0))))))
 (.opt (F_inst_has (W.conv (.i64) r1) (W.of .i64 8)) fun r22=>
 .ite r22 (.opt (F_inst_number (W.conv (.i64) r1) w) fun r23=>
 .opt (F_inst_Enc (TInst.mk (W.conv (.i64) r1) (W.conv (.i64) r3) (W.of .i64 0) (W.of .i64 0) r23)) fun r24=>
 .ite (W.ne r24.2 (W.of .i64 0)) (.ret ((TInst.mk (W.of .i64 0) (W.of .i64 0) (W.of .i64 0) (W.of .i64 0) (W.of .i64 0)),(W.of .i64 2)))
 (.ite (W.ne r24.1 w) (.ret ((TInst.mk (W.of .i64 0) (W.of .i64 0) (W.of .i64 0) (W.of .i64 0) (W.of .i64 0)),(W.of .i64 2)))
 (.ret ((TInst.mk (W.conv (.i64) r1) (W.conv (.i64) r3) (W.of .i64 0) (W.of .i64 0) r23),(W.of .i64 0)))))
 (.opt (F_inst_Enc (TInst.mk (W.conv (.i64) r1) (W.conv (.i64) r3) (W.of .i64 0) (W.of .i64 0) (W.of .i64 0))) fun r25=>
 .ite (W.ne r25.2 (W.of .i64 0)) (.ret ((TInst.mk (W.of .i64 0) (W.of .i64 0) (W.of .i64 0) (W.of .i64 0) (W.of .i64 0)),(W.of .i64 2)))
 (.ite (W.ne r25.1 w) (.ret ((TInst.mk (W.of .i64 0) (W.of .i64 0) (W.of .i64 0) (W.of .i64 0) (W.of .i64 0)),(W.of .i64 2)))
 (.ret ((TInst.mk (W.conv (.i64) r1) (W.conv (.i64) r3) (W.of .i64 0) (W.of .i64 0) (W.of .i64 0)),(W.of .i64 0))))))))
 (.opt (F_inst_has (W.conv (.i64) r1) (W.of .i64 2)) fun r26=>
 .ite r26 (.opt (F_bits_Field w (W.of .i64 21) (W.of .i64 18)) fun r27=>
 .opt (F_inst_has (W.conv (.i64) r1) (W.of .i64 4)) fun r28=>
 .ite r28 (.opt (F_bits_Field w (W.of .i64 17) (W.of .i64 14)) fun r29=>
 .opt (F_inst_has (W.conv (.i64) r1) (W.of .i64 8)) fun r30=>
 .ite r30 (.opt (F_inst_number (W.conv (.i64) r1) w) fun r31=>
 .opt (F_inst_Enc (TInst.mk (W.conv (.i64) r1) (W.of .i64 0) (W.conv (.i64) r27) (W.conv (.i64) r29) r31)) fun r32=>
 .ite (W.ne r32.2 (W.of .i64 0)) (.ret ((TInst.mk (W.of .i64 0) (W.of .i64 0) (W.of .i64 0) (W.of .i64 0) (W.of .i64 0)),(W.of .i64 2)))
 (.ite (W.ne r32.1 w) (.ret ((TInst.mk (W.of .i64 0) (W.of .i64 0) (W.of .i64 0) (W.of .i64 0) (W.of .i64 0)),(W.of .i64 2)))
 (.ret ((TInst.mk (W.conv (.i64) r1) (W.of .i64 0) (W.conv (.i64) r27) (W.conv (.i64) r29) r31),(W.of .i64 0)))))
 (.opt (F_inst_Enc (TInst.mk (W.conv (.i64) r1) (W.of .i64 0) (W.conv (.i64) r27) (W.conv (.i64) r29) (W.of .i64 0))) fun r33=>
 .ite (W.ne r33.2 (W.of .i64 0)) (.ret ((TInst.mk (W.of .i64 0) (W.of .i64 0) (W.of .i64 0) (W.of .i64 0) (W.of .i64 0)),(W.of .i64 2)))
 (.ite (W.ne r33.1 w) (.ret ((TInst.mk (W.of .i64 0) (W.of .i64 0) (W.of .i64 0) (W.of .i64 0) (W.of .i64 0)),(W.of .i64 2)))
 (.ret ((TInst.mk (W.conv (.i64) r1) (W.of .i64 0) (W.conv (.i64) r27) (W.conv (.i64) r29) (W.of .i64 0)),(W.of .i64 0))))))
 (.opt (F_inst_has (W.conv (.i64) r1) (W.of .i64 8)) fun r34=>
 .ite r34 (.opt (F_inst_number (W.conv (.i64) r1) w) fun r35=>
 .opt (F_inst_Enc (TInst.mk (W.conv (.i64) r1) (W.of .i64 0) (W.conv (.i64) r27) (W.of .i64 0) r35)) fun r36=>
 .ite (W.ne r36.2 (W.of .i64 0)) (.ret ((TInst.mk (W.of .i64 0) (W.of .i64 0) (W.of .i64 0) (W.of .i64 0) (W.of .i64 0)),(W.of .i64 2)))
 (.ite (W.ne r36.1 w) (.ret ((TInst.mk (W.of .i64 0) (W.of .i64 0) (W.of .i64 0) (W.of .i64 0) (W.of .i64 0)),(W.of .i64 2)))
 (.ret ((TInst.mk (W.conv (.i64) r1) (W.of .i64 0) (W.conv (.i64) r27) (W.of .i64 0) r35),(W.of .i64 0)))))
 (.opt (F_inst_Enc (TInst.mk (W.conv (.i64) r1) (W.of .i64 0) (W.conv (.i64) r27) (W.of .i64 0) (W.of .i64 0))) fun r37=>
 .ite (W.ne r37.2 (W.of .i64 0)) (.ret ((TInst.mk (W.of .i64 0) (W.of .i64 0) (W.of .i64 0) (W.of .i64 0) (W.of .i64 0)),(W.of .i64 2)))
 (.ite (W.ne r37.1 w) (.ret ((TInst.mk (W.of .i64 0) (W.of .i64 0) (W.of .i64 0) (W.of .i64 0) (W.of .i64 0)),(W.of .i64 2)))
 (.ret ((TInst.mk (W.conv (.i64) r1) (W.of .i64 0) (W.conv (.i64) r27) (W.of .i64 0) (W.of .i64 0)),(W.of .i64 0)))))))
 (.opt (F_inst_has (W.conv (.i64) r1) (W.of .i64 4)) fun r38=>
 .ite r38 (.opt (F_bits_Field w (W.of .i64 17) (W.of .i64 14)) fun r39=>
 .opt (F_inst_has (W.conv (.i64) r1) (W.of .i64 8)) fun r40=>
 .ite r40 (.opt (F_inst_number (W.conv (.i64) r1) w) fun r41=>
 .opt (F_inst_Enc (TInst.mk (W.conv (.i64) r1) (W.of .i64 0) (W.of .i64 0) (W.conv (.i64) r39) r41)) fun r42=>
 .ite (W.ne r42.2 (W.of .i64 0)) (.ret ((TInst.mk (W.of .i64 0) (W.of .i64 0) (W.of .i64 0) (W.of .i64 0) (W.of .i64 0)),(W.of .i64 2)))
 (.ite (W.ne r42.1 w) (.ret ((TInst.mk (W.of .i64 0) (W.of .i64 0) (W.of .i64 0) (W.of .i64 0) (W.of .i64 0)),(W.of .i64 2)))
 (.ret ((TInst.mk (W.conv (.i64) r1) (W.of .i64 0) (W.of .i64 0) (W.conv (.i64) r39) r41),(W.of .i64 0)))))
 (.opt (F_inst_Enc (TInst.mk (W.conv (.i64) r1) (W.of .i64 0) (W.of .i64 0) (W.conv (.i64) r39) (W.of .i64 0))) fun r43=>
 .ite (W.ne r43.2 (W.of .i64 0)) (.ret ((TInst.mk (W.of .i64 0) (W.of .i64 0) (W.of .i64 0) (W.of .i64 0) (W.of .i64 0)),(W.of .i64 2)))
 (.ite (W.ne r43.1 w) (.ret ((TInst.mk (W.of .i64 0) (W.of .i64 0) (W.of .i64 0) (W.of .i64 0) (W.of .i64 0)),(W.of .i64 2)))
 (.ret ((TInst.mk (W.conv (.i64) r1) (W.of .i64 0) (W.of .i64 0) (W.conv (.i64) r39) (W.of .i64 0)),(W.of .i64 0))))))
 (.opt (F_inst_has (W.conv (.i64) r1) (W.of .i64 8)) fun r44=>
 .ite r44 (.opt (F_inst_number (W.conv (.i64) r1) w) fun r45=>
 .opt (F_inst_Enc (TInst.mk (W.conv (.i64) r1) (W.of .i64 0) (W.of .i64 0) (W.of .i64 0) r45)) fun r46=>
 .ite (W.ne r46.2 (W.of .i64 0)) (.ret ((TInst.mk (W.of .i64 0) (W.of .i64 0) (W.of .i64 0) (W.of .i64 0) (W.of .i64 0)),(W.of .i64 2)))
 (.ite (W.ne r46.1 w) (.ret ((TInst.mk (W.of .i64 0) (W.of .i64 0) (W.of .i64 0) (W.of .i64 0) (W.of .i64 0)),(W.of .i64 2)))
 (.ret ((TInst.mk (W.conv (.i64) r1) (W.of .i64 0) (W.of .i64 0) (W.of .i64 0) r45),(W.of .i64 0)))))
 (.opt (F_inst_Enc (TInst.mk (W.conv (.i64) r1) (W.of .i64 0) (W.of .i64 0) (W.of .i64 0) (W.of .i64 0))) fun r47=>
 .ite (W.ne r47.2 (W.of .i64 0)) (.ret ((TInst.mk (W.of .i64 0) (W.of .i64 0) (W.of .i64 0) (W.of .i64 0) (W.of .i64 0)),(W.of .i64 2)))
 (.ite (W.ne r47.1 w) (.ret ((TInst.mk (W.of .i64 0) (W.of .i64 0) (W.of .i64 0) (W.of .i64 0) (W.of .i64 0)),(W.of .i64 2)))
 (.ret ((TInst.mk (W.conv (.i64) r1) (W.of .i64 0) (W.of .i64 0) (W.of .i64 0) (W.of .i64 0)),(W.of .i64 0)))))))))
def F_inst_Dec (w:W .u32):Option (TInst×W .i64):=(T_inst_Dec w).eval
def B_retire_lines_11 (who:W .i64) (t_15:Sl 72 (TEvent)) (t_16 t_17:W .i64):Tree (Rnd (W .i64×Sl 72 (TEvent)×W .i64×W .i64×Unit) ((W .u32×Unit)⊕(Unit×Unit))):=
 .ite (W.lt t_17 t_16) (.opt (Sl.get? t_15 t_17) fun y1=>
 .opt (F_inst_Dec y1.Word) fun r2=>
 .ite (W.eq r2.2 (W.of .i64 0)) (.ite (W.eq r2.1.Op (W.of .i64 62)) (.ite (W.eq y1.Cause (W.of .i64 0)) (.ite (W.eq y1.Data (W.conv (.u32) (W.sub (W.of .i64 1) who))) (.ret (.out (.inl ((W.of .u32 2),()))))
 (.ret (.next (who,t_15,t_16,(W.add t_17 (W.of .i64 1)),()))))
 (.ite (W.eq y1.Cause (W.of .i64 10)) (.ite (W.eq y1.Data (W.conv (.u32) (W.sub (W.of .i64 1) who))) (.ret (.out (.inl ((W.of .u32 2),()))))
 (.ret (.next (who,t_15,t_16,(W.add t_17 (W.of .i64 1)),()))))
 (.ret (.next (who,t_15,t_16,(W.add t_17 (W.of .i64 1)),())))))
 (.ret (.next (who,t_15,t_16,(W.add t_17 (W.of .i64 1)),()))))
 (.ret (.next (who,t_15,t_16,(W.add t_17 (W.of .i64 1)),()))))
 (.ret (.out (.inr ((),()))))
def L_retire_lines_11 (a:W .i64×Sl 72 (TEvent)×W .i64×W .i64×Unit):Option ((W .u32×Unit)⊕(Unit×Unit)):=iter (fun a:W .i64×Sl 72 (TEvent)×W .i64×W .i64×Unit=>(B_retire_lines_11 a.1 a.2.1 a.2.2.1 a.2.2.2.1).eval) fuel a
def T_retire_lines (who:W .i64) (l_1:Sl 72 (TEvent)):Tree (W .u32):=
 .ite (W.ne who (W.of .i64 0)) (.ite (W.ne who (W.of .i64 1)) (.ret (W.of .u32 0))
 (.opt (L_retire_lines_11 ((who,l_1,(Sl.len l_1),(W.of .i64 0),()))) fun o3=>
 .sum o3 (fun p4=>
 .ret p4.1)
 (fun o5=>
 .ret (W.of .u32 0))))
 (.opt (L_retire_lines_11 ((who,l_1,(Sl.len l_1),(W.of .i64 0),()))) fun o6=>
 .sum o6 (fun p7=>
 .ret p7.1)
 (fun o8=>
 .ret (W.of .u32 0)))
def F_retire_lines (who:W .i64) (l_1:Sl 72 (TEvent)):Option (W .u32):=(T_retire_lines who l_1).eval
def B_retire_Stage_11 (who:W .i64) (c t_8:TCore) (t_9:TCoh) (t_24:TStage):Tree (Rnd (W .i64×TCore×TCore×TCoh×Unit×TStage×Unit) (W .i64×TCore×TCoh×Unit×TStage×Unit)):=
 .ite (W.lt t_24.retired (W.min (W.max c.Conf.Retire (W.of .i64 0)) (W.of .i64 4))) (.opt (F_retire_stage_boundary t_24) fun r1=>
 .ite r1.1 (.ret (.next (who,c,t_8,t_9,(),r1.2,())))
 (.ret (.out (who,t_8,t_9,(),r1.2,()))))
 (.ret (.out (who,t_8,t_9,(),t_24,())))
def L_retire_Stage_11 (a:W .i64×TCore×TCore×TCoh×Unit×TStage×Unit):Option (W .i64×TCore×TCoh×Unit×TStage×Unit):=iter (fun a:W .i64×TCore×TCore×TCoh×Unit×TStage×Unit=>(B_retire_Stage_11 a.1 a.2.1 a.2.2.1 a.2.2.2.1 a.2.2.2.2.2.1).eval) fuel a
def T_retire_Stage (c:TCore) (m:TCoh) (who:W .i64) (t:TTick):Tree (TCore×TCoh×Sl 72 (TEvent)×W .u32×Sl 32 (TNote)):=
 .ite (W.ne (W.and t.Stall (W.of .u32 16)) (W.of .u32 0)) (.ret (c,m,(Sl.nil:Sl 72 (TEvent)),(W.of .u32 0),(Sl.nil:Sl 32 (TNote))))
 (.opt (L_retire_Stage_11 ((who,c,(TCore.mk (TConf.mk (W.of .i64 0) (W.of .i64 0) (W.of .i64 0) (W.of .i64 0) (W.of .i64 0) (W.of .i64 0) (W.of .i64 0) (W.of .i64 0) (W.of .i64 0) (W.of .i64 0) (W.of .i64 0) (W.of .i64 0) (W.of .i64 0) (W.of .i64 0) (W.of .i64 0) (W.of .i64 0) (W.of .i64 0) (W.of .i64 0) (W.of .i64 0) (W.of .i64 0) (W.of .i64 0) false) (TArch.mk (W.of .u32 0) (Arr.rep 16 (W.of .u32 0):Arr 16 (W .u32)) (Arr.rep 12 (W.of .u32 0):Arr 12 (W .u32)) false) (Sl.nil:Sl 1 (W .u8)) (Sl.nil:Sl 4 (W .u32)) (W.of .u32 0) false (TPred.mk (W.of .u32 0) (Sl.nil:Sl 1 (W .u8)) (Sl.nil:Sl 16 (TBtb)) (W.of .i64 0) (Sl.nil:Sl 4 (W .u32)) (W.of .i64 0)) (Sl.nil:Sl 24 (TTlb)) (W.of .i64 0) (Sl.nil:Sl 56 (TSlot)) (TNames.mk (Arr.rep 16 (W.of .i64 0):Arr 16 (W .i64)) (Arr.rep 16 (W.of .i64 0):Arr 16 (W .i64)) (TFree.mk (Sl.nil:Sl 8 (W .i64)) (W.of .i64 0) (W.of .i64 0)) (W.of .u64 0)) (TPhys.mk (Sl.nil:Sl 4 (W .u32)) (Sl.nil:Sl 1 (Bool))) (Sl.nil:Sl 248 (TRob)) (Sl.nil:Sl 224 (TIq)) (Sl.nil:Sl 48 (TLq)) (Sl.nil:Sl 32 (TSq)) (Sl.nil:Sl 16 (TSb)) (Sl.nil:Sl 256 (TFlight)) (Sl.nil:Sl 1 (W .u8)) (W.of .i64 0) (W.of .i64 0)),(TCoh.mk (Sl.nil:Sl 1 (W .u8)) (Sl.nil:Sl 24 (TCache))),(),(TStage.mk c m who (W.of .i64 0) (Sl.nil:Sl 72 (TEvent)) (Sl.nil:Sl 32 (TNote))),()))) fun o2=>
 .opt (F_retire_lines o2.1 o2.2.2.2.2.1.events) fun r3=>
 .ret (o2.2.2.2.2.1.c,o2.2.2.2.2.1.m,o2.2.2.2.2.1.events,r3,o2.2.2.2.2.1.notes))
def F_retire_Stage (c:TCore) (m:TCoh) (who:W .i64) (t:TTick):Option (TCore×TCoh×Sl 72 (TEvent)×W .u32×Sl 32 (TNote)):=(T_retire_Stage c m who t).eval
def T_law48_awake :Tree (Bool):=
 .opt (F_inst_Enc (TInst.mk (W.of .i64 60) (W.of .i64 0) (W.of .i64 1) (W.of .i64 0) (W.of .i64 0))) fun r1=>
 .opt (F_step_New (TImage.mk (W.of .u32 0) (Sl.nil:Sl 32 (TSeg))) (W.of .i64 64)) fun r2=>
 .opt (F_core_Plain) fun r3=>
 .opt (F_core_New r3 r2.1) fun r4=>
 .ite (W.ne r2.2 (W.of .i64 0)) (.ret false)
 (.ite (W.ne r4.2 (W.of .i64 0)) (.ret false)
 (.opt (F_retire_Stage ({ r4.1 with Rob:=(Sl.lit 248 [(TRob.mk (TRen.mk (TUop.mk (TInst.mk (W.of .i64 25) (W.of .i64 1) (W.of .i64 0) (W.of .i64 0) (W.of .i64 5)) (TSlot.mk (W.of .u32 0) (W.of .u32 1681915909) (W.of .i64 0) (W.of .u32 0) (TGuess.mk false (W.of .u32 0) (TSave.mk (W.of .u32 0) (W.of .i64 0) (W.of .u32 0)))) (W.of .i64 1) (W.of .i64 0) true (Arr.lit 3 [(W.of .i64 (-1)),(W.of .i64 (-1)),(W.of .i64 (-1))] rfl:Arr 3 (W .i64)) (W.of .i64 1) (W.of .i64 0) (W.of .u32 0)) (W.of .u64 1) (Arr.lit 3 [(W.of .i64 (-1)),(W.of .i64 (-1)),(W.of .i64 (-1))] rfl:Arr 3 (W .i64)) (W.of .i64 16) (W.of .i64 1)) true (W.of .u32 5) (W.of .u32 4) (W.of .i64 0) (W.of .u32 0) false),(TRob.mk (TRen.mk (TUop.mk (TInst.mk (W.of .i64 60) (W.of .i64 0) (W.of .i64 1) (W.of .i64 0) (W.of .i64 0)) (TSlot.mk (W.of .u32 4) r1.1 (W.of .i64 0) (W.of .u32 0) (TGuess.mk false (W.of .u32 0) (TSave.mk (W.of .u32 0) (W.of .i64 0) (W.of .u32 0)))) (W.of .i64 7) (W.of .i64 0) true (Arr.lit 3 [(W.of .i64 (-1)),(W.of .i64 (-1)),(W.of .i64 (-1))] rfl:Arr 3 (W .i64)) (W.of .i64 (-1)) (W.of .i64 0) (W.of .u32 0)) (W.of .u64 2) (Arr.lit 3 [(W.of .i64 (-1)),(W.of .i64 (-1)),(W.of .i64 (-1))] rfl:Arr 3 (W .i64)) (W.of .i64 (-1)) (W.of .i64 (-1))) false (W.of .u32 0) (W.of .u32 0) (W.of .i64 0) (W.of .u32 0) false)] rfl:Sl 248 (TRob)) }:TCore) (TCoh.mk (Sl.nil:Sl 1 (W .u8)) (Sl.nil:Sl 24 (TCache))) (W.of .i64 0) (TTick.mk (W.of .u32 0) (W.of .u32 0) (W.of .i64 0) false (W.of .i64 0))) fun r5=>
 .opt (F_retire_Stage r5.1 (TCoh.mk (Sl.nil:Sl 1 (W .u8)) (Sl.nil:Sl 24 (TCache))) (W.of .i64 0) (TTick.mk (W.of .u32 0) (W.of .u32 0) (W.of .i64 0) false (W.of .i64 0))) fun r6=>
 .ite (W.eq (Sl.len r5.2.2.1) (W.of .i64 1)) (.opt (Sl.get? r5.2.2.1 (W.of .i64 0)) fun y7=>
 .ite (W.eq y7.Rd (W.of .i64 1)) (.opt (Sl.get? r5.2.2.1 (W.of .i64 0)) fun y8=>
 .ite (W.eq y8.Val (W.of .u32 5)) (.ite (W.eq r5.1.A.PC (W.of .u32 4)) (.ite (W.eq (Sl.len r6.2.2.1) (W.of .i64 1)) (.opt (Sl.get? r6.2.2.1 (W.of .i64 0)) fun y9=>
 .ite (W.eq y9.Data (W.of .u32 5)) (.ite (W.eq (Sl.len r6.1.Out) (W.of .i64 1)) (.ret (W.eq r6.1.A.PC (W.of .u32 8)))
 (.ret false))
 (.ret false))
 (.ret false))
 (.ret false))
 (.ret false))
 (.ret false))
 (.ret false)))
def F_law48_awake :Option (Bool):=(T_law48_awake).eval
def B_ref48_caused_5 (l_0:Sl 248 (TRob)) (i:W .i64):Tree (Rnd (Sl 248 (TRob)×W .i64×Unit) ((W .i64×Unit)⊕(Unit×Unit))):=
 .ite (W.lt i (Sl.len l_0)) (.opt (Sl.get? l_0 i) fun y1=>
 .ite (W.ne y1.Cause (W.of .i64 0)) (.ret (.out (.inl (i,()))))
 (.ret (.next (l_0,(W.add i (W.of .i64 1)),()))))
 (.ret (.out (.inr ((),()))))
def L_ref48_caused_5 (a:Sl 248 (TRob)×W .i64×Unit):Option ((W .i64×Unit)⊕(Unit×Unit)):=iter (fun a:Sl 248 (TRob)×W .i64×Unit=>(B_ref48_caused_5 a.1 a.2.1).eval) fuel a
def T_ref48_caused (l_0:Sl 248 (TRob)):Tree (W .i64):=
 .opt (L_ref48_caused_5 ((l_0,(W.of .i64 0),()))) fun o2=>
 .sum o2 (fun p3=>
 .ret p3.1)
 (fun o4=>
 .ret (W.of .i64 (-1)))
def F_ref48_caused (l_0:Sl 248 (TRob)):Option (W .i64):=(T_ref48_caused l_0).eval
def T_ref48_dst (e:TRob):Tree (W .i64×W .u32):=
 .ite (W.lt e.Ren.Uop.Dst (W.of .i64 1)) (.ret ((W.of .i64 (-1)),(W.of .u32 0)))
 (.ite (W.gt e.Ren.Uop.Dst (W.of .i64 15)) (.ret ((W.of .i64 (-1)),(W.of .u32 0)))
 (.ret (e.Ren.Uop.Dst,e.Val)))
def F_ref48_dst (e:TRob):Option (W .i64×W .u32):=(T_ref48_dst e).eval
def T_ref48_reg (a:TArch) (r:W .i64):Tree (W .u32):=
 .ite (W.lt r (W.of .i64 1)) (.ret (W.of .u32 0))
 (.ite (W.gt r (W.of .i64 15)) (.ret (W.of .u32 0))
 (.opt (idx? 16 r) fun j1=>
 .ret (Arr.get a.R j1)))
def F_ref48_reg (a:TArch) (r:W .i64):Option (W .u32):=(T_ref48_reg a r).eval
def T_ref24_Size (op:W .i64):Tree (W .i64):=
 .ite (W.eq op (W.of .i64 34)) (.ret (W.of .i64 1))
 (.ite (W.eq op (W.of .i64 35)) (.ret (W.of .i64 1))
 (.ite (W.eq op (W.of .i64 40)) (.ret (W.of .i64 1))
 (.ite (W.eq op (W.of .i64 36)) (.ret (W.of .i64 2))
 (.ite (W.eq op (W.of .i64 37)) (.ret (W.of .i64 2))
 (.ite (W.eq op (W.of .i64 41)) (.ret (W.of .i64 2))
 (.ite (W.eq op (W.of .i64 38)) (.ret (W.of .i64 4))
 (.ite (W.eq op (W.of .i64 39)) (.ret (W.of .i64 4))
 (.ite (W.eq op (W.of .i64 42)) (.ret (W.of .i64 4))
 (.ite (W.eq op (W.of .i64 51)) (.ret (W.of .i64 4))
 (.ite (W.eq op (W.of .i64 52)) (.ret (W.of .i64 4))
 (.ite (W.eq op (W.of .i64 53)) (.ret (W.of .i64 4))
 (.ret (W.of .i64 0)))))))))))))
def F_ref24_Size (op:W .i64):Option (W .i64):=(T_ref24_Size op).eval
def T_ref01_brought (n_0 least most:W .i64):Tree (W .i64):=
 .ite (W.lt n_0 least) (.ret least)
 (.ite (W.gt n_0 most) (.ret most)
 (.ret n_0))
def F_ref01_brought (n_0 least most:W .i64):Option (W .i64):=(T_ref01_brought n_0 least most).eval
def B_ref01_power_7 (n_0:W .i64) (x:W .u32) (i:W .i64):Tree (Rnd (W .i64×W .u32×W .i64×Unit) (W .u32×Unit)):=
 .ite (W.lt i n_0) (.ret (.next (n_0,(W.mul x (W.of .u32 2)),(W.add i (W.of .i64 1)),())))
 (.ret (.out (x,())))
def L_ref01_power_7 (a:W .i64×W .u32×W .i64×Unit):Option (W .u32×Unit):=iter (fun a:W .i64×W .u32×W .i64×Unit=>(B_ref01_power_7 a.1 a.2.1 a.2.2.1).eval) fuel a
def T_ref01_power (n_0:W .i64):Tree (W .u32):=
 .opt (L_ref01_power_7 ((n_0,(W.of .u32 1),(W.of .i64 0),()))) fun o1=>
 .ret o1.1
def F_ref01_power (n_0:W .i64):Option (W .u32):=(T_ref01_power n_0).eval
def T_ref01_bit (x:W .u32) (i:W .i64):Tree (W .u32):=
 .opt (F_ref01_power i) fun r1=>
 .opt (W.quo? x r1) fun z2=>
 .ret (W.rem z2 (W.of .u32 2))
def F_ref01_bit (x:W .u32) (i:W .i64):Option (W .u32):=(T_ref01_bit x i).eval
def B_ref01_Zext_9 (x:W .u32) (n_1:W .i64) (out:W .u32) (i:W .i64):Tree (Rnd (W .u32×W .i64×W .u32×W .i64×Unit) (W .u32×Unit)):=
 .ite (W.lt i n_1) (.opt (F_ref01_bit x i) fun r2=>
 .opt (F_ref01_power i) fun r3=>
 .ret (.next (x,n_1,(W.add out (W.mul r2 r3)),(W.add i (W.of .i64 1)),())))
 (.ret (.out (out,())))
def L_ref01_Zext_9 (a:W .u32×W .i64×W .u32×W .i64×Unit):Option (W .u32×Unit):=iter (fun a:W .u32×W .i64×W .u32×W .i64×Unit=>(B_ref01_Zext_9 a.1 a.2.1 a.2.2.1 a.2.2.2.1).eval) fuel a
def T_ref01_Zext (x:W .u32) (n_1:W .i64):Tree (W .u32):=
 .opt (F_ref01_brought n_1 (W.of .i64 0) (W.of .i64 32)) fun r1=>
 .opt (L_ref01_Zext_9 ((x,r1,(W.of .u32 0),(W.of .i64 0),()))) fun o4=>
 .ret o4.1
def F_ref01_Zext (x:W .u32) (n_1:W .i64):Option (W .u32):=(T_ref01_Zext x n_1).eval
def T_ref32_Data (u:TUop) (in_1:Arr 3 (W .u32)):Tree (W .u32):=
 .ite (W.lt u.Inst.Op (W.of .i64 40)) (.ret (W.of .u32 0))
 (.ite (W.gt u.Inst.Op (W.of .i64 42)) (.ret (W.of .u32 0))
 (.opt (F_ref24_Size u.Inst.Op) fun r1=>
 .opt (F_ref01_Zext (Arr.get in_1 1) (W.mul (W.of .i64 8) r1)) fun r2=>
 .ret r2))
def F_ref32_Data (u:TUop) (in_1:Arr 3 (W .u32)):Option (W .u32):=(T_ref32_Data u in_1).eval
def B_ref48_Event_47 (l_0:Sl 248 (TRob)) (a:TArch) (t_4 e:TEvent) (i:W .i64):Tree (Rnd (Sl 248 (TRob)×TArch×TEvent×TEvent×W .i64×Unit) ((TEvent×TEvent×Unit)⊕(TEvent×TEvent×Unit))):=
 .ite (W.lt i (Sl.len l_0)) (.opt (Sl.get? l_0 i) fun y11=>
 .ite (W.eq y11.Ren.Uop.Unit (W.of .i64 6)) (.opt (F_ref48_reg a (Arr.get y11.Ren.Uop.Src 0)) fun r12=>
 .opt (F_ref48_reg a (Arr.get y11.Ren.Uop.Src 1)) fun r13=>
 .opt (F_ref48_reg a (Arr.get y11.Ren.Uop.Src 2)) fun r14=>
 .opt (F_ref24_Size y11.Ren.Uop.Inst.Op) fun r15=>
 .opt (Sl.get? l_0 i) fun y16=>
 .opt (F_ref32_Data y11.Ren.Uop (Arr.lit 3 [r12,r13,r14] rfl:Arr 3 (W .u32))) fun r17=>
 .ret (.out (.inl (({ e with Size:=r15,Addr:=y16.Val,Data:=r17 }:TEvent),({ e with Size:=r15,Addr:=y16.Val,Data:=r17 }:TEvent),()))))
 (.ret (.next (l_0,a,t_4,e,(W.add i (W.of .i64 1)),()))))
 (.ret (.out (.inr (t_4,e,()))))
def L_ref48_Event_47 (a:Sl 248 (TRob)×TArch×TEvent×TEvent×W .i64×Unit):Option ((TEvent×TEvent×Unit)⊕(TEvent×TEvent×Unit)):=iter (fun a:Sl 248 (TRob)×TArch×TEvent×TEvent×W .i64×Unit=>(B_ref48_Event_47 a.1 a.2.1 a.2.2.1 a.2.2.2.1 a.2.2.2.2.1).eval) fuel a
def T_ref48_Event (l_0:Sl 248 (TRob)) (a:TArch):Tree (TEvent):=
 .ite (W.eq (Sl.len l_0) (W.of .i64 0)) (.ret (TEvent.mk (W.of .u32 0) (W.of .u32 0) (W.of .i64 (-1)) (W.of .u32 0) (W.of .i64 (-1)) (W.of .u32 0) (W.of .i64 0) (W.of .u32 0) (W.of .u32 0) (W.of .i64 0) (W.of .u32 0) (W.of .u32 0)))
 (.opt (Sl.get? l_0 (W.of .i64 0)) fun y1=>
 .opt (Sl.get? l_0 (W.of .i64 0)) fun y2=>
 .opt (F_ref48_caused l_0) fun r3=>
 .ite (W.ge r3 (W.of .i64 0)) (.opt (Sl.get? l_0 r3) fun y4=>
 .opt (Sl.get? l_0 r3) fun y5=>
 .ret (TEvent.mk y1.Ren.Uop.Slot.PC y2.Ren.Uop.Slot.Word (W.of .i64 (-1)) (W.of .u32 0) (W.of .i64 (-1)) (W.of .u32 0) (W.of .i64 0) (W.of .u32 0) (W.of .u32 0) y4.Cause y5.Tval (Arr.get a.C 4)))
 (.opt (Sl.get? l_0 (W.of .i64 0)) fun y6=>
 .opt (F_ref48_dst y6) fun r7=>
 .ite (W.gt (Sl.len l_0) (W.of .i64 1)) (.opt (Sl.get? l_0 (W.of .i64 1)) fun y8=>
 .opt (F_ref48_dst y8) fun r9=>
 .opt (Sl.get? l_0 (W.sub (Sl.len l_0) (W.of .i64 1))) fun y10=>
 .opt (L_ref48_Event_47 ((l_0,a,(TEvent.mk (W.of .u32 0) (W.of .u32 0) (W.of .i64 0) (W.of .u32 0) (W.of .i64 0) (W.of .u32 0) (W.of .i64 0) (W.of .u32 0) (W.of .u32 0) (W.of .i64 0) (W.of .u32 0) (W.of .u32 0)),(TEvent.mk y1.Ren.Uop.Slot.PC y2.Ren.Uop.Slot.Word r7.1 r7.2 r9.1 r9.2 (W.of .i64 0) (W.of .u32 0) (W.of .u32 0) (W.of .i64 0) (W.of .u32 0) y10.Next),(W.of .i64 0),()))) fun o18=>
 .sum o18 (fun p19=>
 .ret p19.1)
 (fun o20=>
 .ret o20.2.1))
 (.opt (Sl.get? l_0 (W.sub (Sl.len l_0) (W.of .i64 1))) fun y21=>
 .opt (L_ref48_Event_47 ((l_0,a,(TEvent.mk (W.of .u32 0) (W.of .u32 0) (W.of .i64 0) (W.of .u32 0) (W.of .i64 0) (W.of .u32 0) (W.of .i64 0) (W.of .u32 0) (W.of .u32 0) (W.of .i64 0) (W.of .u32 0) (W.of .u32 0)),(TEvent.mk y1.Ren.Uop.Slot.PC y2.Ren.Uop.Slot.Word r7.1 r7.2 (W.of .i64 (-1)) (W.of .u32 0) (W.of .i64 0) (W.of .u32 0) (W.of .u32 0) (W.of .i64 0) (W.of .u32 0) y21.Next),(W.of .i64 0),()))) fun o22=>
 .sum o22 (fun p23=>
 .ret p23.1)
 (fun o24=>
 .ret o24.2.1))))
def F_ref48_Event (l_0:Sl 248 (TRob)) (a:TArch):Option (TEvent):=(T_ref48_Event l_0 a).eval
def T_law48_RetireTells (l_0:Sl 248 (TRob)) (a:TArch):Tree (Bool):=
 .ite (W.gt (Sl.len l_0) (W.of .i64 200)) (.opt (F_law48_awake) fun r1=>
 .ret r1)
 (.opt (F_retire_Event l_0 a) fun r2=>
 .opt (F_ref48_Event l_0 a) fun r3=>
 .ite (Tab.eq tab (.named .TEvent) r2 r3) (.opt (F_law48_awake) fun r4=>
 .ret r4)
 (.ret false))
def F_law48_RetireTells (l_0:Sl 248 (TRob)) (a:TArch):Option (Bool):=(T_law48_RetireTells l_0 a).eval
end
end Go.Proofs.YtchpjkadpdajkaaGreatDoor
