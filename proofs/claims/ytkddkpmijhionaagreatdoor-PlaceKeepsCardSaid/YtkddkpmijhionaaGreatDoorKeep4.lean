/- YtkddkpmijhionaaGreatDoorKeep4: a core's rules as one, and what the parts of a word are like. No statement of the seat is proved here. -/
import Derived.Test.YtkddkpmijhionaaGreatDoorKeep3
set_option linter.unusedSimpArgs false
set_option linter.unusedVariables false
set_option maxRecDepth 100000
namespace Go.Proofs.YtkddkpmijhionaaGreatDoor
open Go Go.A2
structure Rooms (c:TCore):Prop where
 conf:okConf c.Conf=true
 queue:W.gt (Sl.len c.Queue) c.Conf.Queue=false
 rob:W.gt (Sl.len c.Rob) c.Conf.Rob=false
 iq:W.gt (Sl.len c.Iq) c.Conf.Iq=false
 lq:W.gt (Sl.len c.Lq) c.Conf.Lq=false
 sq:W.gt (Sl.len c.Sq) c.Conf.Sq=false
 sb:W.gt (Sl.len c.Sb) c.Conf.Sb=false
 val:W.eq (Sl.len c.Phys.Val) c.Conf.Phys=true
 ready:W.eq (Sl.len c.Phys.Ready) c.Conf.Phys=true
 tlb:W.eq (Sl.len c.Tlb) c.Conf.Tlb=true
 dep:W.eq (Sl.len c.Dep) c.Conf.Dep=true
theorem rooms_iff (c:TCore):∃ b,F_core_rooms c=some b∧(b=true ↔ Rooms c):=by
 have hd3:W.ne (W.of .i64 3) (W.of .i64 0)=true:=rfl
 have hd0:W.ne (W.of .i64 0) (W.of .i64 0)=false:=rfl
 unfold F_core_rooms T_core_rooms
 simp only [ev_opt,ev_ite,ev_ret,core_conf,bind_some']
 cases h0:okConf c.Conf with
 | false=>exact ⟨false,by simp only [Bool.false_eq_true,if_false,hd3,if_true],fun h=>(by cases h),fun h=>by have:=h.conf;rw [h0] at this;cases this⟩
 | true=>
  simp only [if_true,hd0,Bool.false_eq_true,if_false]
  cases h1:W.gt (Sl.len c.Queue) c.Conf.Queue with
  | true=>exact ⟨false,rfl,fun h=>(by cases h),fun h=>by have:=h.queue;rw [h1] at this;cases this⟩
  | false=>
  cases h2:W.gt (Sl.len c.Rob) c.Conf.Rob with
  | true=>exact ⟨false,rfl,fun h=>(by cases h),fun h=>by have:=h.rob;rw [h2] at this;cases this⟩
  | false=>
  cases h3:W.gt (Sl.len c.Iq) c.Conf.Iq with
  | true=>exact ⟨false,rfl,fun h=>(by cases h),fun h=>by have:=h.iq;rw [h3] at this;cases this⟩
  | false=>
  cases h4:W.gt (Sl.len c.Lq) c.Conf.Lq with
  | true=>exact ⟨false,rfl,fun h=>(by cases h),fun h=>by have:=h.lq;rw [h4] at this;cases this⟩
  | false=>
  cases h5:W.gt (Sl.len c.Sq) c.Conf.Sq with
  | true=>exact ⟨false,rfl,fun h=>(by cases h),fun h=>by have:=h.sq;rw [h5] at this;cases this⟩
  | false=>
  cases h6:W.gt (Sl.len c.Sb) c.Conf.Sb with
  | true=>exact ⟨false,rfl,fun h=>(by cases h),fun h=>by have:=h.sb;rw [h6] at this;cases this⟩
  | false=>
  cases h7:W.eq (Sl.len c.Phys.Val) c.Conf.Phys with
  | false=>exact ⟨false,rfl,fun h=>(by cases h),fun h=>by have:=h.val;rw [h7] at this;cases this⟩
  | true=>
  cases h8:W.eq (Sl.len c.Phys.Ready) c.Conf.Phys with
  | false=>exact ⟨false,rfl,fun h=>(by cases h),fun h=>by have:=h.ready;rw [h8] at this;cases this⟩
  | true=>
  cases h9:W.eq (Sl.len c.Tlb) c.Conf.Tlb with
  | false=>exact ⟨false,rfl,fun h=>(by cases h),fun h=>by have:=h.tlb;rw [h9] at this;cases this⟩
  | true=>exact ⟨_,rfl,fun h=>⟨h0,h1,h2,h3,h4,h5,h6,h7,h8,h9,h⟩,fun h=>h.dep⟩
theorem rob_room {c:TCore} (h:Rooms c):c.Rob.l.length≤64:=by
 have h0:=h.conf
 have hg:=h.rob
 unfold okConf roomsB at h0
 simp only [Bool.and_eq_true] at h0
 have h1:=h0.1.1.2.1.1.1.1.1.2
 unfold inB at h1
 rw [Bool.and_eq_true,W.ge_n,W.le_n,show (W.of .i64 2).n=2 from rfl,show (W.of .i64 64).n=64 from rfl] at h1
 have:¬ W.gt (Sl.len c.Rob) c.Conf.Rob=true:=by rw [hg];simp
 rw [W.gt_n,len_n'] at this;omega
structure Good (c:TCore) (nn:Nat):Prop where
 rooms:Rooms c
 phys:c.Conf.Phys=wi nn
 ord:ord2 c
 names:namesP c.Names nn (c.Rob.l.map TRob.Ren)
 iq:∀ i,i < (c.Iq.l.map TIq.Ren).length→flyP c (c.Iq.l.map TIq.Ren) i
 un:∀ i,i < (c.Units.l.map TFlight.Ren).length→flyP c (c.Units.l.map TFlight.Ren) i
 ap:bothB (c.Iq.l.map TIq.Ren) (c.Units.l.map TFlight.Ren)=false
 mem:memP c
 view:F_prf_View c.Phys c.Names.Done=some c.A.R
 clean:F_core_clean c.A=some true
 val:c.Rob.l.any (badV c)=false
theorem brk_nil {b2 b3 b4 b5 b6 b7 b8 b9:Bool}:brkL b2 b3 b4 b5 b6 b7 b8 b9=[] ↔ b2=true∧b3=true∧b4=true∧b5=true∧b6=true∧b7=true∧b8=true∧b9=true:=by
 unfold brkL
 cases b2<;>cases b3<;>cases b4<;>cases b5<;>cases b6<;>cases b7<;>cases b8<;>cases b9<;>simp
theorem r32 {a b:Arr 16 (W .u32)}:Tab.eq tab (.arr 16 (.int .u32)) a b=true ↔ a=b:=eq_iff (X:=tab) tabOk (by rfl)
theorem broken_good (c:TCore) (l2:c.Rob.l.length≤300) (l3:c.Iq.l.length≤300) (l4:c.Lq.l.length≤300) (l5:c.Sq.l.length≤300) (l7:c.Units.l.length≤300):∃ r,F_core_Broken c=some r∧(r.l=[]→∃ nn,Good c nn)∧((∃ nn,Good c nn)→r.l=[]):=by
 have f2:c.Rob.l.length < fuel:=by show _ < 281474976710656;omega
 have f3:c.Iq.l.length < fuel:=by show _ < 281474976710656;omega
 have f4:c.Lq.l.length < fuel:=by show _ < 281474976710656;omega
 have f5:c.Sq.l.length < fuel:=by show _ < 281474976710656;omega
 have f7:c.Units.l.length < fuel:=by show _ < 281474976710656;omega
 obtain ⟨b1,e1,g1⟩:=rooms_iff c
 unfold F_core_Broken T_core_Broken
 simp only [ev_opt,ev_ite,ev_ret,e1,bind_some']
 cases b1 with
 | false=>exact ⟨_,rfl,fun h=>(by cases h),fun ⟨nn,h⟩=>by have:=g1.2 h.rooms;cases this⟩
 | true=>
  have hR:=g1.1 rfl
  have h64:=rob_room hR
  obtain ⟨nn,hP,hnn⟩:=phys_wi hR.conf
  obtain ⟨iq,un,eq,hiq,hun⟩:=core_que c (by omega) (by omega)
  obtain ⟨b2,e2,g2⟩:=core_ord c (by omega)
  obtain ⟨fl,er,hfl⟩:=core_rens c (by omega)
  obtain ⟨b3,e3,g3⟩:=core_names c.Names hnn fl (by rw [hfl,List.length_map];omega)
  obtain ⟨b4,e4,g4⟩:=core_fly c iq f2 (by rw [hiq,List.length_map];exact f3)
  obtain ⟨b5,e5,g5⟩:=core_fly c un f2 (by rw [hun,List.length_map];exact f7)
  have e5a:=core_apart iq un (by rw [hiq,List.length_map];exact f3) (by rw [hun,List.length_map];exact f7)
  obtain ⟨b6,e6,g6⟩:=core_mem c (by omega) f4 f5
  obtain ⟨r7,e7⟩:=view_some c.Phys c.Names.Done
  obtain ⟨b8,e8⟩:=clean_some c.A
  have e9:=core_val c f2
  rw [hiq] at g4
  rw [hun] at g5
  rw [hfl] at g3
  have same:∀ {mm},c.Conf.Phys=wi mm→namesP c.Names mm (c.Rob.l.map TRob.Ren)→namesP c.Names nn (c.Rob.l.map TRob.Ren):=fun {mm} h1 h2=>by
   have:mm=nn:=wi_inj (sm (by have:=h2.2.1;omega)) (sm hnn) (h1.symm.trans hP)
   rwa [this] at h2
  rw [hP]
  simp only [Bool.not_true,Bool.false_eq_true,if_false,eq,e2,er,e3,e4,e5,bind_some']
  cases b5 with
  | true=>
   simp only [if_true,e5a,e6,e7,e8,e9,bind_some']
   obtain ⟨r,hr1,hr2⟩:=core_loop b2 b3 b4 (!bothB iq.l un.l) b6 (Tab.eq tab (.arr 16 (.int .u32)) r7 c.A.R) b8 (!(c.Rob.l.any (badV c)))
   rw [hr1,bind_some']
   refine ⟨_,rfl,fun h=>?_,fun ⟨mm,h⟩=>?_⟩
   ·rw [hr2,brk_nil] at h
    obtain ⟨q2,q3,q4,q5,q6,q7,q8,q9⟩:=h
    rw [hiq,hun,Bool.not_eq_true'] at q5
    rw [Bool.not_eq_true'] at q9
    exact ⟨nn,⟨hR,hP,g2.1 q2,g3.1 q3,g4.1 q4,g5.1 rfl,q5,g6.1 q6,by rw [e7,r32.1 q7],by rw [e8,q8],q9⟩⟩
   ·rw [hr2,brk_nil]
    refine ⟨g2.2 h.ord,g3.2 (same h.phys h.names),g4.2 h.iq,by rw [hiq,hun,h.ap];rfl,g6.2 h.mem,r32.2 ?_,?_,by rw [h.val];rfl⟩
    ·have:=h.view;rw [e7] at this;exact Option.some.inj this
    ·have:=h.clean;rw [e8] at this;exact Option.some.inj this
  | false=>
   simp only [Bool.false_eq_true,if_false,e6,e7,e8,e9,bind_some']
   obtain ⟨r,hr1,hr2⟩:=core_loop b2 b3 b4 false b6 (Tab.eq tab (.arr 16 (.int .u32)) r7 c.A.R) b8 (!(c.Rob.l.any (badV c)))
   rw [hr1,bind_some']
   refine ⟨_,rfl,fun h=>?_,fun ⟨mm,h⟩=>?_⟩
   ·rw [hr2,brk_nil] at h
    cases h.2.2.2.1
   ·have:=g5.2 h.un;cases this
theorem good_inv {c:TCore} {nn:Nat} (h:Good c nn) (hs:1≤c.Names.Seq.n):Inv nn c (W.of .i64 0):=by
 obtain ⟨⟨o1,o2⟩,_⟩:=h.ord
 refine ⟨hs,o1,?_,h.names,h.iq,h.un,h.ap,h.mem,h.view,fun e he=>?_⟩
 ·revert o2
  cases c.Rob.l.length with
  | zero=>exact fun _=>rfl
  | succ i=>intro o2;show (if (nth c.Rob.l i).Ren.Uop.Last=true then _ else _)=_;rw [if_pos o2]
 ·have:=List.any_eq_false.1 h.val e he
  simpa using this
theorem inv_good {c:TCore} {nn:Nat} (h:Inv nn c (W.of .i64 0)) (hr:Rooms c) (hp:c.Conf.Phys=wi nn) (hc:F_core_clean c.A=some true):Good c nn:=by
 have h64:=rob_room hr
 refine ⟨hr,hp,⟨⟨h.robs,?_⟩,?_⟩,h.names,h.iq,h.un,h.ap,h.mem,h.view,hc,List.any_eq_false.2 fun e he=>by rw [h.val e he];simp⟩
 ·have hpt:=h.pt
  cases hl:c.Rob.l.length with
  | zero=>rfl
  | succ i=>
   rw [hl] at hpt
   show (nth c.Rob.l i).Ren.Uop.Last=true
   cases hL:(nth c.Rob.l i).Ren.Uop.Last with
   | true=>rfl
   | false=>
    have hp2:W.add (nth c.Rob.l i).Ren.Uop.Part (W.of .i64 1)=W.of .i64 0:=by
     have:(if (nth c.Rob.l i).Ren.Uop.Last=true then W.of .i64 0 else W.add (nth c.Rob.l i).Ren.Uop.Part (W.of .i64 1))=W.of .i64 0:=hpt
     rw [hL] at this
     simpa using this
    have hs:=nextP_small (by omega) h.robs i (by omega)
    have hq:=(h.robs i (by omega)).2
    rw [W.ne_eq,W.eq_dec,Bool.not_eq_false',decide_eq_true_eq] at hq
    rw [←hq] at hs
    have:=congrArg W.n hp2
    rw [W.add_n,show (W.of .i64 1).n=1 from rfl,show (W.of .i64 0).n=0 from rfl,wrap_i64] at this
    omega
 ·cases hl:c.Rob.l.length with
  | zero=>trivial
  | succ i=>
   show W.lt _ _=true
   rw [W.lt_n]
   exact seq_lt h (nth_mem (by omega))
def Shape (l:List TUop):Prop:=(∃ u,l=[u]∧u.Part=W.of .i64 0∧u.Last=true)∨∃ a b,l=[a,b]∧a.Part=W.of .i64 0∧a.Last=false∧b.Part=W.of .i64 1∧b.Last=true
theorem part_num {s:TSlot} {i:TInst} {n:W .i64} {last:Bool} {u:TUop} (h:F_crack_part s i n last=some u):u.Part=n∧u.Last=last:=by
 unfold F_crack_part T_crack_part at h
 simp only [ev_opt,ev_ret] at h
 obtain ⟨a,_,h⟩:=Option.bind_eq_some_iff.1 h
 obtain ⟨b,_,h⟩:=Option.bind_eq_some_iff.1 h
 obtain ⟨c,_,h⟩:=Option.bind_eq_some_iff.1 h
 cases h
 exact ⟨rfl,rfl⟩
theorem shape (s:TSlot) {l:Sl 168 TUop} (h:F_crack_Uops s=some l):Shape l.l:=by
 unfold F_crack_Uops T_crack_Uops F_crack_trap T_crack_trap F_crack_none T_crack_none at h
 simp only [ev_opt,ev_ite,ev_ret,bind_some'] at h
 split at h
 ·cases h;exact .inl ⟨_,rfl,rfl,rfl⟩
 ·obtain ⟨r,_,h⟩:=Option.bind_eq_some_iff.1 h
  split at h
  ·cases h;exact .inl ⟨_,rfl,rfl,rfl⟩
  ·split at h
   ·obtain ⟨u,hu,h⟩:=Option.bind_eq_some_iff.1 h
    cases h;exact .inl ⟨u,rfl,(part_num hu).1,(part_num hu).2⟩
   ·split at h
    ·obtain ⟨u,hu,h⟩:=Option.bind_eq_some_iff.1 h
     cases h;exact .inl ⟨u,rfl,(part_num hu).1,(part_num hu).2⟩
    ·split at h
     ·obtain ⟨u,hu,h⟩:=Option.bind_eq_some_iff.1 h
      cases h;exact .inl ⟨u,rfl,(part_num hu).1,(part_num hu).2⟩
     ·obtain ⟨a,ha,h⟩:=Option.bind_eq_some_iff.1 h
      obtain ⟨b,hb,h⟩:=Option.bind_eq_some_iff.1 h
      cases h;exact .inr ⟨a,b,rfl,(part_num ha).1,(part_num ha).2,(part_num hb).1,(part_num hb).2⟩
end Go.Proofs.YtkddkpmijhionaaGreatDoor
