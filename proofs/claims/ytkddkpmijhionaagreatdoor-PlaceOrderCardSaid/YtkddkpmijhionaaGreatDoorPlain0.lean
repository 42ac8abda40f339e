/- YtkddkpmijhionaaGreatDoorPurePlaceOrder: instructions are placed whole and in order. No statement of the seat is proved here. -/
import Derived.Test.YtkddkpmijhionaaGreatDoorOrder2
set_option linter.unusedSimpArgs false
set_option linter.unusedVariables false
set_option maxRecDepth 100000
namespace Go.Proofs.YtkddkpmijhionaaGreatDoor
open Go Go.A2
theorem awake45:F_law45_awake=some true:=by kernel_rfl
theorem slot_same (a:TSlot):Tab.eq tab (.named .TSlot) a a=true:=(eq_iff (X:=tab) tabOk (by rfl)).2 rfl
theorem rob_same (a:TRob):Tab.eq tab (.named .TRob) a a=true:=(eq_iff (X:=tab) tabOk (by rfl)).2 rfl
theorem uop_same (a:TUop):Tab.eq tab (.named .TUop) a a=true:=(eq_iff (X:=tab) tabOk (by rfl)).2 rfl
theorem nth_drop {α:Type} [Inhabited α] {l:List α} {i j:Nat} (h:i+j < l.length):nth (l.drop i) j=nth l (i+j):=by
 rw [nth_elem (by rw [List.length_drop];omega),nth_elem h,List.getElem_drop]
theorem sub_wi {a b:Nat} (h:b≤a) (ha:a≤1000):W.sub (wi a) (wi b)=wi (a - b):=W.ext (by
 rw [W.sub_n,wi_n (sm ha),wi_n (sm (by omega)),wi_n (sm (by omega)),wrap_i64];omega)
section law
variable {c d:TCore} {ns:Sl 32 TNote} {i:Nat} (t:TTick) (hc:LightC c) (ho:Out c d ns i)
theorem loop21 (hc:LightC c) (ho:Out c d ns i):L_law45_PlaceOrder_21 (c,t,d,wi i,wi 0,())=some (.inr (c,t,(),d,wi i,())):=by
 have hq:=ho.queue
 have hle:=ho.le
 have h200:=hc.queue
 have hlen:d.Queue.l.length=c.Queue.l.length - i:=by rw [hq,List.length_drop]
 have key:∃ o,L_law45_PlaceOrder_21 (c,t,d,wi i,wi 0,())=some o∧o=.inr (c,t,(),d,wi i,()):=by
  unfold L_law45_PlaceOrder_21
  refine iter_acc (fun j s=>s=(c,t,d,wi i,wi j,())) d.Queue.l.length _ ?_ ?_ rfl (by show _ < 281474976710656;omega)
  ·rintro j s hj rfl
   have e1:W.add (wi i) (wi j)=wi (i+j):=add_wi (by omega) (by omega)
   have e2:nth d.Queue.l j=nth c.Queue.l (i+j):=by rw [hq,nth_drop (by omega)]
   simp only [B_law45_PlaceOrder_21,ev_ite,ev_opt,ev_ret,lt_len d.Queue hj,if_true,Sl.get_wi d.Queue hj,bind_some',e1,Sl.get_wi c.Queue (show i+j < c.Queue.l.length by omega),e2,slot_same,Bool.not_true,Bool.false_eq_true,if_false,wi_next d.Queue hj]
   exact ⟨_,rfl,rfl⟩
  ·rintro s rfl
   simp only [B_law45_PlaceOrder_21,ev_ite,ev_ret,lt_end d.Queue,Bool.false_eq_true,if_false]
   exact ⟨_,rfl,rfl⟩
 obtain ⟨o,k1,rfl⟩:=key
 exact k1
theorem loop40 (hc:LightC c) (ho:Out c d ns i):L_law45_PlaceOrder_40 (c,t,d,wi i,wi 0,wi 0,())=some (.inr (c,t,(),d,wi i,wi c.Rob.l.length,())):=by
 obtain ⟨es,es1,es2⟩:=ho.ord.es
 have h200:=hc.rob
 have key:∃ o,L_law45_PlaceOrder_40 (c,t,d,wi i,wi 0,wi 0,())=some o∧o=.inr (c,t,(),d,wi i,wi c.Rob.l.length,()):=by
  unfold L_law45_PlaceOrder_40
  refine iter_acc (fun j s=>s=(c,t,d,wi i,wi j,wi j,())) c.Rob.l.length _ ?_ ?_ rfl (by show _ < 281474976710656;omega)
  ·rintro j s hj rfl
   have hj':j < d.Rob.l.length:=by rw [es1,List.length_append];omega
   have e2:nth d.Rob.l j=nth c.Rob.l j:=by rw [es1,nth_app1 hj]
   simp only [B_law45_PlaceOrder_40,ev_ite,ev_opt,ev_ret,lt_len c.Rob hj,if_true,Sl.get_wi c.Rob hj,Sl.get_wi d.Rob hj',bind_some',e2,rob_same,Bool.not_true,Bool.false_eq_true,if_false,wi_next c.Rob hj]
   exact ⟨_,rfl,rfl⟩
  ·rintro s rfl
   simp only [B_law45_PlaceOrder_40,ev_ite,ev_ret,lt_end c.Rob,Bool.false_eq_true,if_false]
   exact ⟨_,rfl,rfl⟩
 obtain ⟨o,k1,rfl⟩:=key
 exact k1
noncomputable def off (c:TCore) (x:Nat):Nat:=((c.Queue.l.take x).flatMap parts).length
theorem split_at {x:Nat} (hx:x < i) (hi:i≤c.Queue.l.length):∃ C,(c.Queue.l.take i).flatMap parts=((c.Queue.l.take x).flatMap parts++parts (nth c.Queue.l x))++C:=by
 refine ⟨((c.Queue.l.take i).drop (x+1)).flatMap parts,?_⟩
 have h1:(c.Queue.l.take i).take (x+1)=c.Queue.l.take x++[nth c.Queue.l x]:=by
  rw [List.take_take,show min (x+1) i=x+1 by omega,take_nth (by omega)]
 conv=>lhs;rw [←List.take_append_drop (x+1) (c.Queue.l.take i),h1]
 rw [List.flatMap_append,List.flatMap_append,List.flatMap_singleton]
theorem off_next {x:Nat} (hx:x < c.Queue.l.length):off c (x+1)=off c x+(parts (nth c.Queue.l x)).length:=by
 unfold off
 rw [take_nth hx,List.flatMap_append,List.flatMap_singleton,List.length_append]
theorem loop70 (hc:LightC c) (ho:Out c d ns i) (hi:i≤4) {x:Nat} (hx:x < i) (l:Sl 168 TUop) (hl:l.l=parts (nth c.Queue.l x)) (hl2:l.l.length≤2):
  L_law45_PlaceOrder_70 (c,t,d,wi i,wi (c.Rob.l.length+off c x),wi x,l,wi 0,())=some (.inr (c,t,(),d,wi i,wi (c.Rob.l.length+off c (x+1)),wi x,())):=by
 obtain ⟨es,es1,es2,es3⟩:=ho.ord.es
 have h200:=hc.rob
 have hsm:=ho.small
 have hle:=ho.le
 obtain ⟨C,hC⟩:=split_at (c:=c) hx hle
 have hP:((c.Queue.l.take i).flatMap parts).length=off c x+l.l.length+C.length:=by
  rw [hC,List.length_append,List.length_append,hl];rfl
 have hrl:d.Rob.l.length=c.Rob.l.length+(off c x+l.l.length+C.length):=by rw [es1,List.length_append,es2,hP]
 have key:∃ o,L_law45_PlaceOrder_70 (c,t,d,wi i,wi (c.Rob.l.length+off c x),wi x,l,wi 0,())=some o∧o=.inr (c,t,(),d,wi i,wi (c.Rob.l.length+off c (x+1)),wi x,()):=by
  unfold L_law45_PlaceOrder_70
  refine iter_acc (fun j s=>s=(c,t,d,wi i,wi (c.Rob.l.length+off c x+j),wi x,l,wi j,())) l.l.length _ ?_ ?_ rfl (by show _ < 281474976710656;omega)
  ·rintro j s hj rfl
   have hk:c.Rob.l.length+off c x+j < d.Rob.l.length:=by omega
   have g1:W.ge (wi (c.Rob.l.length+off c x+j)) (Sl.len d.Rob)=false:=by
    have:¬ W.ge (wi (c.Rob.l.length+off c x+j)) (Sl.len d.Rob)=true:=by rw [W.ge_n,len_n',wi_n (sm (by omega))];omega
    simpa using this
   have hoj:off c x+j < ((c.Queue.l.take i).flatMap parts).length:=by omega
   obtain ⟨q1,q2,q3⟩:=es3 _ hoj
   have e1:nth d.Rob.l (c.Rob.l.length+off c x+j)=nth es (off c x+j):=by
    rw [es1,Nat.add_assoc,nth_app2 (by rw [es2];exact hoj)]
   have e2:nth ((c.Queue.l.take i).flatMap parts) (off c x+j)=nth l.l j:=by
    rw [hC,nth_app1 (by rw [List.length_append,←hl];show _ < off c x+_;omega)]
    have:=nth_app2 (a:=(c.Queue.l.take x).flatMap parts) (b:=parts (nth c.Queue.l x)) (k:=j) (by rw [←hl];exact hj)
    rw [show ((c.Queue.l.take x).flatMap parts).length=off c x from rfl] at this
    rw [this,hl]
   have e3:W.sub (wi (c.Rob.l.length+off c x+j)) (Sl.len c.Rob)=wi (off c x+j):=by
    rw [Sl.len_wi,sub_wi (by omega) (by omega)]
    congr 1;omega
   simp only [B_law45_PlaceOrder_70,ev_ite,ev_opt,ev_ret,lt_len l hj,if_true,g1,Bool.false_eq_true,if_false,Sl.get_wi d.Rob hk,Sl.get_wi l hj,bind_some',e1,q1,q2,q3,e2,e3,uop_same,Bool.not_true,W.ne_self,wi_next l hj,add_small (show c.Rob.l.length+off c x+j < 1000 by omega)]
   exact ⟨_,rfl,rfl⟩
  ·rintro s rfl
   simp only [B_law45_PlaceOrder_70,ev_ite,ev_ret,lt_end l,Bool.false_eq_true,if_false]
   refine ⟨_,rfl,?_⟩
   rw [off_next (by omega),hl,Nat.add_assoc]
 obtain ⟨o,k1,rfl⟩:=key
 exact k1
theorem loop59 (hc:LightC c) (ho:Out c d ns i) (hi:i≤4):L_law45_PlaceOrder_59 (c,t,d,wi i,wi c.Rob.l.length,wi 0,())=some (.inr (c,t,(),d,wi i,wi (c.Rob.l.length+off c i),())):=by
 have hle:=ho.le
 have key:∃ o,L_law45_PlaceOrder_59 (c,t,d,wi i,wi c.Rob.l.length,wi 0,())=some o∧o=.inr (c,t,(),d,wi i,wi (c.Rob.l.length+off c i),()):=by
  unfold L_law45_PlaceOrder_59
  refine iter_acc (fun x s=>s=(c,t,d,wi i,wi (c.Rob.l.length+off c x),wi x,())) i _ ?_ ?_ (by unfold off;rw [List.take_zero];rfl) (by show _ < 281474976710656;omega)
  ·rintro x s hx rfl
   have hlt:W.lt (wi x) (wi i)=true:=(lt_small (by omega) (by omega)).trans (by simpa using hx)
   obtain ⟨l,l1,l2,l3⟩:=parts_some (nth c.Queue.l x)
   simp only [B_law45_PlaceOrder_59,ev_ite,ev_opt,ev_ret,ev_sum,hlt,if_true,Sl.get_wi c.Queue (show x < c.Queue.l.length by omega),bind_some',l1,show L_law45_PlaceOrder_70 (c,t,d,wi i,wi (c.Rob.l.length+off c x),wi x,l,W.of .i64 0,())=_ from loop70 t hc ho hi hx l l2 l3,Sum.elim_inr,add_small (show x < 1000 by omega)]
   exact ⟨_,rfl,rfl⟩
  ·rintro s rfl
   have hlt:W.lt (wi i) (wi i)=false:=(lt_small (by omega) (by omega)).trans (by simp)
   simp only [B_law45_PlaceOrder_59,ev_ite,ev_ret,hlt,Bool.false_eq_true,if_false]
   exact ⟨_,rfl,rfl⟩
 obtain ⟨o,k1,rfl⟩:=key
 exact k1
end law
theorem wide_ok {c:TConf} (h:okConf c=true):1≤c.Wide.n∧c.Wide.n≤4:=by
 unfold okConf wideB at h
 simp only [Bool.and_eq_true] at h
 have h1:=h.1.1.1.1.1.2
 unfold inB at h1
 rw [Bool.and_eq_true,W.ge_n,W.le_n,show (W.of .i64 1).n=1 from rfl,show (W.of .i64 4).n=4 from rfl] at h1
 exact ⟨by omega,h1.2⟩
theorem placeOrder (c:TCore) (t:TTick):F_law45_PlaceOrder c t=some true:=by
 obtain ⟨b,hL,hl⟩:=light45 c
 unfold F_law45_PlaceOrder T_law45_PlaceOrder
 simp only [ev_opt,ev_ite,ev_ret,ev_sum,hL,bind_some',awake45]
 cases b with
 | false=>rfl
 | true=>
  have hc:=hl rfl
  obtain ⟨r,r1,r2⟩:=broken_some c hc.rob hc.iq hc.lq hc.sq hc.units
  simp only [Bool.not_true,Bool.false_eq_true,if_false,r1,bind_some']
  cases hg:W.gt (Sl.len r) (W.of .i64 0) with
  | true=>rfl
  | false=>
   have hw:=wide_ok (r2 hg)
   obtain ⟨d,ns,i,s1,ho,hi,hS1,hS2⟩:=stage_ord c t hc hw
   obtain ⟨es,es1,es2,_⟩:=ho.ord.es
   have hq:=hc.queue
   have hr:=hc.rob
   have hle:=ho.le
   have hsm:=ho.small
   have hns:=ho.ord.notes
   have hdq:d.Queue.l.length=c.Queue.l.length - i:=by rw [ho.queue,List.length_drop]
   have hdr:d.Rob.l.length=c.Rob.l.length+off c i:=by rw [es1,List.length_append,es2];rfl
   have hoff:off c i≤2*i:=hsm
   have g1:W.sub (Sl.len c.Queue) (Sl.len d.Queue)=wi i:=by
    rw [Sl.len_wi,Sl.len_wi,sub_wi (by omega) (by omega)]
    congr 1;omega
   have g2:W.lt (wi i) (W.of .i64 0)=false:=(lt_small (m:=0) (by omega) (by omega)).trans (by simp)
   have g3:W.gt (wi i) c.Conf.Wide=false:=by
    have:¬ W.gt (wi i) c.Conf.Wide=true:=by rw [W.gt_n,wi_n (sm (by omega))];omega
    simpa using this
   have g4:W.lt (Sl.len d.Rob) (Sl.len c.Rob)=false:=by
    have:¬ W.lt (Sl.len d.Rob) (Sl.len c.Rob)=true:=by rw [W.lt_n,len_n',len_n'];omega
    simpa using this
   have g5:W.ne (Sl.len ns) (W.sub (Sl.len d.Rob) (Sl.len c.Rob))=false:=by
    rw [Sl.len_wi d.Rob,Sl.len_wi c.Rob,sub_wi (by omega) (by omega),Sl.len_wi ns,hns,show d.Rob.l.length - c.Rob.l.length=((c.Queue.l.take i).flatMap parts).length by rw [hdr];show _+off c i - _=off c i;omega,W.ne_self]
   have g6:W.eq (wi (c.Rob.l.length+off c i)) (Sl.len d.Rob)=true:=by rw [Sl.len_wi,hdr,W.eq_self]
   simp only [Bool.false_eq_true,if_false,s1,bind_some',g1,g2,g3,g4,g5,show L_law45_PlaceOrder_21 (c,t,d,wi i,W.of .i64 0,())=_ from loop21 t hc ho,Sum.elim_inr,show L_law45_PlaceOrder_40 (c,t,d,wi i,W.of .i64 0,W.of .i64 0,())=_ from loop40 t hc ho,show L_law45_PlaceOrder_59 (c,t,d,wi i,wi c.Rob.l.length,W.of .i64 0,())=_ from loop59 t hc ho (by omega),g6,if_true]
   cases hS:W.ne (W.and t.Stall (W.of .u32 2)) (W.of .u32 0) with
   | true=>
    have hi0:=hS1 hS
    subst hi0
    simp only [show W.ne (wi 0) (W.of .i64 0)=false from rfl,Bool.false_eq_true,if_false,Bool.not_true,if_true]
   | false=>
    simp only [Bool.not_false,Bool.false_eq_true,if_false,if_true]
    rcases hS2 hS with h | h | ⟨h,l,l1,l2⟩
    ·have e:W.lt (wi i) c.Conf.Wide=false:=by
      have:¬ W.lt (wi i) c.Conf.Wide=true:=by rw [W.lt_n,wi_n (sm (by omega))];omega
      simpa using this
     simp only [e,Bool.false_eq_true,if_false]
    ·have e:W.gt (Sl.len d.Queue) (W.of .i64 0)=false:=by
      have:¬ W.gt (Sl.len d.Queue) (W.of .i64 0)=true:=by rw [W.gt_n,len_n',h,show (W.of .i64 0).n=0 from rfl];simp
      simpa using this
     simp only [e,Bool.false_eq_true,if_false,ite_self]
    ·have hg0:Sl.get? d.Queue (W.of .i64 0)=some (nth d.Queue.l 0):=Sl.get_wi d.Queue (i:=0) h
     simp only [hg0,bind_some',l1,l2,Bool.false_eq_true,if_false,ite_self]
end Go.Proofs.YtkddkpmijhionaaGreatDoor
