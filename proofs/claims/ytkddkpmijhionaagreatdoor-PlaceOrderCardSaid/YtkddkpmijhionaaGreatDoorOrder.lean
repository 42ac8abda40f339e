/- YtkddkpmijhionaaGreatDoorOrder: the stage that renames, and puts, in a core that keeps its rules. No statement of the seat is proved here. -/
import Derived.Test.YtkddkpmijhionaaGreatDoorStage
import Derived.Test.YtkddkpmijhionaaGreatDoorBrok
set_option linter.unusedSimpArgs false
set_option linter.unusedVariables false
set_option maxRecDepth 100000
namespace Go.Proofs.YtkddkpmijhionaaGreatDoor
open Go Go.A2
structure Grow4 (c d:TCore):Prop where
 iq:d.Iq.l.length≤c.Iq.l.length+1
 lq:d.Lq.l.length≤c.Lq.l.length+1
 sq:d.Sq.l.length≤c.Sq.l.length+1
 queue:d.Queue=c.Queue
 conf:d.Conf=c.Conf
theorem put_more (c:TCore) (u:TUop) (h2:c.Iq.l.length≤1000) (h3:c.Lq.l.length≤1000) (h4:c.Sq.l.length≤1000) {s':TNames} {r':TRen} {okr:Bool} {x:Sl 248 TRob} {ok:Bool} (e1:F_rename_One c.Names u=some (s',r',okr)) (x1:F_rob_Put c.Rob r' c.Conf.Rob=some (x,ok)):
  ∃ r,F_place_put c u=some r∧Grow4 c r.1∧r.1.Names=s'∧r.1.Rob=if ok=true then x else c.Rob:=by
 obtain ⟨l,okl,l1,l2,l3⟩:=lq_put c.Lq h3 r'.Seq u.Slot.PC c.Conf.Lq
 obtain ⟨q,okq,q1,q2,q3⟩:=sq_put c.Sq h4 r'.Seq c.Conf.Sq
 obtain ⟨g,g1,g2⟩:=prf_drop c.Phys r'.Out
 have hW:W.eq u.Unit (W.of .i64 5)=true→W.eq u.Unit (W.of .i64 6)=false:=fun h=>by
  rw [W.eq_dec,decide_eq_true_eq] at h
  rw [h];rfl
 unfold F_place_put T_place_put
 simp only [ev_opt,ev_ite,ev_ret,e1,bind_some',x1,kept_rob,kept_iq,kept_lq,kept_sq,waits_p,pWaits]
 have k1:=Nat.le_succ c.Iq.l.length
 have k2:=Nat.le_succ c.Lq.l.length
 have k3:=Nat.le_succ c.Sq.l.length
 cases ok with
 | true=>
  simp only [if_true]
  cases W.ne u.Unit (W.of .i64 7) with
  | true=>
   simp only [if_true]
   obtain ⟨rd,rd1,rd2⟩:=ready_eq { c with Names:=s',Rob:=x } u (TCore.mk (TConf.mk (W.of .i64 0) (W.of .i64 0) (W.of .i64 0) (W.of .i64 0) (W.of .i64 0) (W.of .i64 0) (W.of .i64 0) (W.of .i64 0) (W.of .i64 0) (W.of .i64 0) (W.of .i64 0) (W.of .i64 0) (W.of .i64 0) (W.of .i64 0) (W.of .i64 0) (W.of .i64 0) (W.of .i64 0) (W.of .i64 0) (W.of .i64 0) (W.of .i64 0) (W.of .i64 0) false) (TArch.mk (W.of .u32 0) (Arr.rep 16 (W.of .u32 0)) (Arr.rep 12 (W.of .u32 0)) false) Sl.nil Sl.nil (W.of .u32 0) false (TPred.mk (W.of .u32 0) Sl.nil Sl.nil (W.of .i64 0) Sl.nil (W.of .i64 0)) Sl.nil (W.of .i64 0) Sl.nil (TNames.mk (Arr.rep 16 (W.of .i64 0)) (Arr.rep 16 (W.of .i64 0)) (TFree.mk Sl.nil (W.of .i64 0) (W.of .i64 0)) (W.of .u64 0)) (TPhys.mk Sl.nil Sl.nil) Sl.nil Sl.nil Sl.nil Sl.nil Sl.nil Sl.nil Sl.nil (W.of .i64 0) (W.of .i64 0)) c (TNote.mk (W.of .i64 0) (W.of .i64 0) (W.of .u64 0) (W.of .u32 0)) default r' c.Conf u.Slot.PC
   obtain ⟨y,oky,y1,y2,y3⟩:=iq_put c.Iq h2 r' rd c.Conf.Iq
   rw [show L_place_put_19 ({ c with Names:=s',Rob:=x },u,_,_,r',c.Conf,u.Slot.PC,Arr.rep 3 false,r'.In,W.of .i64 0,())=_ from rd1]
   simp only [bind_some',y1,y2,g1,g2]
   cases h5:W.eq u.Unit (W.of .i64 5) with
   | true=>
    simp only [hW h5,Bool.false_eq_true,if_false,if_true,l1,l2,bind_some']
    cases oky<;>cases okl<;>exact ⟨_,rfl,⟨by first | exact y3 | exact k1,by first | exact l3 | exact k2,k3,rfl,rfl⟩,rfl,rfl⟩
   | false=>
    simp only [Bool.false_eq_true,if_false]
    cases W.eq u.Unit (W.of .i64 6) with
    | true=>
     simp only [if_true,q1,q2,bind_some']
     cases oky<;>cases okq<;>exact ⟨_,rfl,⟨by first | exact y3 | exact k1,k2,by first | exact q3 | exact k3,rfl,rfl⟩,rfl,rfl⟩
    | false=>
     simp only [Bool.false_eq_true,if_false]
     cases oky<;>exact ⟨_,rfl,⟨by first | exact y3 | exact k1,k2,k3,rfl,rfl⟩,rfl,rfl⟩
  | false=>
   simp only [Bool.false_eq_true,if_false,g1,g2,bind_some']
   cases h5:W.eq u.Unit (W.of .i64 5) with
   | true=>
    simp only [hW h5,Bool.false_eq_true,if_false,if_true,l1,l2,bind_some']
    cases okl<;>exact ⟨_,rfl,⟨k1,by first | exact l3 | exact k2,k3,rfl,rfl⟩,rfl,rfl⟩
   | false=>
    simp only [Bool.false_eq_true,if_false]
    cases W.eq u.Unit (W.of .i64 6) with
    | true=>
     simp only [if_true,q1,q2,bind_some']
     cases okq<;>exact ⟨_,rfl,⟨k1,k2,by first | exact q3 | exact k3,rfl,rfl⟩,rfl,rfl⟩
    | false=>exact ⟨_,rfl,⟨k1,k2,k3,rfl,rfl⟩,rfl,rfl⟩
 | false=>
  simp only [Bool.false_eq_true,if_false]
  cases W.ne u.Unit (W.of .i64 7) with
  | true=>
   simp only [if_true]
   obtain ⟨rd,rd1,rd2⟩:=ready_eq { c with Names:=s' } u (TCore.mk (TConf.mk (W.of .i64 0) (W.of .i64 0) (W.of .i64 0) (W.of .i64 0) (W.of .i64 0) (W.of .i64 0) (W.of .i64 0) (W.of .i64 0) (W.of .i64 0) (W.of .i64 0) (W.of .i64 0) (W.of .i64 0) (W.of .i64 0) (W.of .i64 0) (W.of .i64 0) (W.of .i64 0) (W.of .i64 0) (W.of .i64 0) (W.of .i64 0) (W.of .i64 0) (W.of .i64 0) false) (TArch.mk (W.of .u32 0) (Arr.rep 16 (W.of .u32 0)) (Arr.rep 12 (W.of .u32 0)) false) Sl.nil Sl.nil (W.of .u32 0) false (TPred.mk (W.of .u32 0) Sl.nil Sl.nil (W.of .i64 0) Sl.nil (W.of .i64 0)) Sl.nil (W.of .i64 0) Sl.nil (TNames.mk (Arr.rep 16 (W.of .i64 0)) (Arr.rep 16 (W.of .i64 0)) (TFree.mk Sl.nil (W.of .i64 0) (W.of .i64 0)) (W.of .u64 0)) (TPhys.mk Sl.nil Sl.nil) Sl.nil Sl.nil Sl.nil Sl.nil Sl.nil Sl.nil Sl.nil (W.of .i64 0) (W.of .i64 0)) c (TNote.mk (W.of .i64 0) (W.of .i64 0) (W.of .u64 0) (W.of .u32 0)) default r' c.Conf u.Slot.PC
   obtain ⟨y,oky,y1,y2,y3⟩:=iq_put c.Iq h2 r' rd c.Conf.Iq
   rw [show L_place_put_19 ({ c with Names:=s',Rob:=c.Rob },u,_,_,r',c.Conf,u.Slot.PC,Arr.rep 3 false,r'.In,W.of .i64 0,())=_ from rd1]
   simp only [bind_some',y1,y2,g1,g2]
   cases h5:W.eq u.Unit (W.of .i64 5) with
   | true=>
    simp only [hW h5,Bool.false_eq_true,if_false,if_true,l1,l2,bind_some']
    cases oky<;>cases okl<;>exact ⟨_,rfl,⟨by first | exact y3 | exact k1,by first | exact l3 | exact k2,k3,rfl,rfl⟩,rfl,rfl⟩
   | false=>
    simp only [Bool.false_eq_true,if_false]
    cases W.eq u.Unit (W.of .i64 6) with
    | true=>
     simp only [if_true,q1,q2,bind_some']
     cases oky<;>cases okq<;>exact ⟨_,rfl,⟨by first | exact y3 | exact k1,k2,by first | exact q3 | exact k3,rfl,rfl⟩,rfl,rfl⟩
    | false=>
     simp only [Bool.false_eq_true,if_false]
     cases oky<;>exact ⟨_,rfl,⟨by first | exact y3 | exact k1,k2,k3,rfl,rfl⟩,rfl,rfl⟩
  | false=>
   simp only [Bool.false_eq_true,if_false,g1,g2,bind_some']
   cases h5:W.eq u.Unit (W.of .i64 5) with
   | true=>
    simp only [hW h5,Bool.false_eq_true,if_false,if_true,l1,l2,bind_some']
    cases okl<;>exact ⟨_,rfl,⟨k1,by first | exact l3 | exact k2,k3,rfl,rfl⟩,rfl,rfl⟩
   | false=>
    simp only [Bool.false_eq_true,if_false]
    cases W.eq u.Unit (W.of .i64 6) with
    | true=>
     simp only [if_true,q1,q2,bind_some']
     cases okq<;>exact ⟨_,rfl,⟨k1,k2,by first | exact q3 | exact k3,rfl,rfl⟩,rfl,rfl⟩
    | false=>exact ⟨_,rfl,⟨k1,k2,k3,rfl,rfl⟩,rfl,rfl⟩
def freeN (f:TFree):Nat:=if ringB f=true then f.N.n.toNat else 0
theorem take_some (f:TFree) (h:0 < freeN f):∃ g p,F_freel_Take f=some (g,p,true)∧freeN g=freeN f - 1:=by
 unfold freeN at h
 have hB:ringB f=true:=by
  cases hb:ringB f with
  | true=>rfl
  | false=>rw [hb] at h;simp at h
 rw [if_pos hB] at h
 have hk:=ringOk hB
 have h0:¬ f.N=W.of .i64 0:=fun hh=>by rw [hh] at h;exact absurd h (by decide)
 have h1:=hk.n0
 have h2:=hk.n1
 have h3:=hk.len
 have h4:=hk.h0
 have h5:=hk.h1
 have hlen:0 < f.Ring.l.length:=by omega
 have e0:F_freel_ring_at f (W.of .i64 0)=some f.Head:=by
  have:=core_place' hk (k:=0) (by decide) hlen
  rw [Nat.add_zero,Nat.mod_eq_of_lt (by omega),←of_small h4] at this
  exact this
 have e1:=core_place' hk (k:=1) (by decide) hlen
 have hm:=Nat.mod_lt (f.Head.n.toNat+1) hlen
 have hn:(W.sub f.N (W.of .i64 1)).n=f.N.n - 1:=by
  rw [W.sub_n,show (W.of .i64 1).n=1 from rfl,wrap_i64];omega
 refine ⟨{ f with Head:=wi ((f.Head.n.toNat+1) % f.Ring.l.length),N:=W.sub f.N (W.of .i64 1) },nth f.Ring.l f.Head.n.toNat,?_,?_⟩
 ·unfold F_freel_Take T_freel_Take
  simp only [ev_opt,ev_ite,ev_ret,core_ring,hB,bind_some',Bool.not_true,Bool.false_eq_true,if_false,W.eq_dec,h0,decide_false,e0,get_at f.Ring h4 (show f.Head.n < _ by omega),show F_freel_ring_at f (W.of .i64 1)=_ from e1]
 ·have hB':ringB { f with Head:=wi ((f.Head.n.toNat+1) % f.Ring.l.length),N:=W.sub f.N (W.of .i64 1) }=true:=by
   unfold ringB
   rw [decide_eq_true_eq]
   simp only [hn,wi_n (sm (show (f.Head.n.toNat+1) % f.Ring.l.length≤1000 by omega))]
   omega
  unfold freeN
  rw [if_pos hB',if_pos hB]
  simp only [hn]
  omega
theorem rename_ok (s:TNames) (u:TUop) (h:pWrites u=true→0 < freeN s.Free):∃ s' r,F_rename_One s u=some (s',r,true)∧r.Uop=u∧r.Seq=s.Seq∧s'.Seq=W.add s.Seq (W.of .u64 1)∧freeN s'.Free=freeN s.Free - (if pWrites u=true then 1 else 0):=by
 have main:∀ (t4:TNames) (t5 r0:TRen),∃ r,L_rename_One_7 (s,u,t4,t5,r0,u.Src,wi 0,())=some (s,u,t4,t5,r,())∧r.Uop=r0.Uop∧r.Seq=r0.Seq:=fun t4 t5 r0=>by
  have key:∃ o,L_rename_One_7 (s,u,t4,t5,r0,u.Src,wi 0,())=some o∧∃ r,o=(s,u,t4,t5,r,())∧r.Uop=r0.Uop∧r.Seq=r0.Seq:=by
   unfold L_rename_One_7
   refine iter_acc (fun i a=>∃ r,a=(s,u,t4,t5,r,u.Src,wi i,())∧r.Uop=r0.Uop∧r.Seq=r0.Seq) 3 _ ?_ ?_ ⟨r0,rfl,rfl,rfl⟩ (by decide)
   ·rintro i a hi ⟨r,rfl,k1,k2⟩
    have hlt:W.lt (wi i) (W.of .i64 3)=true:=(lt_small (m:=3) (by omega) (by omega)).trans (by simpa using hi)
    obtain ⟨v,v1,_⟩:=rat_get s.Map (u.Src.get i)
    simp only [B_rename_One_7,ev_ite,ev_opt,ev_ret,hlt,if_true,wi_idx (sm (show i≤1000 by omega)),hi,bind_some',v1,add_small (show i < 1000 by omega)]
    exact ⟨_,rfl,_,rfl,k1,k2⟩
   ·rintro a ⟨r,rfl,k1,k2⟩
    exact ⟨_,rfl,r,rfl,k1,k2⟩
  obtain ⟨o,k1,r,rfl,k2,k3⟩:=key
  exact ⟨r,k1,k2,k3⟩
 unfold F_rename_One T_rename_One
 simp only [ev_opt,ev_ite,ev_ret]
 obtain ⟨r,k1,k2,k3⟩:=main (TNames.mk (Arr.rep 16 (W.of .i64 0)) (Arr.rep 16 (W.of .i64 0)) (TFree.mk Sl.nil (W.of .i64 0) (W.of .i64 0)) (W.of .u64 0)) (TRen.mk (TUop.mk (TInst.mk (W.of .i64 0) (W.of .i64 0) (W.of .i64 0) (W.of .i64 0) (W.of .i64 0)) (TSlot.mk (W.of .u32 0) (W.of .u32 0) (W.of .i64 0) (W.of .u32 0) (TGuess.mk false (W.of .u32 0) (TSave.mk (W.of .u32 0) (W.of .i64 0) (W.of .u32 0)))) (W.of .i64 0) (W.of .i64 0) false (Arr.rep 3 (W.of .i64 0)) (W.of .i64 0) (W.of .i64 0) (W.of .u32 0)) (W.of .u64 0) (Arr.rep 3 (W.of .i64 0)) (W.of .i64 0) (W.of .i64 0)) (TRen.mk u s.Seq (Arr.rep 3 (W.of .i64 0)) (W.of .i64 (-1)) (W.of .i64 (-1)))
 rw [show L_rename_One_7 (s,u,_,_,_,u.Src,W.of .i64 0,())=_ from k1]
 simp only [bind_some',(writes_r u).1]
 cases hw:pWrites u with
 | false=>
  simp only [Bool.false_eq_true,if_false]
  exact ⟨_,_,rfl,k2,k3,rfl,rfl⟩
 | true=>
  obtain ⟨g,p,t1,t2⟩:=take_some s.Free (h hw)
  obtain ⟨v,v1,_⟩:=rat_get s.Map u.Dst
  obtain ⟨q,q1,_⟩:=rat_set s.Map u.Dst p
  simp only [if_true,t1,bind_some',Bool.not_true,Bool.false_eq_true,if_false,v1,q1]
  exact ⟨_,_,rfl,k2,k3,rfl,t2⟩
def EntOk (s:W .u64) (P:List TUop) (es:List TRob):Prop:=es.length=P.length∧∀ k,k < P.length→(nth es k).Ren.Uop=nth P k∧(nth es k).Done=false∧(nth es k).Ren.Seq=W.add s (W.conv .u64 (wi k))
structure Ord (c d:TCore) (P:List TUop) (ns:Sl 32 TNote):Prop where
 es:∃ es,d.Rob.l=c.Rob.l++es∧EntOk c.Names.Seq P es
 seq:d.Names.Seq=W.add c.Names.Seq (W.conv .u64 (wi P.length))
 notes:ns.l.length=P.length
 conf:d.Conf=c.Conf
 iq:d.Iq.l.length≤c.Iq.l.length+P.length
 lq:d.Lq.l.length≤c.Lq.l.length+P.length
 sq:d.Sq.l.length≤c.Sq.l.length+P.length
theorem seq_next (s:W .u64) {k:Nat} (hk:k≤900):W.add (W.add s (W.conv .u64 (wi k))) (W.of .u64 1)=W.add s (W.conv .u64 (wi (k+1))):=by
 have h1:(wi k).n=k:=wi_n (sm (by omega))
 have h2:(wi (k+1)).n=((k+1:Nat):Int):=wi_n (sm (by omega))
 refine W.ext ?_
 rw [W.add_n,W.add_n,W.add_n,W.conv_n,W.conv_n,h1,h2,show (W.of .u64 1).n=1 from rfl,wrap_u64,wrap_u64,wrap_u64,wrap_u64,wrap_u64]
 omega
theorem nth_app1 {α:Type} [Inhabited α] {a b:List α} {k:Nat} (h:k < a.length):nth (a++b) k=nth a k:=by
 rw [nth_elem (by rw [List.length_append];omega),nth_elem h,List.getElem_append_left h]
theorem nth_app2 {α:Type} [Inhabited α] {a b:List α} {k:Nat} (h:k < b.length):nth (a++b) (a.length+k)=nth b k:=by
 rw [nth_elem (by rw [List.length_append];omega),nth_elem h,List.getElem_append_right (by omega)]
 congr 1;omega
theorem ent_snoc {s:W .u64} {P:List TUop} {es:List TRob} (h:EntOk s P es) {u:TUop} {e:TRob} (h1:e.Ren.Uop=u) (h2:e.Done=false) (h3:e.Ren.Seq=W.add s (W.conv .u64 (wi P.length))):EntOk s (P++[u]) (es++[e]):=by
 obtain ⟨hl,hh⟩:=h
 refine ⟨by rw [List.length_append,List.length_append,hl];rfl,fun k hk=>?_⟩
 rw [List.length_append] at hk
 by_cases c:k < P.length
 ·rw [nth_app1 (by omega),nth_app1 c];exact hh k c
 ·have:k=P.length:=by
   have:[u].length=1:=rfl
   omega
  subst this
  have e1:nth (es++[e]) P.length=e:=by
   have:=nth_app2 (a:=es) (b:=[e]) (k:=0) (by simp)
   rw [Nat.add_zero,hl] at this;exact this
  have e2:nth (P++[u]) P.length=u:=by
   have:=nth_app2 (a:=P) (b:=[u]) (k:=0) (by simp)
   rw [Nat.add_zero] at this;exact this
  rw [e1,e2];exact ⟨h1,h2,h3⟩
theorem put_ord {c d:TCore} {P:List TUop} {ns:Sl 32 TNote} (h:Ord c d P ns) (hP:P.length≤100) (b1:c.Rob.l.length≤200) (b2:c.Iq.l.length≤200) (b3:c.Lq.l.length≤200) (b4:c.Sq.l.length≤200) (u:TUop) (hroom:(d.Rob.l.length:Int) < d.Conf.Rob.n) (hw:pWrites u=true→0 < freeN d.Names.Free):
  ∃ d' n z,F_place_put d u=some (d',n)∧Sl.app? ns (Sl.lit 32 [n] rfl)=some z∧Ord c d' (P++[u]) z∧d'.Queue=d.Queue∧freeN d'.Names.Free=freeN d.Names.Free - (if pWrites u=true then 1 else 0)∧d'.Rob.l.length=d.Rob.l.length+1:=by
 obtain ⟨s',r,e1,e2,e3,e4,e5⟩:=rename_ok d.Names u hw
 obtain ⟨es,es1,es2⟩:=h.es
 have hlen:d.Rob.l.length=c.Rob.l.length+P.length:=by rw [es1,List.length_append,es2.1]
 obtain ⟨z,z1,z2⟩:=app_lit (s:=d.Rob) (x:=TRob.mk r false (W.of .u32 0) (W.of .u32 0) r.Uop.Cause r.Uop.Tval false) (hb:=rfl) (by unfold room;omega) (by unfold room;omega)
 have hp:F_rob_Put d.Rob r d.Conf.Rob=some (z,true):=by
  have hg:W.ge (Sl.len d.Rob) d.Conf.Rob=false:=by
   have:¬ W.ge (Sl.len d.Rob) d.Conf.Rob=true:=by rw [W.ge_n,len_n'];omega
   simpa using this
  unfold F_rob_Put T_rob_Put F_slices_Clone_Rob
  simp only [ev_opt,ev_ite,ev_ret,hg,Bool.false_eq_true,if_false,bind_some',z1]
 have i1:=h.iq
 have i2:=h.lq
 have i3:=h.sq
 have i4:=h.notes
 obtain ⟨⟨d',n⟩,p1,p2,p3,p4⟩:=put_more d u (by omega) (by omega) (by omega) e1 hp
 obtain ⟨y,y1,y2⟩:=app_lit (s:=ns) (x:=n) (hb:=rfl) (by unfold room;omega) (by unfold room;omega)
 rw [if_pos rfl] at p4
 have q1:d'.Iq.l.length≤d.Iq.l.length+1:=p2.iq
 have q2:d'.Lq.l.length≤d.Lq.l.length+1:=p2.lq
 have q3:d'.Sq.l.length≤d.Sq.l.length+1:=p2.sq
 have hPl:(P++[u]).length=P.length+1:=by rw [List.length_append];rfl
 refine ⟨d',n,y,p1,y1,⟨⟨es++[TRob.mk r false (W.of .u32 0) (W.of .u32 0) r.Uop.Cause r.Uop.Tval false],?_,ent_snoc es2 e2 rfl (by show r.Seq=_;rw [e3,h.seq])⟩,?_,?_,p2.conf.trans h.conf,by rw [hPl];omega,by rw [hPl];omega,by rw [hPl];omega⟩,p2.queue,by rw [p3];exact e5,?_⟩
 ·rw [p4,z2,es1,List.append_assoc]
 ·rw [p3,e4,h.seq,hPl,seq_next _ (by omega)]
 ·rw [y2,List.length_append,i4,hPl];rfl
 ·rw [p4,z2,List.length_append];rfl
end Go.Proofs.YtkddkpmijhionaaGreatDoor
