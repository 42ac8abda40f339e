/- YtkddkpmijhionaaGreatDoorPurePlaceKeeps: the stage that renames, and puts, keeps a core's rules. No statement of the seat is proved here. -/
import Derived.Test.YtkddkpmijhionaaGreatDoorKeep5
import Derived.Test.YtkddkpmijhionaaGreatDoorSame
set_option linter.unusedSimpArgs false
set_option linter.unusedVariables false
set_option maxRecDepth 100000
namespace Go.Proofs.YtkddkpmijhionaaGreatDoor
open Go Go.A2
theorem awake45:F_law45_awake=some true:=by kernel_rfl
theorem le_of_gt {b:Nat} {α:Type} {s:Sl b α} {k:W .i64}:W.gt (Sl.len s) k=false ↔ (s.l.length:Int)≤k.n:=by
 constructor
 ·intro h
  have:¬ W.gt (Sl.len s) k=true:=by rw [h];simp
  rw [W.gt_n,len_n'] at this;omega
 ·intro h
  have:¬ W.gt (Sl.len s) k=true:=by rw [W.gt_n,len_n'];omega
  simpa using this
theorem len_eq {b b':Nat} {α β:Type} {s:Sl b α} {t:Sl b' β} (h:s.l.length=t.l.length):Sl.len s=Sl.len t:=by rw [Sl.len_wi,Sl.len_wi,h]
structure Bet (nn:Nat) (c d:TCore) (i:Nat):Prop where
 inv:Inv nn d (W.of .i64 0)
 keep:Keep c d
 rooms:Rooms d
 queue:d.Queue.l.length≤c.Queue.l.length
 seq:d.Names.Seq.n≤c.Names.Seq.n+2*i
theorem stage_keep {nn:Nat} (c:TCore) (t:TTick) (hc:LightC c) (hi:Inv nn c (W.of .i64 0)) (hr:Rooms c) (hs:c.Names.Seq.n < 1152921504606846976):∃ d ns i,F_place_Stage c t=some (d,ns)∧Bet nn c d i:=by
 have hw:=wide_ok' hr.conf
 obtain ⟨w,hW,w1,w2⟩:=wi_of (a:=c.Conf.Wide) (lo:=1) (hi:=4) hw.1 hw.2
 have hwn:c.Conf.Wide.n=w:=by rw [hW,wi_n (sm (by omega))]
 have hN:W.min (W.max c.Conf.Wide (W.of .i64 0)) (W.of .i64 4)=wi w:=by
  refine W.ext ?_
  rw [W.min_n,W.max_n,show (W.of .i64 0).n=0 from rfl,show (W.of .i64 4).n=4 from rfl,wi_n (sm (by omega)),hwn]
  split<;>split<;>omega
 have main:∀ t4:TCore,∃ o o':TCore×TCore×Sl 32 TNote×Unit,L_place_Stage_13 (c,t4,Sl.nil,wi w,wi 0,())=some o∧L_place_Stage_13 (c,t4,Sl.nil,wi w,wi 0,())=some o'∧∃ d ns i,o=(d,t4,ns,())∧Bet nn c d i:=fun t4=>by
  unfold L_place_Stage_13
  refine iter_both (fun i s s'=>s'=s∧∃ d ns,s=(d,t4,ns,wi w,wi i,())∧Bet nn c d i∧ns.l.length≤2*i) w (fun o _=>∃ d ns i,o=(d,t4,ns,())∧Bet nn c d i) ?_ ?_ ⟨rfl,c,Sl.nil,rfl,⟨hi,keep_refl c,hr,Nat.le_refl _,by omega⟩,Nat.zero_le _⟩ (by show _ < 281474976710656;omega)
  ·rintro i s s' hi' ⟨rfl,d,ns,rfl,hb,hns⟩
   have hlt:W.lt (wi i) (wi w)=true:=(lt_small (by omega) (by omega)).trans (by simpa using hi')
   have hz:W.eq (Sl.len d.Queue) (W.of .i64 0)=decide (d.Queue.l.length=0):=iff_bool (by rw [W.eq_n,len_n',show (W.of .i64 0).n=0 from rfl,decide_eq_true_eq];omega)
   simp only [B_place_Stage_13,ev_ite,ev_opt,ev_ret,hlt,if_true,hz,decide_eq_true_eq]
   by_cases h0:d.Queue.l.length=0
   ·rw [if_pos h0]
    exact .inr ⟨_,_,rfl,rfl,d,ns,i,rfl,hb⟩
   ·rw [if_neg h0]
    have hpos:0 < d.Queue.l.length:=by omega
    have hg:Sl.get? d.Queue (W.of .i64 0)=some (nth d.Queue.l 0):=Sl.get_wi d.Queue (i:=0) hpos
    obtain ⟨q,hq,hq'⟩:∃ q,Sl.sub? d.Queue 1 (List.length d.Queue.l)=some q∧q.l.length≤d.Queue.l.length:=by
     unfold Sl.sub?
     rw [dif_pos ⟨by omega,Nat.le_refl _⟩]
     refine ⟨_,rfl,?_⟩
     show ((d.Queue.l.take d.Queue.l.length).drop 1).length≤_
     rw [List.take_length,List.length_drop];omega
    obtain ⟨l,l1,_,l3⟩:=parts_some (nth d.Queue.l 0)
    obtain ⟨f,f1,_⟩:=fits_eq d l (by omega)
    simp only [hg,bind_some',l1,f1,hq]
    cases f with
    | false=>
     simp only [Bool.not_false,if_true]
     exact .inr ⟨_,_,rfl,rfl,d,ns,i,rfl,hb⟩
    | true=>
     have hR:=hb.rooms
     obtain ⟨k1,k2,k3,k4⟩:=conf_small hR.conf
     have y1:=le_of_gt.1 hR.rob
     have y2:=le_of_gt.1 hR.iq
     have y3:=le_of_gt.1 hR.lq
     have y4:=le_of_gt.1 hR.sq
     have y5:=le_of_gt.1 hR.queue
     have hsq:=hb.seq
     obtain ⟨d',z,i1,i2,i3⟩:=inner_keep hb.inv hR.conf (by omega) l l3 (shape _ l1) (by omega) (by omega) (by omega) (by omega) f1 ns (by omega) t4 (wi w) (wi i) q
     rw [show L_place_Stage_34 ({ d with Queue:=q },t4,ns,wi w,wi i,l,Sl.len l,W.of .i64 0,())=_ from i1]
     simp only [Bool.not_true,Bool.false_eq_true,if_false,bind_some',add_small (show i < 1000 by omega)]
     have hk:Keep d d':=⟨i2.keep.conf,i2.keep.a,i2.keep.sh,i2.keep.pc,i2.keep.hold,i2.keep.pred,i2.keep.tlb,i2.keep.sb,i2.keep.units,i2.keep.dep,i2.keep.val,i2.keep.ready,i2.keep.done⟩
     have z1:(d'.Rob.l.length:Int)+(l.l.length - l.l.length)≤d.Conf.Rob.n:=i2.rob
     have z2:(d'.Iq.l.length:Int)+cnt pWaits (l.l.drop l.l.length)≤d.Conf.Iq.n:=i2.iq
     have z3:(d'.Lq.l.length:Int)+cnt (pUnit (W.of .i64 5)) (l.l.drop l.l.length)≤d.Conf.Lq.n:=i2.lq
     have z4:(d'.Sq.l.length:Int)+cnt (pUnit (W.of .i64 6)) (l.l.drop l.l.length)≤d.Conf.Sq.n:=i2.sq
     have z5:d'.Names.Seq.n=d.Names.Seq.n+l.l.length:=i2.seq
     have z6:d'.Queue=q:=i2.queue
     have hinv:Inv nn d' (W.of .i64 0):=by
      have:=i2.inv
      rwa [(shape_pt (shape _ l1)).2] at this
     have hrm:Rooms d':=by
      refine ⟨by rw [hk.conf];exact hR.conf,?_,?_,?_,?_,?_,by rw [hk.conf,hk.sb];exact hR.sb,?_,?_,by rw [hk.conf,hk.tlb];exact hR.tlb,by rw [hk.conf,hk.dep];exact hR.dep⟩
      ·rw [le_of_gt,hk.conf,z6];omega
      ·rw [le_of_gt,hk.conf];omega
      ·rw [le_of_gt,hk.conf];omega
      ·rw [le_of_gt,hk.conf];omega
      ·rw [le_of_gt,hk.conf];omega
      ·rw [hk.conf,len_eq hk.val];exact hR.val
      ·rw [hk.conf,len_eq hk.ready];exact hR.ready
     exact .inl ⟨_,_,rfl,rfl,rfl,d',z,rfl,⟨hinv,keep_trans hb.keep hk,hrm,by rw [z6];exact Nat.le_trans hq' hb.queue,by omega⟩,by omega⟩
  ·rintro s s' ⟨rfl,d,ns,rfl,hb,hns⟩
   have hlt:W.lt (wi w) (wi w)=false:=(lt_small (by omega) (by omega)).trans (by simp)
   simp only [B_place_Stage_13,ev_ite,ev_ret,hlt,Bool.false_eq_true,if_false]
   exact ⟨_,_,rfl,rfl,d,ns,w,rfl,hb⟩
 unfold F_place_Stage T_place_Stage
 simp only [ev_opt,ev_ite,ev_ret,hN]
 cases hS:W.ne (W.and t.Stall (W.of .u32 2)) (W.of .u32 0) with
 | true=>exact ⟨c,Sl.nil,0,rfl,hi,keep_refl c,hr,Nat.le_refl _,by omega⟩
 | false=>
  simp only [Bool.false_eq_true,if_false]
  obtain ⟨o,_,k1,_,d,ns,i,rfl,hb⟩:=main (TCore.mk (TConf.mk (W.of .i64 0) (W.of .i64 0) (W.of .i64 0) (W.of .i64 0) (W.of .i64 0) (W.of .i64 0) (W.of .i64 0) (W.of .i64 0) (W.of .i64 0) (W.of .i64 0) (W.of .i64 0) (W.of .i64 0) (W.of .i64 0) (W.of .i64 0) (W.of .i64 0) (W.of .i64 0) (W.of .i64 0) (W.of .i64 0) (W.of .i64 0) (W.of .i64 0) (W.of .i64 0) false) (TArch.mk (W.of .u32 0) (Arr.rep 16 (W.of .u32 0)) (Arr.rep 12 (W.of .u32 0)) false) Sl.nil Sl.nil (W.of .u32 0) false (TPred.mk (W.of .u32 0) Sl.nil Sl.nil (W.of .i64 0) Sl.nil (W.of .i64 0)) Sl.nil (W.of .i64 0) Sl.nil (TNames.mk (Arr.rep 16 (W.of .i64 0)) (Arr.rep 16 (W.of .i64 0)) (TFree.mk Sl.nil (W.of .i64 0) (W.of .i64 0)) (W.of .u64 0)) (TPhys.mk Sl.nil Sl.nil) Sl.nil Sl.nil Sl.nil Sl.nil Sl.nil Sl.nil Sl.nil (W.of .i64 0) (W.of .i64 0))
  rw [show L_place_Stage_13 (c,_,Sl.nil,wi w,W.of .i64 0,())=_ from k1]
  exact ⟨d,ns,i,rfl,hb⟩
theorem len_fuel {b:Nat} {α:Type} (s:Sl b α):s.l.length < fuel:=by
 have:=s.h.2
 unfold room at this
 show _ < 281474976710656
 omega
theorem placeKeeps (c:TCore) (t:TTick):F_law45_PlaceKeeps c t=some true:=by
 obtain ⟨b,hL,hl⟩:=light45 c
 unfold F_law45_PlaceKeeps T_law45_PlaceKeeps
 simp only [ev_opt,ev_ite,ev_ret,hL,bind_some',awake45]
 cases b with
 | false=>rfl
 | true=>
  have hc:=hl rfl
  simp only [Bool.not_true,Bool.false_eq_true,if_false]
  cases h1:W.lt c.Names.Seq (W.of .u64 1) with
  | true=>rfl
  | false=>
  cases h2:W.ge c.Names.Seq (W.of .u64 1152921504606846976) with
  | true=>rfl
  | false=>
   have hs1:1≤c.Names.Seq.n:=by
    have:¬ W.lt c.Names.Seq (W.of .u64 1)=true:=by rw [h1];simp
    rw [W.lt_n,show (W.of .u64 1).n=1 from rfl] at this;omega
   have hs2:c.Names.Seq.n < 1152921504606846976:=by
    have:¬ W.ge c.Names.Seq (W.of .u64 1152921504606846976)=true:=by rw [h2];simp
    rw [W.ge_n,show (W.of .u64 1152921504606846976).n=1152921504606846976 from rfl] at this;omega
   have q1:=hc.rob
   have q2:=hc.iq
   have q3:=hc.lq
   have q4:=hc.sq
   have q5:=hc.units
   obtain ⟨r,r1,r2,_⟩:=broken_good c (by omega) (by omega) (by omega) (by omega) (by omega)
   simp only [Bool.false_eq_true,if_false,r1,bind_some']
   cases hg:W.gt (Sl.len r) (W.of .i64 0) with
   | true=>rfl
   | false=>
    have hr0:r.l=[]:=by
     have:=le_of_gt.1 hg
     rw [show (W.of .i64 0).n=0 from rfl] at this
     exact List.length_eq_zero_iff.1 (by omega)
    obtain ⟨nn,hG⟩:=r2 hr0
    obtain ⟨d,ns,i,e1,hb⟩:=stage_keep c t hc (good_inv hG hs1) hG.rooms hs2
    have hk:=hb.keep
    have hR:=hb.rooms
    obtain ⟨k1,k2,k3,k4⟩:=conf_small hR.conf
    have y1:=le_of_gt.1 hR.rob
    have y2:=le_of_gt.1 hR.iq
    have y3:=le_of_gt.1 hR.lq
    have y4:=le_of_gt.1 hR.sq
    have hGd:Good d nn:=inv_good hb.inv hR (by rw [hk.conf];exact hG.phys) (by rw [hk.a];exact hG.clean)
    obtain ⟨x,x1,_,x3⟩:=broken_good d (by omega) (by omega) (by omega) (by omega) (by rw [hk.units];omega)
    have hx:=x3 ⟨nn,hGd⟩
    have hxl:W.eq (Sl.len x) (W.of .i64 0)=true:=by rw [Sl.len_wi,hx];rfl
    have a1:Tab.eq tab (.named .TArch) c.A c.A=true:=(eq_iff (X:=tab) tabOk (by rfl)).2 rfl
    have a2:Tab.eq tab (.arr 16 (.int .i64)) c.Names.Done c.Names.Done=true:=(eq_iff (X:=tab) tabOk (by rfl)).2 rfl
    have a3:F_same_Pred c.Pred c.Pred=some true:=by
     unfold F_same_Pred T_same_Pred
     simp only [ev_opt,ev_ite,ev_ret,W.eq_self,if_true,bind_some',self_same_Bytes _ (len_fuel _),self_same_Words _ (len_fuel _),self_same_Btbs _ (len_fuel _)]
    simp only [Bool.false_eq_true,if_false,e1,bind_some',hk.a,hk.pc,hk.hold,hk.done,hk.sb,hk.units,hk.pred,hk.sh,a1,a2,a3,W.ne_self,beqB_self,Bool.not_true,self_same_Sbs _ (len_fuel _),self_same_Flights _ (len_fuel _),self_same_Bytes _ (len_fuel _),x1,hxl,if_true]
end Go.Proofs.YtkddkpmijhionaaGreatDoor
