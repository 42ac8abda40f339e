/- YtkddkpmijhionaaGreatDoorKeep5: a core keeps its rules behind the stage that renames, and puts. No statement of the seat is proved here. -/
import Derived.Test.YtkddkpmijhionaaGreatDoorKeep4
set_option linter.unusedSimpArgs false
set_option linter.unusedVariables false
set_option maxRecDepth 100000
namespace Go.Proofs.YtkddkpmijhionaaGreatDoor
open Go Go.A2
structure Keep (c d:TCore):Prop where
 conf:d.Conf=c.Conf
 a:d.A=c.A
 sh:d.Shadow=c.Shadow
 pc:d.PC=c.PC
 hold:d.Hold=c.Hold
 pred:d.Pred=c.Pred
 tlb:d.Tlb=c.Tlb
 sb:d.Sb=c.Sb
 units:d.Units=c.Units
 dep:d.Dep=c.Dep
 val:d.Phys.Val.l.length=c.Phys.Val.l.length
 ready:d.Phys.Ready.l.length=c.Phys.Ready.l.length
 done:d.Names.Done=c.Names.Done
theorem keep_refl (c:TCore):Keep c c:=⟨rfl,rfl,rfl,rfl,rfl,rfl,rfl,rfl,rfl,rfl,rfl,rfl,rfl⟩
theorem keep_trans {c d e:TCore} (h:Keep c d) (k:Keep d e):Keep c e:=⟨k.conf.trans h.conf,k.a.trans h.a,k.sh.trans h.sh,k.pc.trans h.pc,k.hold.trans h.hold,k.pred.trans h.pred,k.tlb.trans h.tlb,k.sb.trans h.sb,k.units.trans h.units,k.dep.trans h.dep,k.val.trans h.val,k.ready.trans h.ready,k.done.trans h.done⟩
theorem drop_len {f g:TPhys} {p:W .i64} (h:F_prf_Drop f p=some g):g.Val=f.Val∧g.Ready.l.length=f.Ready.l.length:=by
 have:W.add p (W.of .i64 1) ≠ p:=fun hh=>by
  have:=congrArg W.n hh
  have hr:=p.r_i64
  rw [W.add_n,show (W.of .i64 1).n=1 from rfl,wrap_i64] at this
  omega
 exact (get_drop h this).2
theorem put_keep {c d:TCore} {u:TUop} {s':TNames} {r:TRen} (hR:Renamed c.Names u s' r) (hP:PutD c u s' r d):Keep c d:=by
 obtain ⟨h1,h2⟩:=drop_len hP.phys
 exact ⟨hP.conf,hP.a,hP.sh,hP.pc,hP.hold,hP.pred,hP.tlb,hP.sb,hP.units,hP.dep,by rw [h1],h2,by rw [hP.names,hR.done]⟩
theorem freeN_ring {f:TFree} (h:ringB f=true):freeN f=(ringL f).length:=by
 unfold freeN
 rw [if_pos h,(ringL_len (ringOk h)).2]
theorem free_next {s s':TNames} {u:TUop} {r:TRen} (hR:Renamed s u s' r) (h:pWrites u=true→0 < freeN s.Free):freeN s'.Free=freeN s.Free - if pWrites u=true then 1 else 0:=by
 cases hw:pWrites u with
 | false=>rw [(hR.no hw).2.1];simp
 | true=>
  obtain ⟨p,p1,p2,_⟩:=hR.yes hw
  have h0:=h hw
  have hB:ringB s.Free=true:=by
   cases hb:ringB s.Free with
   | true=>rfl
   | false=>unfold freeN at h0;rw [hb] at h0;simp at h0
  rw [freeN_ring p2,freeN_ring hB,p1,List.length_cons];simp
def ptAt (l:List TUop):Nat→W .i64
 | 0=>W.of .i64 0
 | j+1=>if (nth l j).Last=true then W.of .i64 0 else W.add (nth l j).Part (W.of .i64 1)
theorem shape_pt {l:List TUop} (h:Shape l):(∀ j,j < l.length→(nth l j).Part=ptAt l j)∧ptAt l l.length=W.of .i64 0:=by
 rcases h with ⟨u,rfl,h1,h2⟩ | ⟨a,b,rfl,h1,h2,h3,h4⟩
 ·refine ⟨fun j hj=>?_,?_⟩
  ·have:j=0:=by simp at hj;omega
   subst this
   exact h1
  ·show (if u.Last=true then _ else _)=_
   rw [if_pos h2]
 ·refine ⟨fun j hj=>?_,?_⟩
  ·have:j=0∨j=1:=by simp at hj;omega
   rcases this with rfl | rfl
   ·exact h1
   ·show b.Part=if a.Last=true then W.of .i64 0 else W.add a.Part (W.of .i64 1)
    rw [h2,h1,h3];rfl
  ·show (if b.Last=true then _ else _)=_
   rw [if_pos h4]
theorem fits_all {c:TCore} {l:Sl 168 TUop} (hl:l.l.length≤400) (h1:c.Rob.l.length≤900) (h2:c.Iq.l.length≤900) (h3:c.Lq.l.length≤900) (h4:c.Sq.l.length≤900) (h:F_place_Fits c l=some true):
  (c.Iq.l.length:Int)+cnt pWaits l.l≤c.Conf.Iq.n∧(c.Lq.l.length:Int)+cnt (pUnit (W.of .i64 5)) l.l≤c.Conf.Lq.n∧(c.Sq.l.length:Int)+cnt (pUnit (W.of .i64 6)) l.l≤c.Conf.Sq.n:=by
 have le:∀ {b:Nat} {α:Type} (s:Sl b α) (k:Nat) (m:W .i64),s.l.length≤900→k≤400→W.le (W.add (Sl.len s) (wi k)) m=true→(s.l.length:Int)+k≤m.n:=fun s k m hs hk hh=>by
  rw [W.le_n,W.add_n,len_n',wi_n (sm (by omega)),wrap_i64] at hh;omega
 have c1:=cnt_le pWaits l.l
 have c2:=cnt_le (pUnit (W.of .i64 5)) l.l
 have c3:=cnt_le (pUnit (W.of .i64 6)) l.l
 obtain ⟨r,r1,r2⟩:=list_len c.Names.Free
 unfold F_place_Fits T_place_Fits F_place_of T_place_of at h
 simp only [ev_opt,ev_ite,ev_ret,bind_some',many0 l hl,many1 l hl,many2 l hl,r1] at h
 split at h
 ·split at h
  ·rename_i q2
   split at h
   ·rename_i q3
    split at h
    ·rename_i q4
     exact ⟨le _ _ _ h2 (by omega) q2,le _ _ _ h3 (by omega) q3,le _ _ _ h4 (by omega) q4⟩
    ·cases h
   ·cases h
  ·cases h
 ·cases h
theorem conf_small {c:TConf} (h:okConf c=true):c.Rob.n≤64∧c.Iq.n≤32∧c.Lq.n≤16∧c.Sq.n≤16:=by
 unfold okConf roomsB at h
 simp only [Bool.and_eq_true] at h
 have h1:=h.1.1.2.1.1.1.1.1.2
 have h2:=h.1.1.2.1.1.1.1.2
 have h3:=h.1.1.2.1.1.1.2
 have h4:=h.1.1.2.1.1.2
 unfold inB at h1 h2 h3 h4
 rw [Bool.and_eq_true,W.ge_n,W.le_n] at h1 h2 h3 h4
 exact ⟨h1.2,h2.2,h3.2,h4.2⟩
theorem wide_ok' {c:TConf} (h:okConf c=true):1≤c.Wide.n∧c.Wide.n≤4:=by
 unfold okConf wideB at h
 simp only [Bool.and_eq_true] at h
 have h1:=h.1.1.1.1.1.2
 unfold inB at h1
 rw [Bool.and_eq_true,W.ge_n,W.le_n,show (W.of .i64 1).n=1 from rfl,show (W.of .i64 4).n=4 from rfl] at h1
 exact ⟨by omega,h1.2⟩
theorem cnt_drop (p:TUop→Bool) {l:List TUop} {j:Nat} (hj:j < l.length):cnt p (l.drop j)=cnt p (l.drop (j+1))+if p (nth l j)=true then 1 else 0:=by
 have hd:l.drop j=nth l j :: l.drop (j+1):=by rw [←List.getElem_cons_drop hj,nth_elem hj]
 unfold cnt
 rw [hd,List.countP_cons]
structure Mid (nn:Nat) (c d:TCore) (l:List TUop) (j:Nat):Prop where
 inv:Inv nn d (ptAt l j)
 keep:Keep c d
 queue:d.Queue=c.Queue
 rob:(d.Rob.l.length:Int)+(l.length - j)≤c.Conf.Rob.n
 iq:(d.Iq.l.length:Int)+cnt pWaits (l.drop j)≤c.Conf.Iq.n
 lq:(d.Lq.l.length:Int)+cnt (pUnit (W.of .i64 5)) (l.drop j)≤c.Conf.Lq.n
 sq:(d.Sq.l.length:Int)+cnt (pUnit (W.of .i64 6)) (l.drop j)≤c.Conf.Sq.n
 free:cnt pWrites (l.drop j)≤freeN d.Names.Free
 seq:d.Names.Seq.n=c.Names.Seq.n+j
theorem inner_keep {nn:Nat} {c:TCore} (hi:Inv nn c (W.of .i64 0)) (hcf:okConf c.Conf=true) (hs:c.Names.Seq.n < 1152921504606847976) (l:Sl 168 TUop) (hl:l.l.length≤2) (hsh:Shape l.l) (b1:c.Rob.l.length≤200) (b2:c.Iq.l.length≤200) (b3:c.Lq.l.length≤200) (b4:c.Sq.l.length≤200) (hf:F_place_Fits c l=some true)
  (ns:Sl 32 TNote) (hns:ns.l.length≤100) (t4:TCore) (N i:W .i64) (q:Sl 56 TSlot):
  ∃ d z,L_place_Stage_34 ({ c with Queue:=q },t4,ns,N,i,l,Sl.len l,wi 0,())=some (d,t4,z,N,i,())∧Mid nn { c with Queue:=q } d l.l l.l.length∧z.l.length=ns.l.length+l.l.length:=by
 obtain ⟨f1,f5⟩:=fits_facts (by omega) (by omega) hf
 obtain ⟨f2,f3,f4⟩:=fits_all (by omega) (by omega) (by omega) (by omega) (by omega) hf
 obtain ⟨k1,k2,k3,k4⟩:=conf_small hcf
 obtain ⟨p1,p2⟩:=shape_pt hsh
 have start:Mid nn { c with Queue:=q } { c with Queue:=q } l.l 0:=⟨⟨hi.s1,hi.robs,hi.pt,hi.names,hi.iq,hi.un,hi.ap,hi.mem,hi.view,hi.val⟩,keep_refl _,rfl,by show (c.Rob.l.length:Int)+_≤c.Conf.Rob.n;omega,f2,f3,f4,f5,by show c.Names.Seq.n=c.Names.Seq.n+_;omega⟩
 have key:∃ o,L_place_Stage_34 ({ c with Queue:=q },t4,ns,N,i,l,Sl.len l,wi 0,())=some o∧∃ d z,o=(d,t4,z,N,i,())∧Mid nn { c with Queue:=q } d l.l l.l.length∧z.l.length=ns.l.length+l.l.length:=by
  unfold L_place_Stage_34
  refine iter_acc (fun j s=>∃ e y,s=(e,t4,y,N,i,l,Sl.len l,wi j,())∧Mid nn { c with Queue:=q } e l.l j∧y.l.length=ns.l.length+j) l.l.length _ ?_ ?_ ⟨_,ns,rfl,start,rfl⟩ (by show _ < 281474976710656;omega)
  ·rintro j s hj ⟨e,y,rfl,hm,hy⟩
   have m1:(e.Rob.l.length:Int)+(l.l.length - j)≤c.Conf.Rob.n:=hm.rob
   have m2:(e.Iq.l.length:Int)+cnt pWaits (l.l.drop j)≤c.Conf.Iq.n:=hm.iq
   have m3:(e.Lq.l.length:Int)+cnt (pUnit (W.of .i64 5)) (l.l.drop j)≤c.Conf.Lq.n:=hm.lq
   have m4:(e.Sq.l.length:Int)+cnt (pUnit (W.of .i64 6)) (l.l.drop j)≤c.Conf.Sq.n:=hm.sq
   have m5:=hm.free
   have m6:e.Names.Seq.n=c.Names.Seq.n+j:=hm.seq
   have hcf':e.Conf=c.Conf:=hm.keep.conf
   rw [cnt_drop _ hj] at m2 m3 m4 m5
   have hw:pWrites (nth l.l j)=true→0 < freeN e.Names.Free:=fun h=>by rw [if_pos h] at m5;omega
   obtain ⟨s',r,e1,hR⟩:=rename_full e.Names (nth l.l j) hw
   obtain ⟨e',n,e2,hP⟩:=put_all e (nth l.l j) (by omega) (by omega) (by omega) (by omega) e1 (by rw [hcf'];omega) (fun h=>by rw [hcf'];rw [if_pos (show pWaits (nth l.l j)=true from h)] at m2;omega) (fun h=>by rw [hcf'];rw [if_pos (show pUnit (W.of .i64 5) (nth l.l j)=true from h)] at m3;omega) (fun h=>by rw [hcf'];rw [if_pos (show pUnit (W.of .i64 6) (nth l.l j)=true from h)] at m4;omega)
   have hinv:=put_inv hm.inv hR hP (p1 j hj) (by omega)
   have hfn:=free_next hR hw
   obtain ⟨z,z1,z2⟩:=app_lit (s:=y) (x:=n) (hb:=rfl) (by unfold room;omega) (by unfold room;omega)
   simp only [B_place_Stage_34,ev_ite,ev_opt,ev_ret,lt_len l hj,if_true,Sl.get_wi l hj,bind_some',e2,z1,wi_next l hj]
   have r1:e'.Rob.l.length=e.Rob.l.length+1:=by rw [hP.rob,List.length_append];rfl
   have r2:e'.Iq.l.length=e.Iq.l.length+if pWaits (nth l.l j)=true then 1 else 0:=by
    obtain ⟨rd,h⟩:=hP.iq
    rw [h]
    show _=_+if W.ne (nth l.l j).Unit (W.of .i64 7)=true then 1 else 0
    split
    ·rw [List.length_append];rfl
    ·rfl
   have r3:e'.Lq.l.length=e.Lq.l.length+if pUnit (W.of .i64 5) (nth l.l j)=true then 1 else 0:=by
    have:=congrArg List.length hP.lq
    rw [List.length_map,List.length_append,List.length_map] at this
    rw [this]
    show _+_=_+if W.eq (nth l.l j).Unit (W.of .i64 5)=true then 1 else 0
    split<;>rfl
   have r4:e'.Sq.l.length=e.Sq.l.length+if pUnit (W.of .i64 6) (nth l.l j)=true then 1 else 0:=by
    have:=congrArg List.length hP.sq
    rw [List.length_map,List.length_append,List.length_map] at this
    rw [this]
    show _+_=_+if W.eq (nth l.l j).Unit (W.of .i64 6)=true then 1 else 0
    split<;>rfl
   have hsq:e'.Names.Seq.n=e.Names.Seq.n+1:=by
    have:=hm.inv.s1
    rw [hP.names,hR.seq,W.add_n,show (W.of .u64 1).n=1 from rfl,wrap_u64];omega
   refine ⟨_,rfl,e',z,rfl,⟨hinv,keep_trans hm.keep (put_keep hR hP),hP.queue.trans hm.queue,?_,?_,?_,?_,?_,?_⟩,by rw [z2,List.length_append,hy];show _+_+1=_;omega⟩
   ·show (e'.Rob.l.length:Int)+(l.l.length - ((j+1:Nat):Int))≤c.Conf.Rob.n
    omega
   ·show (e'.Iq.l.length:Int)+cnt pWaits (l.l.drop (j+1))≤c.Conf.Iq.n
    rw [r2];omega
   ·show (e'.Lq.l.length:Int)+cnt (pUnit (W.of .i64 5)) (l.l.drop (j+1))≤c.Conf.Lq.n
    rw [r3];omega
   ·show (e'.Sq.l.length:Int)+cnt (pUnit (W.of .i64 6)) (l.l.drop (j+1))≤c.Conf.Sq.n
    rw [r4];omega
   ·rw [hP.names,hfn];omega
   ·show e'.Names.Seq.n=c.Names.Seq.n+((j+1:Nat):Int)
    omega
  ·rintro s ⟨e,y,rfl,hm,hy⟩
   simp only [B_place_Stage_34,ev_ite,ev_ret,lt_end l,Bool.false_eq_true,if_false]
   exact ⟨_,rfl,e,y,rfl,hm,hy⟩
 obtain ⟨o,h1,d,z,rfl,hm,hy⟩:=key
 exact ⟨d,z,h1,hm,hy⟩
end Go.Proofs.YtkddkpmijhionaaGreatDoor
