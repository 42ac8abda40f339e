/- YtkddkpmijhionaaGreatDoorKeep2: a core keeps its rules when a part is put. No statement of the seat is proved here. -/
import Derived.Test.YtkddkpmijhionaaGreatDoorKeep1
set_option linter.unusedSimpArgs false
set_option linter.unusedVariables false
set_option maxRecDepth 100000
namespace Go.Proofs.YtkddkpmijhionaaGreatDoor
open Go Go.A2
abbrev entR (r:TRen):TRob:=TRob.mk r false (W.of .u32 0) (W.of .u32 0) r.Uop.Cause r.Uop.Tval false
structure PutD (c:TCore) (u:TUop) (s':TNames) (r:TRen) (d:TCore):Prop where
 rob:d.Rob.l=c.Rob.l++[entR r]
 names:d.Names=s'
 iq:∃ rd,d.Iq.l=if W.ne u.Unit (W.of .i64 7)=true then c.Iq.l++[TIq.mk r rd] else c.Iq.l
 phys:F_prf_Drop c.Phys r.Out=some d.Phys
 lq:d.Lq.l.map TLq.Seq=c.Lq.l.map TLq.Seq++if W.eq u.Unit (W.of .i64 5)=true then [r.Seq] else []
 sq:d.Sq.l.map TSq.Seq=c.Sq.l.map TSq.Seq++if W.eq u.Unit (W.of .i64 6)=true then [r.Seq] else []
 conf:d.Conf=c.Conf
 a:d.A=c.A
 sh:d.Shadow=c.Shadow
 pc:d.PC=c.PC
 hold:d.Hold=c.Hold
 pred:d.Pred=c.Pred
 tlb:d.Tlb=c.Tlb
 queue:d.Queue=c.Queue
 sb:d.Sb=c.Sb
 units:d.Units=c.Units
 dep:d.Dep=c.Dep
theorem put_all (c:TCore) (u:TUop) (h1:c.Rob.l.length≤1000) (h2:c.Iq.l.length≤1000) (h3:c.Lq.l.length≤1000) (h4:c.Sq.l.length≤1000) {s':TNames} {r:TRen} {okr:Bool} (e1:F_rename_One c.Names u=some (s',r,okr))
  (g1:(c.Rob.l.length:Int) < c.Conf.Rob.n) (g2:W.ne u.Unit (W.of .i64 7)=true→(c.Iq.l.length:Int) < c.Conf.Iq.n) (g3:W.eq u.Unit (W.of .i64 5)=true→(c.Lq.l.length:Int) < c.Conf.Lq.n) (g4:W.eq u.Unit (W.of .i64 6)=true→(c.Sq.l.length:Int) < c.Conf.Sq.n):
  ∃ d nt,F_place_put c u=some (d,nt)∧PutD c u s' r d:=by
 have ge:∀ {b:Nat} {α:Type} (s:Sl b α) (k:W .i64),(s.l.length:Int) < k.n→W.ge (Sl.len s) k=false:=fun s k hk=>by
  have:¬ W.ge (Sl.len s) k=true:=by rw [W.ge_n,len_n'];omega
  simpa using this
 obtain ⟨x,x1,x2⟩:=app_lit (s:=c.Rob) (x:=entR r) (hb:=rfl) (by unfold room;omega) (by unfold room;omega)
 have hx:F_rob_Put c.Rob r c.Conf.Rob=some (x,true):=by
  unfold F_rob_Put T_rob_Put F_slices_Clone_Rob
  simp only [ev_opt,ev_ite,ev_ret,ge _ _ g1,Bool.false_eq_true,if_false,bind_some',x1]
 obtain ⟨l,l1,l2⟩:=app_lit (s:=c.Lq) (x:=TLq.mk r.Seq u.Slot.PC (W.of .u32 0) (W.of .i64 0) false false (W.of .u64 0) false) (hb:=rfl) (by unfold room;omega) (by unfold room;omega)
 have hl:W.eq u.Unit (W.of .i64 5)=true→F_lq_Put c.Lq r.Seq u.Slot.PC c.Conf.Lq=some (l,true):=fun h=>by
  unfold F_lq_Put T_lq_Put F_slices_Clone_Lq
  simp only [ev_opt,ev_ite,ev_ret,ge _ _ (g3 h),Bool.false_eq_true,if_false,bind_some',l1]
 obtain ⟨q,q1,q2⟩:=app_lit (s:=c.Sq) (x:=TSq.mk r.Seq (W.of .u32 0) (W.of .u32 0) (W.of .i64 0) false) (hb:=rfl) (by unfold room;omega) (by unfold room;omega)
 have hq:W.eq u.Unit (W.of .i64 6)=true→F_sq_Put c.Sq r.Seq c.Conf.Sq=some (q,true):=fun h=>by
  unfold F_sq_Put T_sq_Put F_slices_Clone_Sq
  simp only [ev_opt,ev_ite,ev_ret,ge _ _ (g4 h),Bool.false_eq_true,if_false,bind_some',q1]
 have mq:q.l.map TSq.Seq=c.Sq.l.map TSq.Seq++[r.Seq]:=by rw [q2,List.map_append];rfl
 have ml:l.l.map TLq.Seq=c.Lq.l.map TLq.Seq++[r.Seq]:=by rw [l2,List.map_append];rfl
 obtain ⟨g,gd,_⟩:=prf_drop c.Phys r.Out
 have hW:W.eq u.Unit (W.of .i64 5)=true→W.eq u.Unit (W.of .i64 6)=false:=fun h=>by
  rw [W.eq_dec,decide_eq_true_eq] at h
  rw [h];rfl
 unfold F_place_put T_place_put
 simp only [ev_opt,ev_ite,ev_ret,e1,bind_some',hx,kept_rob,kept_iq,kept_lq,kept_sq,waits_p,pWaits,if_true]
 cases hU:W.ne u.Unit (W.of .i64 7) with
 | true=>
  simp only [if_true]
  obtain ⟨rd,rd1,_⟩:=ready_eq { c with Names:=s',Rob:=x } u (TCore.mk (TConf.mk (W.of .i64 0) (W.of .i64 0) (W.of .i64 0) (W.of .i64 0) (W.of .i64 0) (W.of .i64 0) (W.of .i64 0) (W.of .i64 0) (W.of .i64 0) (W.of .i64 0) (W.of .i64 0) (W.of .i64 0) (W.of .i64 0) (W.of .i64 0) (W.of .i64 0) (W.of .i64 0) (W.of .i64 0) (W.of .i64 0) (W.of .i64 0) (W.of .i64 0) (W.of .i64 0) false) (TArch.mk (W.of .u32 0) (Arr.rep 16 (W.of .u32 0)) (Arr.rep 12 (W.of .u32 0)) false) Sl.nil Sl.nil (W.of .u32 0) false (TPred.mk (W.of .u32 0) Sl.nil Sl.nil (W.of .i64 0) Sl.nil (W.of .i64 0)) Sl.nil (W.of .i64 0) Sl.nil (TNames.mk (Arr.rep 16 (W.of .i64 0)) (Arr.rep 16 (W.of .i64 0)) (TFree.mk Sl.nil (W.of .i64 0) (W.of .i64 0)) (W.of .u64 0)) (TPhys.mk Sl.nil Sl.nil) Sl.nil Sl.nil Sl.nil Sl.nil Sl.nil Sl.nil Sl.nil (W.of .i64 0) (W.of .i64 0)) c (TNote.mk (W.of .i64 0) (W.of .i64 0) (W.of .u64 0) (W.of .u32 0)) default r c.Conf u.Slot.PC
  obtain ⟨y,y1,y2⟩:=app_lit (s:=c.Iq) (x:=TIq.mk r rd) (hb:=rfl) (by unfold room;omega) (by unfold room;omega)
  have hy:F_iq_Put c.Iq r rd c.Conf.Iq=some (y,true):=by
   unfold F_iq_Put T_iq_Put F_slices_Clone_Iq
   simp only [ev_opt,ev_ite,ev_ret,ge _ _ (g2 hU),Bool.false_eq_true,if_false,bind_some',y1]
  rw [show L_place_put_19 ({ c with Names:=s',Rob:=x },u,_,_,r,c.Conf,u.Slot.PC,Arr.rep 3 false,r.In,W.of .i64 0,())=_ from rd1]
  simp only [bind_some',hy,gd,if_true]
  have miq:∃ rd,y.l=if W.ne u.Unit (W.of .i64 7)=true then c.Iq.l++[TIq.mk r rd] else c.Iq.l:=⟨rd,by rw [hU,if_pos rfl,y2]⟩
  cases h5:W.eq u.Unit (W.of .i64 5) with
  | true=>
   have h6:=hW h5
   simp only [if_true,hl h5,bind_some']
   exact ⟨_,_,rfl,⟨x2,rfl,miq,gd,by rw [h5];exact ml,by rw [h6];simp,rfl,rfl,rfl,rfl,rfl,rfl,rfl,rfl,rfl,rfl,rfl⟩⟩
  | false=>
   simp only [Bool.false_eq_true,if_false]
   cases h6:W.eq u.Unit (W.of .i64 6) with
   | true=>
    simp only [if_true,hq h6,bind_some']
    exact ⟨_,_,rfl,⟨x2,rfl,miq,gd,by rw [h5];simp,by rw [h6];exact mq,rfl,rfl,rfl,rfl,rfl,rfl,rfl,rfl,rfl,rfl,rfl⟩⟩
   | false=>
    simp only [Bool.false_eq_true,if_false]
    exact ⟨_,_,rfl,⟨x2,rfl,miq,gd,by rw [h5];simp,by rw [h6];simp,rfl,rfl,rfl,rfl,rfl,rfl,rfl,rfl,rfl,rfl,rfl⟩⟩
 | false=>
  simp only [Bool.false_eq_true,if_false,gd,bind_some']
  have miq:∃ rd,c.Iq.l=if W.ne u.Unit (W.of .i64 7)=true then c.Iq.l++[TIq.mk r rd] else c.Iq.l:=⟨default,by rw [hU];simp⟩
  cases h5:W.eq u.Unit (W.of .i64 5) with
  | true=>
   have h6:=hW h5
   simp only [if_true,hl h5,bind_some']
   exact ⟨_,_,rfl,⟨x2,rfl,miq,gd,by rw [h5];exact ml,by rw [h6];simp,rfl,rfl,rfl,rfl,rfl,rfl,rfl,rfl,rfl,rfl,rfl⟩⟩
  | false=>
   simp only [Bool.false_eq_true,if_false]
   cases h6:W.eq u.Unit (W.of .i64 6) with
   | true=>
    simp only [if_true,hq h6,bind_some']
    exact ⟨_,_,rfl,⟨x2,rfl,miq,gd,by rw [h5];simp,by rw [h6];exact mq,rfl,rfl,rfl,rfl,rfl,rfl,rfl,rfl,rfl,rfl,rfl⟩⟩
   | false=>
    simp only [Bool.false_eq_true,if_false]
    exact ⟨_,_,rfl,⟨x2,rfl,miq,gd,by rw [h5];simp,by rw [h6];simp,rfl,rfl,rfl,rfl,rfl,rfl,rfl,rfl,rfl,rfl,rfl⟩⟩
theorem get_drop {f g:TPhys} {p q:W .i64} (h:F_prf_Drop f p=some g) (hq:q ≠ p):F_prf_Get g q=F_prf_Get f q∧g.Val=f.Val∧g.Ready.l.length=f.Ready.l.length:=by
 unfold F_prf_Drop T_prf_Drop F_slices_Clone_uint32 F_slices_Clone_bool at h
 simp only [ev_opt,ev_ite,ev_ret,(has_p f p).1,bind_some'] at h
 cases hb:hasB f p with
 | false=>
  rw [hb] at h
  simp only [Bool.false_eq_true,if_false] at h
  cases h
  exact ⟨rfl,rfl,rfl⟩
 | true=>
  rw [hb] at h
  obtain ⟨h1,h2,h3⟩:=of_decide_eq_true hb
  have e:idx? (List.length f.Ready.l) p=some p.n.toNat:=by
   unfold idx?;rw [if_pos ⟨h1,h3⟩]
  simp only [if_true,e,bind_some'] at h
  cases h
  refine ⟨?_,rfl,by show (f.Ready.l.set _ _).length=_;rw [List.length_set]⟩
  have hh:hasB (TPhys.mk f.Val (Sl.set f.Ready p.n.toNat false)) q=hasB f q:=by
   unfold hasB
   refine decide_eq_decide.2 ?_
   show (0≤q.n∧q.n < f.Val.l.length∧q.n < ((f.Ready.l.set p.n.toNat false).length:Int)) ↔ _
   rw [List.length_set]
  unfold F_prf_Get T_prf_Get
  simp only [ev_opt,ev_ite,ev_ret,(has_p _ q).1,hh,bind_some']
  cases hq2:hasB f q with
  | false=>rfl
  | true=>
   obtain ⟨k1,k2,k3⟩:=of_decide_eq_true hq2
   have e1:Sl.get? (Sl.set f.Ready p.n.toNat false) q=Sl.get? f.Ready q:=by
    unfold Sl.get?
    rw [if_pos k1,if_pos k1]
    show (f.Ready.l.set p.n.toNat false)[q.n.toNat]?=_
    rw [List.getElem?_set_ne]
    intro hpq
    exact hq (W.ext (by omega))
   simp only [e1]
theorem view_congr {f g:TPhys} {m:Arr 16 (W .i64)} (h:∀ r,1≤r→r < 16→F_prf_Get g (m.get r)=F_prf_Get f (m.get r)):F_prf_View g m=F_prf_View f m:=by
 have key:∃ o o',L_prf_View_7 (g,m,Arr.rep 16 (W.of .u32 0),Arr.rep 16 (W.of .u32 0),wi 1,())=some o∧L_prf_View_7 (f,m,Arr.rep 16 (W.of .u32 0),Arr.rep 16 (W.of .u32 0),wi 1,())=some o'∧o=o':=by
  unfold L_prf_View_7
  refine iter_both (fun i s s'=>∃ z out,s=(g,m,z,out,wi (i+1),())∧s'=(f,m,z,out,wi (i+1),())) 15 _ ?_ ?_ ⟨_,_,rfl,rfl⟩ (by decide)
  ·rintro i s s' hi ⟨z,out,rfl,rfl⟩
   obtain ⟨r,hr⟩:=get_some f (Arr.get m (i+1))
   have hlt:W.lt (wi (i+1)) (W.of .i64 16)=true:=(lt_small (m:=16) (by omega) (by omega)).trans (by simp;omega)
   simp only [B_prf_View_7,ev_ite,ev_opt,ev_ret,hlt,if_true,wi_idx (sm (show i+1≤1000 by omega)),show i+1 < 16 by omega,bind_some',h (i+1) (by omega) (by omega),hr,add_small (show i+1 < 1000 by omega)]
   exact .inl ⟨_,_,rfl,rfl,_,_,rfl,rfl⟩
  ·rintro s s' ⟨z,out,rfl,rfl⟩
   exact ⟨_,_,rfl,rfl,rfl⟩
 obtain ⟨o,o',k1,k2,rfl⟩:=key
 unfold F_prf_View T_prf_View
 simp only [ev_opt,ev_ret,show L_prf_View_7 (g,m,_,_,W.of .i64 1,())=_ from k1,show L_prf_View_7 (f,m,_,_,W.of .i64 1,())=_ from k2]
theorem out_new {s s':TNames} {u:TUop} {r:TRen} (hR:Renamed s u s' r) {nn:Nat} {l:List TRen} (h:namesP s nn l):∀ x∈doneR s++outsL l,x ≠ r.Out:=by
 obtain ⟨n17,n96,mOk,dOk,fOk,⟨st,mEnd⟩,once,inr⟩:=h
 intro x hx he
 have hin:x∈allL s l:=by
  unfold allL
  rw [List.append_assoc]
  exact List.mem_append_right _ hx
 have hr:=of_decide_eq_true (inr x hin)
 cases hw:pWrites u with
 | false=>
  obtain ⟨_,_,m3,_⟩:=hR.no hw
  rw [he,m3] at hr
  exact absurd hr.1 (by decide)
 | true=>
  obtain ⟨p,p1,p2,p3,p4,p5,p6⟩:=hR.yes hw
  rw [p4] at he
  subst he
  have hpw:x=wi x.n.toNat:=of_small (by omega)
  have h1:=once x.n.toNat (by omega) (by omega)
  have h2:=cnt_in hx hpw
  unfold allL cnt_b at h1
  unfold cnt_b at h2
  rw [p1,List.append_assoc,List.countP_append,List.countP_cons,if_pos (by rw [←hpw,W.eq_self])] at h1
  omega
end Go.Proofs.YtkddkpmijhionaaGreatDoor
