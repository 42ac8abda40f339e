/- YtkddkpmijhionaaGreatDoorPut: a part renamed, and put: the program's answer is the document's. No statement of the seat is proved here. -/
import Derived.Test.YtkddkpmijhionaaGreatDoorTake
import Derived.Test.YtkddkpmijhionaaGreatDoorFits
set_option linter.unusedSimpArgs false
set_option linter.unusedVariables false
set_option maxRecDepth 100000
namespace Go.Proofs.YtkddkpmijhionaaGreatDoor
open Go Go.A2
theorem rat_get (m:Arr 16 (W .i64)) (r:W .i64):∃ v,F_rat_Get m r=some v∧F_ref26_Get m r=some v:=by
 have g1:W.gt r (W.of .i64 0)=decide (0 < r.n):=iff_bool (by rw [W.gt_n,show (W.of .i64 0).n=0 from rfl,decide_eq_true_eq])
 have g2:W.lt r (W.of .i64 16)=decide (r.n < 16):=rfl
 have g3:W.lt r (W.of .i64 1)=decide (r.n < 1):=rfl
 have g4:W.gt r (W.of .i64 15)=decide (15 < r.n):=iff_bool (by rw [W.gt_n,show (W.of .i64 15).n=15 from rfl,decide_eq_true_eq])
 unfold F_rat_Get T_rat_Get F_rat_is T_rat_is F_ref26_Get T_ref26_Get
 simp only [ev_opt,ev_ite,ev_ret,g1,g2,g3,g4,decide_eq_true_eq]
 by_cases c1:0 < r.n
 ·by_cases c2:r.n < 16
  ·have e:idx? 16 r=some r.n.toNat:=by
    unfold idx?;rw [if_pos ⟨by omega,by omega⟩]
   have n1:¬ r.n < 1:=by omega
   have n2:¬ 15 < r.n:=by omega
   simp only [c1,c2,n1,n2,if_true,if_false,bind_some',decide_true,Bool.not_true,Bool.false_eq_true,e]
   exact ⟨_,rfl,rfl⟩
  ·have n1:¬ r.n < 1:=by omega
   have n2:15 < r.n:=by omega
   simp only [c1,c2,n1,n2,if_true,if_false,bind_some',decide_false,Bool.not_false]
   exact ⟨_,rfl,rfl⟩
 ·have n1:r.n < 1:=by omega
  simp only [c1,n1,if_true,if_false,bind_some',Bool.not_false]
  exact ⟨_,rfl,rfl⟩
theorem rat_set (m:Arr 16 (W .i64)) (r p:W .i64):∃ v,F_rat_Set m r p=some v∧F_ref26_Set m r p=some v:=by
 have g1:W.gt r (W.of .i64 0)=decide (0 < r.n):=iff_bool (by rw [W.gt_n,show (W.of .i64 0).n=0 from rfl,decide_eq_true_eq])
 have g2:W.lt r (W.of .i64 16)=decide (r.n < 16):=rfl
 have g3:W.ge r (W.of .i64 1)=decide (0 < r.n):=iff_bool (by rw [W.ge_n,show (W.of .i64 1).n=1 from rfl,decide_eq_true_eq];omega)
 have g4:W.le r (W.of .i64 15)=decide (r.n < 16):=iff_bool (by rw [W.le_n,show (W.of .i64 15).n=15 from rfl,decide_eq_true_eq];omega)
 unfold F_rat_Set T_rat_Set F_rat_is T_rat_is F_ref26_Set T_ref26_Set
 simp only [ev_opt,ev_ite,ev_ret,g1,g2,g3,g4,decide_eq_true_eq]
 by_cases c1:0 < r.n
 ·by_cases c2:r.n < 16
  ·have e:idx? 16 r=some r.n.toNat:=by
    unfold idx?;rw [if_pos ⟨by omega,by omega⟩]
   simp only [c1,c2,if_true,bind_some',decide_true,e]
   exact ⟨_,rfl,rfl⟩
  ·simp only [c1,c2,if_true,if_false,bind_some',decide_false,Bool.false_eq_true]
   exact ⟨_,rfl,rfl⟩
 ·simp only [c1,if_false,bind_some',Bool.false_eq_true]
  exact ⟨_,rfl,rfl⟩
theorem writes_r (u:TUop):F_rename_writes u=some (pWrites u)∧F_ref28_Writes u=some (pWrites u):=by
 have g1:W.ge u.Dst (W.of .i64 1)=decide (0 < u.Dst.n):=iff_bool (by rw [W.ge_n,show (W.of .i64 1).n=1 from rfl,decide_eq_true_eq];omega)
 have g2:W.lt u.Dst (W.of .i64 16)=decide (u.Dst.n < 16):=rfl
 have g3:W.le u.Dst (W.of .i64 15)=decide (u.Dst.n < 16):=iff_bool (by rw [W.le_n,show (W.of .i64 15).n=15 from rfl,decide_eq_true_eq];omega)
 unfold F_rename_writes T_rename_writes F_ref28_Writes T_ref28_Writes pWrites
 simp only [ev_ite,ev_ret,g1,g2,g3,decide_eq_true_eq]
 by_cases c:0 < u.Dst.n
 ·simp [c]
 ·simp [c]
theorem rename_eq (s:TNames) (u:TUop):∃ r,F_rename_One s u=some r∧F_ref28_One s u=some r∧r.1.Free.Ring.l.length=s.Free.Ring.l.length:=by
 have main:∀ (t4 t4':TNames) (t5 t5' r0:TRen),∃ o o',L_rename_One_7 (s,u,t4,t5,r0,u.Src,wi 0,())=some o∧L_ref28_One_7 (s,u,t4',t5',r0,wi 0,())=some o'∧∃ r,o=(s,u,t4,t5,r,())∧o'=(s,u,t4',t5',r,()):=fun t4 t4' t5 t5' r0=>by
  unfold L_rename_One_7 L_ref28_One_7
  refine iter_both (fun i a b=>∃ r,a=(s,u,t4,t5,r,u.Src,wi i,())∧b=(s,u,t4',t5',r,wi i,())) 3 _ ?_ ?_ ⟨r0,rfl,rfl⟩ (by decide)
  ·rintro i a b hi ⟨r,rfl,rfl⟩
   have hlt:W.lt (wi i) (W.of .i64 3)=true:=(lt_small (m:=3) (by omega) (by omega)).trans (by simpa using hi)
   obtain ⟨v,v1,v2⟩:=rat_get s.Map (u.Src.get i)
   simp only [B_rename_One_7,B_ref28_One_7,ev_ite,ev_opt,ev_ret,hlt,if_true,wi_idx (sm (show i≤1000 by omega)),hi,bind_some',v1,v2,add_small (show i < 1000 by omega)]
   exact .inl ⟨_,_,rfl,rfl,_,rfl,rfl⟩
  ·rintro a b ⟨r,rfl,rfl⟩
   exact ⟨_,_,rfl,rfl,r,rfl,rfl⟩
 obtain ⟨t,t1,t2,t3⟩:=take_eq s.Free
 unfold F_rename_One T_rename_One F_ref28_One T_ref28_One
 simp only [ev_opt,ev_ite,ev_ret]
 obtain ⟨o,o',k1,k2,r,rfl,rfl⟩:=main (TNames.mk (Arr.rep 16 (W.of .i64 0)) (Arr.rep 16 (W.of .i64 0)) (TFree.mk Sl.nil (W.of .i64 0) (W.of .i64 0)) (W.of .u64 0)) (TNames.mk (Arr.rep 16 (W.of .i64 0)) (Arr.rep 16 (W.of .i64 0)) (TFree.mk Sl.nil (W.of .i64 0) (W.of .i64 0)) (W.of .u64 0)) (TRen.mk (TUop.mk (TInst.mk (W.of .i64 0) (W.of .i64 0) (W.of .i64 0) (W.of .i64 0) (W.of .i64 0)) (TSlot.mk (W.of .u32 0) (W.of .u32 0) (W.of .i64 0) (W.of .u32 0) (TGuess.mk false (W.of .u32 0) (TSave.mk (W.of .u32 0) (W.of .i64 0) (W.of .u32 0)))) (W.of .i64 0) (W.of .i64 0) false (Arr.rep 3 (W.of .i64 0)) (W.of .i64 0) (W.of .i64 0) (W.of .u32 0)) (W.of .u64 0) (Arr.rep 3 (W.of .i64 0)) (W.of .i64 0) (W.of .i64 0)) (TRen.mk (TUop.mk (TInst.mk (W.of .i64 0) (W.of .i64 0) (W.of .i64 0) (W.of .i64 0) (W.of .i64 0)) (TSlot.mk (W.of .u32 0) (W.of .u32 0) (W.of .i64 0) (W.of .u32 0) (TGuess.mk false (W.of .u32 0) (TSave.mk (W.of .u32 0) (W.of .i64 0) (W.of .u32 0)))) (W.of .i64 0) (W.of .i64 0) false (Arr.rep 3 (W.of .i64 0)) (W.of .i64 0) (W.of .i64 0) (W.of .u32 0)) (W.of .u64 0) (Arr.rep 3 (W.of .i64 0)) (W.of .i64 0) (W.of .i64 0)) (TRen.mk u s.Seq (Arr.rep 3 (W.of .i64 0)) (W.of .i64 (-1)) (W.of .i64 (-1)))
 rw [show L_rename_One_7 (s,u,_,_,_,u.Src,W.of .i64 0,())=_ from k1,show L_ref28_One_7 (s,u,_,_,_,W.of .i64 0,())=_ from k2]
 simp only [bind_some',(writes_r u).1,(writes_r u).2]
 cases pWrites u with
 | false=>exact ⟨_,rfl,rfl,rfl⟩
 | true=>
  obtain ⟨g,g1,g2⟩:=rat_get s.Map u.Dst
  obtain ⟨q,q1,q2⟩:=rat_set s.Map u.Dst t.2.1
  simp only [if_true,t1,t2,bind_some',g1,g2,q1,q2]
  cases t.2.2 with
  | false=>exact ⟨_,rfl,rfl,rfl⟩
  | true=>exact ⟨_,rfl,rfl,t3⟩
section puts
variable {n:Nat}
theorem rob_put (l:Sl 248 TRob) (hl:l.l.length≤1000) (r:TRen) (most:W .i64):∃ x ok,F_rob_Put l r most=some (x,ok)∧F_ref29_Put l r most=some (x,ok)∧x.l.length≤l.l.length+1:=by
 obtain ⟨z,z1,z2⟩:=app_lit (s:=l) (x:=TRob.mk r false (W.of .u32 0) (W.of .u32 0) r.Uop.Cause r.Uop.Tval false) (hb:=rfl) (by unfold room;omega) (by unfold room;omega)
 unfold F_rob_Put T_rob_Put F_ref29_Put T_ref29_Put F_slices_Clone_Rob
 simp only [ev_opt,ev_ite,ev_ret,bind_some',z1]
 cases W.ge (Sl.len l) most with
 | true=>exact ⟨_,_,rfl,rfl,Nat.zero_le _⟩
 | false=>exact ⟨_,_,rfl,rfl,by rw [z2,List.length_append];exact Nat.le_refl _⟩
theorem iq_put (l:Sl 224 TIq) (hl:l.l.length≤1000) (r:TRen) (rd:Arr 3 Bool) (most:W .i64):∃ x ok,F_iq_Put l r rd most=some (x,ok)∧F_ref30_Put l r rd most=some (x,ok)∧x.l.length≤l.l.length+1:=by
 obtain ⟨z,z1,z2⟩:=app_lit (s:=l) (x:=TIq.mk r rd) (hb:=rfl) (by unfold room;omega) (by unfold room;omega)
 unfold F_iq_Put T_iq_Put F_ref30_Put T_ref30_Put F_slices_Clone_Iq
 simp only [ev_opt,ev_ite,ev_ret,bind_some',z1]
 cases W.ge (Sl.len l) most with
 | true=>exact ⟨_,_,rfl,rfl,Nat.zero_le _⟩
 | false=>exact ⟨_,_,rfl,rfl,by rw [z2,List.length_append];exact Nat.le_refl _⟩
theorem lq_put (l:Sl 48 TLq) (hl:l.l.length≤1000) (q:W .u64) (pc:W .u32) (most:W .i64):∃ x ok,F_lq_Put l q pc most=some (x,ok)∧F_ref35_Put l q pc most=some (x,ok)∧x.l.length≤l.l.length+1:=by
 obtain ⟨z,z1,z2⟩:=app_lit (s:=l) (x:=TLq.mk q pc (W.of .u32 0) (W.of .i64 0) false false (W.of .u64 0) false) (hb:=rfl) (by unfold room;omega) (by unfold room;omega)
 unfold F_lq_Put T_lq_Put F_ref35_Put T_ref35_Put F_slices_Clone_Lq
 simp only [ev_opt,ev_ite,ev_ret,bind_some',z1]
 cases W.ge (Sl.len l) most with
 | true=>exact ⟨_,_,rfl,rfl,Nat.zero_le _⟩
 | false=>exact ⟨_,_,rfl,rfl,by rw [z2,List.length_append];exact Nat.le_refl _⟩
theorem sq_put (l:Sl 32 TSq) (hl:l.l.length≤1000) (q:W .u64) (most:W .i64):∃ x ok,F_sq_Put l q most=some (x,ok)∧F_ref33_Put l q most=some (x,ok)∧x.l.length≤l.l.length+1:=by
 obtain ⟨z,z1,z2⟩:=app_lit (s:=l) (x:=TSq.mk q (W.of .u32 0) (W.of .u32 0) (W.of .i64 0) false) (hb:=rfl) (by unfold room;omega) (by unfold room;omega)
 unfold F_sq_Put T_sq_Put F_ref33_Put T_ref33_Put F_slices_Clone_Sq
 simp only [ev_opt,ev_ite,ev_ret,bind_some',z1]
 cases W.ge (Sl.len l) most with
 | true=>exact ⟨_,_,rfl,rfl,Nat.zero_le _⟩
 | false=>exact ⟨_,_,rfl,rfl,by rw [z2,List.length_append];exact Nat.le_refl _⟩
end puts
def hasB (f:TPhys) (p:W .i64):Bool:=decide (0≤p.n∧p.n < f.Val.l.length∧p.n < f.Ready.l.length)
theorem has_p (f:TPhys) (p:W .i64):F_prf_has f p=some (hasB f p)∧F_ref27_is f p=some (hasB f p):=by
 have g1:W.ge p (W.of .i64 0)=decide (0≤p.n):=iff_bool (by rw [W.ge_n,show (W.of .i64 0).n=0 from rfl,decide_eq_true_eq])
 have g2:∀ {b:Nat} {α:Type} (s:Sl b α),W.lt p (Sl.len s)=decide (p.n < s.l.length):=fun s=>rfl
 unfold F_prf_has T_prf_has F_ref27_is T_ref27_is hasB
 simp only [ev_ite,ev_ret,g1,g2,decide_eq_true_eq]
 by_cases c1:0≤p.n
 ·by_cases c2:p.n < f.Val.l.length
  ·simp [c1,c2]
  ·simp [c1,c2]
 ·simp [c1]
theorem prf_get (f:TPhys) (p:W .i64):∃ v,F_prf_Get f p=some v∧F_ref27_Get f p=some v:=by
 unfold F_prf_Get T_prf_Get F_ref27_Get T_ref27_Get
 simp only [ev_opt,ev_ite,ev_ret,(has_p f p).1,(has_p f p).2,bind_some']
 cases hb:hasB f p with
 | false=>exact ⟨_,rfl,rfl⟩
 | true=>
  obtain ⟨h1,h2,h3⟩:=of_decide_eq_true hb
  simp only [Bool.not_true,Bool.false_eq_true,if_false,get_at f.Ready h1 h3,get_at f.Val h1 h2,bind_some']
  cases nth f.Ready.l p.n.toNat<;>exact ⟨_,rfl,rfl⟩
theorem prf_drop (f:TPhys) (p:W .i64):∃ g,F_prf_Drop f p=some g∧F_ref27_Drop f p=some g:=by
 unfold F_prf_Drop T_prf_Drop F_ref27_Drop T_ref27_Drop F_ref27_copied T_ref27_copied F_slices_Clone_uint32 F_slices_Clone_bool
 simp only [ev_opt,ev_ite,ev_ret,(has_p f p).1,(has_p f p).2,bind_some']
 cases hb:hasB f p with
 | false=>exact ⟨_,rfl,rfl⟩
 | true=>
  obtain ⟨h1,h2,h3⟩:=of_decide_eq_true hb
  have e:idx? (List.length f.Ready.l) p=some p.n.toNat:=by
   unfold idx?;rw [if_pos ⟨h1,h3⟩]
  simp only [if_true,e,bind_some']
  exact ⟨_,rfl,rfl⟩
structure Grow (c d:TCore):Prop where
 rob:d.Rob.l.length≤c.Rob.l.length+1
 iq:d.Iq.l.length≤c.Iq.l.length+1
 lq:d.Lq.l.length≤c.Lq.l.length+1
 sq:d.Sq.l.length≤c.Sq.l.length+1
 queue:d.Queue=c.Queue
 conf:d.Conf=c.Conf
theorem ready_eq (c:TCore) (u:TUop) (t4 t4':TCore) (t5 t5':TNote) (r:TRen) (k:TConf) (pc:W .u32):∃ rd,L_place_put_19 (c,u,t4,t5,r,k,pc,Arr.rep 3 false,r.In,wi 0,())=some (c,u,t4,t5,r,k,pc,rd,())∧L_ref45_put_19 (c,u,t4',t5',r,Arr.lit 3 [false,false,false] rfl,wi 0,())=some (c,u,t4',t5',r,rd,()):=by
 have key:∃ o o',L_place_put_19 (c,u,t4,t5,r,k,pc,Arr.rep 3 false,r.In,wi 0,())=some o∧L_ref45_put_19 (c,u,t4',t5',r,Arr.lit 3 [false,false,false] rfl,wi 0,())=some o'∧∃ rd,o=(c,u,t4,t5,r,k,pc,rd,())∧o'=(c,u,t4',t5',r,rd,()):=by
  unfold L_place_put_19 L_ref45_put_19
  refine iter_both (fun i a b=>∃ rd,a=(c,u,t4,t5,r,k,pc,rd,r.In,wi i,())∧b=(c,u,t4',t5',r,rd,wi i,())) 3 _ ?_ ?_ ⟨Arr.rep 3 false,rfl,rfl⟩ (by decide)
  ·rintro i a b hi ⟨rd,rfl,rfl⟩
   have hlt:W.lt (wi i) (W.of .i64 3)=true:=(lt_small (m:=3) (by omega) (by omega)).trans (by simpa using hi)
   obtain ⟨v,v1,v2⟩:=prf_get c.Phys (r.In.get i)
   simp only [B_place_put_19,B_ref45_put_19,ev_ite,ev_opt,ev_ret,hlt,if_true,wi_idx (sm (show i≤1000 by omega)),hi,bind_some',v1,v2,add_small (show i < 1000 by omega)]
   exact .inl ⟨_,_,rfl,rfl,_,rfl,rfl⟩
  ·rintro a b ⟨rd,rfl,rfl⟩
   exact ⟨_,_,rfl,rfl,rd,rfl,rfl⟩
 obtain ⟨o,o',k1,k2,rd,rfl,rfl⟩:=key
 exact ⟨rd,k1,k2⟩
theorem kept_rob (a b:Sl 248 TRob) (ok:Bool):F_place_kept_Rob a b ok=some (if ok=true then b else a):=by cases ok<;>rfl
theorem kept_iq (a b:Sl 224 TIq) (ok:Bool):F_place_kept_Iq a b ok=some (if ok=true then b else a):=by cases ok<;>rfl
theorem kept_lq (a b:Sl 48 TLq) (ok:Bool):F_place_kept_Lq a b ok=some (if ok=true then b else a):=by cases ok<;>rfl
theorem kept_sq (a b:Sl 32 TSq) (ok:Bool):F_place_kept_Sq a b ok=some (if ok=true then b else a):=by cases ok<;>rfl
theorem place_put_eq (c:TCore) (u:TUop) (h1:c.Rob.l.length≤1000) (h2:c.Iq.l.length≤1000) (h3:c.Lq.l.length≤1000) (h4:c.Sq.l.length≤1000):∃ r,F_place_put c u=some r∧F_ref45_put c u=some r∧Grow c r.1:=by
 obtain ⟨⟨s',r',okr⟩,e1,e2,_⟩:=rename_eq c.Names u
 obtain ⟨x,ok,x1,x2,x3⟩:=rob_put c.Rob h1 r' c.Conf.Rob
 obtain ⟨l,okl,l1,l2,l3⟩:=lq_put c.Lq h3 r'.Seq u.Slot.PC c.Conf.Lq
 obtain ⟨q,okq,q1,q2,q3⟩:=sq_put c.Sq h4 r'.Seq c.Conf.Sq
 obtain ⟨g,g1,g2⟩:=prf_drop c.Phys r'.Out
 have hW:W.eq u.Unit (W.of .i64 5)=true→W.eq u.Unit (W.of .i64 6)=false:=fun h=>by
  rw [W.eq_dec,decide_eq_true_eq] at h
  rw [h];rfl
 unfold F_place_put T_place_put F_ref45_put T_ref45_put
 simp only [ev_opt,ev_ite,ev_ret,e1,e2,bind_some',x1,x2,kept_rob,kept_iq,kept_lq,kept_sq,waits_p,pWaits]
 have k0:=Nat.le_succ c.Rob.l.length
 have k1:=Nat.le_succ c.Iq.l.length
 have k2:=Nat.le_succ c.Lq.l.length
 have k3:=Nat.le_succ c.Sq.l.length
 cases ok with
 | true=>
  simp only [if_true]
  cases W.ne u.Unit (W.of .i64 7) with
  | true=>
   simp only [if_true]
   obtain ⟨rd,rd1,rd2⟩:=ready_eq { c with Names:=s',Rob:=x } u (TCore.mk (TConf.mk (W.of .i64 0) (W.of .i64 0) (W.of .i64 0) (W.of .i64 0) (W.of .i64 0) (W.of .i64 0) (W.of .i64 0) (W.of .i64 0) (W.of .i64 0) (W.of .i64 0) (W.of .i64 0) (W.of .i64 0) (W.of .i64 0) (W.of .i64 0) (W.of .i64 0) (W.of .i64 0) (W.of .i64 0) (W.of .i64 0) (W.of .i64 0) (W.of .i64 0) (W.of .i64 0) false) (TArch.mk (W.of .u32 0) (Arr.rep 16 (W.of .u32 0)) (Arr.rep 12 (W.of .u32 0)) false) Sl.nil Sl.nil (W.of .u32 0) false (TPred.mk (W.of .u32 0) Sl.nil Sl.nil (W.of .i64 0) Sl.nil (W.of .i64 0)) Sl.nil (W.of .i64 0) Sl.nil (TNames.mk (Arr.rep 16 (W.of .i64 0)) (Arr.rep 16 (W.of .i64 0)) (TFree.mk Sl.nil (W.of .i64 0) (W.of .i64 0)) (W.of .u64 0)) (TPhys.mk Sl.nil Sl.nil) Sl.nil Sl.nil Sl.nil Sl.nil Sl.nil Sl.nil Sl.nil (W.of .i64 0) (W.of .i64 0)) _ (TNote.mk (W.of .i64 0) (W.of .i64 0) (W.of .u64 0) (W.of .u32 0)) _ r' c.Conf u.Slot.PC
   obtain ⟨y,oky,y1,y2,y3⟩:=iq_put c.Iq h2 r' rd c.Conf.Iq
   rw [show L_place_put_19 ({ c with Names:=s',Rob:=x },u,_,_,r',c.Conf,u.Slot.PC,Arr.rep 3 false,r'.In,W.of .i64 0,())=_ from rd1,show L_ref45_put_19 ({ c with Names:=s',Rob:=x },u,_,_,r',Arr.lit 3 [false,false,false] rfl,W.of .i64 0,())=_ from rd2]
   simp only [bind_some',y1,y2,g1,g2]
   cases h5:W.eq u.Unit (W.of .i64 5) with
   | true=>
    simp only [hW h5,Bool.false_eq_true,if_false,if_true,l1,l2,bind_some']
    cases oky<;>cases okl<;>exact ⟨_,rfl,rfl,⟨x3,by first | exact y3 | exact k1,by first | exact l3 | exact k2,k3,rfl,rfl⟩⟩
   | false=>
    simp only [Bool.false_eq_true,if_false]
    cases W.eq u.Unit (W.of .i64 6) with
    | true=>
     simp only [if_true,q1,q2,bind_some']
     cases oky<;>cases okq<;>exact ⟨_,rfl,rfl,⟨x3,by first | exact y3 | exact k1,k2,by first | exact q3 | exact k3,rfl,rfl⟩⟩
    | false=>
     simp only [Bool.false_eq_true,if_false]
     cases oky<;>exact ⟨_,rfl,rfl,⟨x3,by first | exact y3 | exact k1,k2,k3,rfl,rfl⟩⟩
  | false=>
   simp only [Bool.false_eq_true,if_false,g1,g2,bind_some']
   cases h5:W.eq u.Unit (W.of .i64 5) with
   | true=>
    simp only [hW h5,Bool.false_eq_true,if_false,if_true,l1,l2,bind_some']
    cases okl<;>exact ⟨_,rfl,rfl,⟨x3,k1,by first | exact l3 | exact k2,k3,rfl,rfl⟩⟩
   | false=>
    simp only [Bool.false_eq_true,if_false]
    cases W.eq u.Unit (W.of .i64 6) with
    | true=>
     simp only [if_true,q1,q2,bind_some']
     cases okq<;>exact ⟨_,rfl,rfl,⟨x3,k1,k2,by first | exact q3 | exact k3,rfl,rfl⟩⟩
    | false=>exact ⟨_,rfl,rfl,⟨x3,k1,k2,k3,rfl,rfl⟩⟩
 | false=>
  simp only [Bool.false_eq_true,if_false]
  cases W.ne u.Unit (W.of .i64 7) with
  | true=>
   simp only [if_true]
   obtain ⟨rd,rd1,rd2⟩:=ready_eq { c with Names:=s' } u (TCore.mk (TConf.mk (W.of .i64 0) (W.of .i64 0) (W.of .i64 0) (W.of .i64 0) (W.of .i64 0) (W.of .i64 0) (W.of .i64 0) (W.of .i64 0) (W.of .i64 0) (W.of .i64 0) (W.of .i64 0) (W.of .i64 0) (W.of .i64 0) (W.of .i64 0) (W.of .i64 0) (W.of .i64 0) (W.of .i64 0) (W.of .i64 0) (W.of .i64 0) (W.of .i64 0) (W.of .i64 0) false) (TArch.mk (W.of .u32 0) (Arr.rep 16 (W.of .u32 0)) (Arr.rep 12 (W.of .u32 0)) false) Sl.nil Sl.nil (W.of .u32 0) false (TPred.mk (W.of .u32 0) Sl.nil Sl.nil (W.of .i64 0) Sl.nil (W.of .i64 0)) Sl.nil (W.of .i64 0) Sl.nil (TNames.mk (Arr.rep 16 (W.of .i64 0)) (Arr.rep 16 (W.of .i64 0)) (TFree.mk Sl.nil (W.of .i64 0) (W.of .i64 0)) (W.of .u64 0)) (TPhys.mk Sl.nil Sl.nil) Sl.nil Sl.nil Sl.nil Sl.nil Sl.nil Sl.nil Sl.nil (W.of .i64 0) (W.of .i64 0)) _ (TNote.mk (W.of .i64 0) (W.of .i64 0) (W.of .u64 0) (W.of .u32 0)) _ r' c.Conf u.Slot.PC
   obtain ⟨y,oky,y1,y2,y3⟩:=iq_put c.Iq h2 r' rd c.Conf.Iq
   rw [show L_place_put_19 ({ c with Names:=s',Rob:=c.Rob },u,_,_,r',c.Conf,u.Slot.PC,Arr.rep 3 false,r'.In,W.of .i64 0,())=_ from rd1,show L_ref45_put_19 ({ c with Names:=s' },u,_,_,r',Arr.lit 3 [false,false,false] rfl,W.of .i64 0,())=_ from rd2]
   simp only [bind_some',y1,y2,g1,g2]
   cases h5:W.eq u.Unit (W.of .i64 5) with
   | true=>
    simp only [hW h5,Bool.false_eq_true,if_false,if_true,l1,l2,bind_some']
    cases oky<;>cases okl<;>exact ⟨_,rfl,rfl,⟨k0,by first | exact y3 | exact k1,by first | exact l3 | exact k2,k3,rfl,rfl⟩⟩
   | false=>
    simp only [Bool.false_eq_true,if_false]
    cases W.eq u.Unit (W.of .i64 6) with
    | true=>
     simp only [if_true,q1,q2,bind_some']
     cases oky<;>cases okq<;>exact ⟨_,rfl,rfl,⟨k0,by first | exact y3 | exact k1,k2,by first | exact q3 | exact k3,rfl,rfl⟩⟩
    | false=>
     simp only [Bool.false_eq_true,if_false]
     cases oky<;>exact ⟨_,rfl,rfl,⟨k0,by first | exact y3 | exact k1,k2,k3,rfl,rfl⟩⟩
  | false=>
   simp only [Bool.false_eq_true,if_false,g1,g2,bind_some']
   cases h5:W.eq u.Unit (W.of .i64 5) with
   | true=>
    simp only [hW h5,Bool.false_eq_true,if_false,if_true,l1,l2,bind_some']
    cases okl<;>exact ⟨_,rfl,rfl,⟨k0,k1,by first | exact l3 | exact k2,k3,rfl,rfl⟩⟩
   | false=>
    simp only [Bool.false_eq_true,if_false]
    cases W.eq u.Unit (W.of .i64 6) with
    | true=>
     simp only [if_true,q1,q2,bind_some']
     cases okq<;>exact ⟨_,rfl,rfl,⟨k0,k1,k2,by first | exact q3 | exact k3,rfl,rfl⟩⟩
    | false=>exact ⟨_,rfl,rfl,⟨k0,k1,k2,k3,rfl,rfl⟩⟩
end Go.Proofs.YtkddkpmijhionaaGreatDoor
