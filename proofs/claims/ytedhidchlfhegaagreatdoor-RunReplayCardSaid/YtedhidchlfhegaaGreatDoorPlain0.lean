/- YtedhidchlfhegaaGreatDoorPureRunReplay: registers and address behind a run are what its events leave. No statement of the seat is proved here. -/
import Derived.Test.YtedhidchlfhegaaGreatDoorRuns
import Derived.Test.YtedhidchlfhegaaGreatDoorRight
set_option linter.unusedSimpArgs false
set_option linter.unusedVariables false
set_option maxRecDepth 100000
namespace Go.Proofs.YtedhidchlfhegaaGreatDoor
open Go Go.A2
theorem awake16:F_law16_awake=some true:=by kernel_rfl
theorem Arr.ext_get {n:Nat} {α:Type} [Inhabited α] {a b:Arr n α} (h:∀ i,i < n→a.get i=b.get i):a=b:=by
 refine Arr.ext (List.ext_getElem (by rw [a.h,b.h]) fun i h1 h2=>?_)
 have:=h i (by rw [←a.h];exact h1)
 unfold Arr.get at this
 rwa [getD_nth h1,getD_nth h2,nth_elem h1,nth_elem h2] at this
structure Tel (m:TMach) (r:TMach×TEvent×Bool):Prop where
 regs:∀ i:Nat,i < 16→r.1.A.R.get i=if 0 < i∧r.2.1.Rd.n=i then r.2.1.Val else if 0 < i∧r.2.1.Rd2.n=i then r.2.1.Val2 else m.A.R.get i
 next:r.2.1.Next=r.1.A.PC
theorem kind_tel {m:TMach} {r:TMach×TEvent×Bool} (h:Kind m r) (hk:r.2.2=true):Tel m r:=by
 cases h with
 | halted _=>cases hk
 | trap _ ht=>
  refine ⟨fun i hi=>?_,rfl⟩
  have:¬ (0 < i∧(W.of .i64 (-1)).n=(i:Int)):=fun h=>by rw [show (W.of .i64 (-1)).n=-1 from rfl] at h;omega
  refine (congrArg (fun R=>Arr.get R i) (take_facts ht).1).trans ?_
  show m.A.R.get i=if 0 < i∧(W.of .i64 (-1)).n=(i:Int) then _ else if 0 < i∧(W.of .i64 (-1)).n=(i:Int) then _ else _
  rw [if_neg this,if_neg this]
 | done _ he hc=>
  exact ⟨fun i hi=>(congrArg (fun R=>Arr.get R i) (count_facts hc).1).trans (he.regs i hi),rfl⟩
 | single _ he hc ht=>
  exact ⟨fun i hi=>((congrArg (fun R=>Arr.get R i) (take_facts ht).1).trans (congrArg (fun R=>Arr.get R i) (count_facts hc).1)).trans (he.regs i hi),rfl⟩
def putA (r:W .i64) (v:W .u32) (a:TArch):TArch:=if 0 < r.n∧r.n < 16 then { a with R:=Arr.set a.R r.n.toNat v } else a
theorem replay1 (r:W .i64) (v:W .u32) (a:TArch):F_run_Replay_1 r v a=some (putA r v a):=by
 unfold F_run_Replay_1 T_run_Replay_1 putA
 have g1:W.gt r (W.of .i64 0)=decide (0 < r.n):=iff_bool (by rw [W.gt_n,show (W.of .i64 0).n=0 from rfl,decide_eq_true_eq])
 have g2:W.lt r (W.of .i64 16)=decide (r.n < 16):=rfl
 simp only [ev_ite,ev_opt,ev_ret,g1,g2,decide_eq_true_eq]
 by_cases c1:0 < r.n
 ·by_cases c2:r.n < 16
  ·have e:idx? 16 r=some r.n.toNat:=by
    rw [of_small (show 0≤r.n by omega),wi_idx (sm (by omega)),wi_n (sm (by omega)),if_pos (by omega)];rfl
   rw [if_pos c1,if_pos c2,if_pos ⟨c1,c2⟩,e];rfl
  ·rw [if_pos c1,if_neg c2,if_neg (fun h=>c2 h.2)]
 ·rw [if_neg c1,if_neg (fun h=>c1 h.1)]
theorem put_get (r:W .i64) (v:W .u32) (a:TArch) {i:Nat} (hi:i < 16):(putA r v a).R.get i=if 0 < i∧r.n=i then v else a.R.get i:=by
 unfold putA
 by_cases c:0 < r.n∧r.n < 16
 ·rw [if_pos c]
  show (Arr.set a.R r.n.toNat v).get i=_
  rw [Arr.get_set (by omega)]
  by_cases e:r.n.toNat=i
  ·rw [if_pos e,if_pos (by omega)]
  ·rw [if_neg e,if_neg (by omega)]
 ·rw [if_neg c,if_neg (by omega)]
def tell (a:TArch) (e:TEvent):TArch:={ putA e.Rd e.Val (putA e.Rd2 e.Val2 a) with PC:=e.Next }
theorem replay (a:TArch) (l:Sl 72 TEvent) (hl:l.l.length < fuel):F_run_Replay a l=some (l.l.foldl tell a):=by
 have main:∀ (t:TArch) (u:(Unit)×(Unit×Unit)),∃ b,L_run_Replay_7 (a,t,u,l,Sl.len l,wi 0,())=some b∧b=(l.l.foldl tell a,t,()):=fun t u=>by
  unfold L_run_Replay_7
  refine iter_out (fun i s=>s=((l.l.take i).foldl tell a,t,u,l,Sl.len l,wi i,())) l.l.length _ ?_ ?_ (by rfl) hl
  ·rintro i s hi rfl
   rw [take_nth hi,List.foldl_append]
   simp only [B_run_Replay_7,ev_ite,ev_opt,ev_ret,lt_len l hi,if_true,Sl.get_wi l hi,bind_some',replay1,wi_next l hi]
   exact .inl ⟨_,rfl,rfl⟩
  ·rintro s rfl
   simp only [B_run_Replay_7,ev_ite,ev_ret,lt_end l,Bool.false_eq_true,if_false,List.take_length]
   exact ⟨_,rfl,rfl⟩
 obtain ⟨b,k1,rfl⟩:=main (TArch.mk (W.of .u32 0) (Arr.rep 16 (W.of .u32 0)) (Arr.rep 12 (W.of .u32 0)) false) ((),((),()))
 unfold F_run_Replay T_run_Replay
 simp only [ev_opt,ev_ret]
 rw [show L_run_Replay_7 (a,_,_,l,Sl.len l,W.of .i64 0,())=_ from k1]
 rfl
theorem runs_tell {irqs:List TIrq} {i n:Nat} {m m':TMach} {l:List TEvent} (h:Runs irqs i m n m' l):∀ a:TArch,a.R=m.A.R→a.PC=m.A.PC→(l.foldl tell a).R=m'.A.R∧(l.foldl tell a).PC=m'.A.PC:=by
 induction h with
 | zero i m=>exact fun a h1 h2=>⟨h1,h2⟩
 | halt i m n h hk=>exact fun a h1 h2=>⟨h1.trans (upA_keeps irqs (wi i) m.A).1.symm,h2.trans (upA_keeps irqs (wi i) m.A).2.symm⟩
 | step i m n h hk hd hr ih=>
  intro a h1 h2
  have ht:=kind_tel hd hk
  refine ih _ (Arr.ext_get fun j hj=>?_) ht.next
  show (putA _ _ (putA _ _ a)).R.get j=_
  rw [put_get _ _ _ hj,put_get _ _ _ hj,ht.regs j hj,h1]
  rw [show (upM irqs i m).A.R=m.A.R from (upA_keeps irqs (wi i) m.A).1]
theorem runReplay (m:TMach) (irqs:Sl 16 TIrq) (n:W .i64):F_law16_RunReplay m irqs n=some true:=by
 obtain ⟨b,hL,hl⟩:=light15 m
 unfold F_law16_RunReplay T_law16_RunReplay F_law16_few T_law16_few
 rw [ev_opt,hL,bind_some',ev_ite]
 cases b with
 | false=>simp only [Bool.not_false,if_true,ev_opt,awake16,bind_some',ev_ret]
 | true=>
  have hM:=hl.1 rfl
  have ho:=hM.out
  have hf:W.le (Sl.len irqs) (W.of .i64 12)=decide (irqs.l.length≤12):=len_le (n:=12) (sm (by omega))
  simp only [Bool.not_true,Bool.false_eq_true,if_false,ev_opt,ev_ret,bind_some',ev_ite,hf,awake16]
  by_cases c1:irqs.l.length≤12
  ·simp only [c1,decide_true,Bool.not_true,Bool.false_eq_true,if_false]
   cases hg:W.gt n (W.of .i64 60) with
   | true=>rfl
   | false=>
    have hn:n.n≤60:=by
     have:¬ W.gt n (W.of .i64 60)=true:=by rw [hg];simp
     rw [W.gt_n,show (W.of .i64 60).n=60 from rfl] at this;omega
    obtain ⟨m',out,i,r1,hi,_,hR,hX⟩:=run_runs m hM.right.sh (by omega) irqs c1 n hn
    have h4:=hR.ev
    obtain ⟨t1,t2⟩:=runs_tell hX m.A rfl rfl
    have e1:Tab.eq tab (.arr 16 (.int .u32)) (out.l.foldl tell m.A).R m'.A.R=true:=(eq_iff (X:=tab) tabOk (by rfl)).2 t1
    have e2:W.eq (out.l.foldl tell m.A).PC m'.A.PC=true:=by rw [t2,W.eq_self]
    simp only [Bool.false_eq_true,if_false,r1,bind_some',replay m.A out (by show _ < 1048576;omega),e1,e2,if_true]
  ·simp only [c1,decide_false,Bool.not_false,if_true]
end Go.Proofs.YtedhidchlfhegaaGreatDoor
