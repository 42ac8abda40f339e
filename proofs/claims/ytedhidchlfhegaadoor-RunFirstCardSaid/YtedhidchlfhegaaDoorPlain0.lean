/- YtedhidchlfhegaaDoorPureRunFirst: where any two lists of events part, and what is left behind them. No statement of the seat is proved here. -/
import Derived.Test.YtedhidchlfhegaaDoorFirst
set_option linter.unusedSimpArgs false
set_option linter.unusedVariables false
set_option maxRecDepth 100000
namespace Go.Proofs.YtedhidchlfhegaaDoor
open Go Go.A2
theorem awake16:F_law16_awake=some true:=by kernel_rfl
theorem replay_eq (a:TArch) (l:Sl 72 TEvent) (hl:l.l.length < fuel):∃ r,F_run_Replay a l=some r∧F_ref16_Replay a l=some r:=by
 have main:∀ (t t':TArch) (u:(Unit)×(Unit×Unit)),∃ o o',L_run_Replay_7 (a,t,u,l,Sl.len l,wi 0,())=some o∧L_ref16_Replay_5 (l,a,t',wi 0,())=some o'∧o.1=o'.1:=fun t t' u=>by
  unfold L_run_Replay_7 L_ref16_Replay_5
  refine iter_two (fun i s s'=>∃ b,s=(b,t,u,l,Sl.len l,wi i,())∧s'=(l,b,t',wi i,())) l.l.length _ ?_ ?_ ⟨a,rfl,rfl⟩ hl
  ·rintro i s s' hi ⟨b,rfl,rfl⟩
   have g1:∀ r:W .i64,W.gt r (W.of .i64 0)=decide (0 < r.n):=fun r=>iff_bool (by rw [W.gt_n,show (W.of .i64 0).n=0 from rfl,decide_eq_true_eq])
   have g2:∀ r:W .i64,W.lt r (W.of .i64 16)=decide (r.n < 16):=fun r=>rfl
   have e:∀ r:W .i64,0 < r.n→r.n < 16→idx? 16 r=some r.n.toNat:=fun r h1 h2=>by
    unfold idx?;rw [if_pos ⟨by omega,by omega⟩]
   simp only [B_run_Replay_7,B_ref16_Replay_5,F_run_Replay_1,T_run_Replay_1,ev_ite,ev_opt,ev_ret,lt_len l hi,if_true,Sl.get_wi l hi,bind_some',wi_next l hi,g1,g2,decide_eq_true_eq]
   refine .inl ?_
   by_cases p1:0 < (nth l.l i).Rd2.n<;>by_cases p2:(nth l.l i).Rd2.n < 16<;>by_cases q1:0 < (nth l.l i).Rd.n<;>by_cases q2:(nth l.l i).Rd.n < 16 <;>
   ·simp only [p1,p2,q1,q2,if_true,if_false,e,bind_some']
    exact ⟨_,_,rfl,rfl,_,rfl,rfl⟩
  ·rintro s s' ⟨b,rfl,rfl⟩
   simp only [B_run_Replay_7,B_ref16_Replay_5,ev_ite,ev_ret,lt_end l,Bool.false_eq_true,if_false]
   exact ⟨_,_,rfl,rfl,rfl⟩
 unfold F_run_Replay T_run_Replay F_ref16_Replay T_ref16_Replay
 obtain ⟨o,o',k1,k2,k3⟩:=main (TArch.mk (W.of .u32 0) (Arr.rep 16 (W.of .u32 0)) (Arr.rep 12 (W.of .u32 0)) false) (TArch.mk (W.of .u32 0) (Arr.rep 16 (W.of .u32 0)) (Arr.rep 12 (W.of .u32 0)) false) ((),((),()))
 simp only [ev_opt,ev_ret,show L_run_Replay_7 (a,_,_,l,Sl.len l,W.of .i64 0,())=_ from k1,show L_ref16_Replay_5 (l,a,_,W.of .i64 0,())=_ from k2,bind_some']
 exact ⟨_,rfl,by rw [k3]⟩
theorem arch_eq (a:TArch):Tab.eq tab (.named .TArch) a a=true:=(eq_iff (X:=tab) tabOk (by rfl)).2 rfl
theorem runFirst (a b:Sl 72 TEvent) (s:TArch):F_law16_RunFirst a b s=some true:=by
 have ha:W.gt (Sl.len a) (W.of .i64 60)=decide (60 < a.l.length):=len_gt (n:=60) (sm (by omega))
 have hb:W.gt (Sl.len b) (W.of .i64 60)=decide (60 < b.l.length):=len_gt (n:=60) (sm (by omega))
 unfold F_law16_RunFirst T_law16_RunFirst
 simp only [ev_ite,ev_opt,ev_ret,ha,hb,decide_eq_true_eq,awake16,bind_some']
 by_cases c1:60 < a.l.length
 ·rw [if_pos c1]
 ·rw [if_neg c1]
  by_cases c2:60 < b.l.length
  ·rw [if_pos c2]
  ·rw [if_neg c2]
   obtain ⟨r,r1,r2,_⟩:=first_eq a b (by omega) (by omega)
   obtain ⟨q,q1,q2⟩:=replay_eq s a (by show _ < 1048576;omega)
   simp only [r1,r2,q1,q2,bind_some',W.eq_self,arch_eq,if_true]
end Go.Proofs.YtedhidchlfhegaaDoor
