/- YtedhidchlfhegaaGreatDoorPureRunDoes: any run is the document's. No statement of the seat is proved here. -/
import Derived.Test.YtedhidchlfhegaaGreatDoorRun
set_option linter.unusedSimpArgs false
set_option linter.unusedVariables false
set_option maxRecDepth 100000
namespace Go.Proofs.YtedhidchlfhegaaGreatDoor
open Go Go.A2
theorem awake16:F_law16_awake=some true:=by kernel_rfl
theorem runDoes (m:TMach) (irqs:Sl 16 TIrq) (n:W .i64):F_law16_RunDoes m irqs n=some true:=by
 obtain ⟨b,hL,hl⟩:=light15 m
 unfold F_law16_RunDoes T_law16_RunDoes F_law16_few T_law16_few
 rw [ev_opt,hL,bind_some',ev_ite]
 cases b with
 | false=>simp only [Bool.not_false,if_true,ev_opt,awake16,bind_some',ev_ret]
 | true=>
  have hM:=hl.1 rfl
  have ho:=hM.out
  have hm:=hM.mem
  have hf:W.le (Sl.len irqs) (W.of .i64 12)=decide (irqs.l.length≤12):=len_le (n:=12) (sm (by omega))
  simp only [Bool.not_true,Bool.false_eq_true,if_false,ev_opt,ev_ret,bind_some',ev_ite,hf,awake16]
  by_cases c1:irqs.l.length≤12
  ·simp only [c1,decide_true,Bool.not_true,Bool.false_eq_true,if_false]
   cases hg:W.gt n (W.of .i64 60) with
   | true=>rfl
   | false=>
    have hn:n.n≤60:=by
     have:¬ W.gt n (W.of .i64 60)=true:=by rw [hg];simp
     rw [W.gt_n,show (W.of .i64 60).n=60 from rfl] at this;omega
    obtain ⟨m',out,i,r1,r2,hi,hR⟩:=run_eq m hM.right.sh ho irqs c1 n hn
    have h1:=hR.mem
    have h2:=hR.sh
    have h3:=hR.o
    have h4:=hR.ev
    have s1:=same_mach m' (by show _ < 1048576;omega) (by show _ < 1048576;omega) (by show _ < 1048576;omega)
    have s2:=self_same_Events out (by show _ < 1048576;omega)
    simp only [Bool.false_eq_true,if_false,r1,r2,bind_some',s1,s2,if_true]
  ·simp only [c1,decide_false,Bool.not_false,if_true]
end Go.Proofs.YtedhidchlfhegaaGreatDoor
