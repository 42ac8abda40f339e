/- YtiadkommiljbpaaGreatDoorPurePrecise: traps are precise. No statement of the seat is proved here. -/
import Derived.Test.YtiadkommiljbpaaGreatDoorRight
set_option linter.unusedSimpArgs false
set_option linter.unusedVariables false
set_option maxRecDepth 100000
set_option maxHeartbeats 1000000
namespace Go.Proofs.YtiadkommiljbpaaGreatDoor
open Go Go.A2
theorem stepPrecise (m:TMach):F_law15_StepPrecise m=some true:=by
 obtain ⟨b,hL,hl⟩:=light15 m
 unfold F_law15_StepPrecise T_law15_StepPrecise
 rw [ev_opt,hL,bind_some',ev_ite]
 cases b with
 | false=>simp only [Bool.not_false,if_true,ev_opt,awake15,bind_some',ev_ret]
 | true=>
  have hM:=hl.1 rfl
  have ho:=hM.out
  have hm:=hM.mem
  have hs:=hM.right.sh
  obtain ⟨r,r1,_,r3⟩:=step_eq m (by omega)
  obtain ⟨c,c1,c2⟩:=right15 r.1
  obtain rfl:c=true:=c2.2 (kind_right hM.right r3)
  have sm0:=same_mach m (by show _ < 1048576;omega) (by show _ < 1048576;omega) (by show _ < 1048576;omega)
  have sb1:=self_same_Bytes m.Mem (by show _ < 1048576;omega)
  have sb2:=self_same_Bytes m.Shadow (by show _ < 1048576;omega)
  have sb3:=self_same_Words m.Out (by show _ < 1048576;omega)
  simp only [Bool.not_true,Bool.false_eq_true,if_false,ev_opt,r1,bind_some',c1,↓ev_ite]
  cases r3 with
  | halted hH=>simp only [↓ev_ite,↓ev_opt,ev_ret,sm0,awake15,bind_some',hH,Bool.not_true,Bool.not_false,beqB_self,Bool.false_eq_true,if_false,if_true]
  | @trap hH word cause val a ht=>
   obtain ⟨t1,t2,t3,t4,t5,_⟩:=take_facts ht
   have e1:Tab.eq tab (.arr 16 (.int .u32)) m.A.R m.A.R=true:=(eq_iff (X:=tab) tabOk (by rfl)).2 rfl
   simp only [↓ev_ite,↓ev_opt,ev_ret,awake15,bind_some',hH,Bool.not_true,Bool.not_false,beqB_self,Bool.false_eq_true,if_false,if_true,W.ne_self,W.eq_self,t1,t2,t3,t4,t5,e1,sb1,sb2,sb3]
   cases W.eq cause (W.of .i64 0)<;>cases W.eq cause (W.of .i64 10)<;>simp
  | done hH he hc=>
   simp only [↓ev_ite,↓ev_opt,ev_ret,awake15,bind_some',hH,Bool.not_true,Bool.not_false,beqB_self,Bool.false_eq_true,if_false,if_true,W.ne_self,W.eq_self,he.pc,he.cause0]
  | single hH he hc ht=>
   simp only [↓ev_ite,↓ev_opt,ev_ret,awake15,bind_some',hH,Bool.not_true,Bool.not_false,beqB_self,Bool.false_eq_true,if_false,if_true,W.ne_self,W.eq_self,he.pc,show W.eq (W.of .i64 10) (W.of .i64 0)=false from rfl]
end Go.Proofs.YtiadkommiljbpaaGreatDoor
