/- YtedhidchlfhegaaGreatDoorStep: the plain machine's step is the document's. No statement of the seat is proved here. -/
import Derived.Test.YtedhidchlfhegaaGreatDoorDoes5
set_option linter.unusedSimpArgs false
set_option linter.unusedVariables false
set_option maxRecDepth 100000
set_option maxHeartbeats 1000000
namespace Go.Proofs.YtedhidchlfhegaaGreatDoor
open Go Go.A2
def zeroE:TEvent:=TEvent.mk (W.of .u32 0) (W.of .u32 0) (W.of .i64 0) (W.of .u32 0) (W.of .i64 0) (W.of .u32 0) (W.of .i64 0) (W.of .u32 0) (W.of .u32 0) (W.of .i64 0) (W.of .u32 0) (W.of .u32 0)
inductive Kind (m:TMach):TMach×TEvent×Bool→Prop
 | halted (h:m.A.Halt=true):Kind m (m,zeroE,false)
 | trap (h:m.A.Halt=false) {word:W .u32} {cause:W .i64} {val:W .u32} {a:TArch} (ht:F_trap_Take m.A cause val m.A.PC=some a):Kind m ({ m with A:=a },TEvent.mk m.A.PC word (W.of .i64 (-1)) (W.of .u32 0) (W.of .i64 (-1)) (W.of .u32 0) (W.of .i64 0) (W.of .u32 0) (W.of .u32 0) cause val a.PC,true)
 | done (h:m.A.Halt=false) {word:W .u32} {w:TWork} {ct:TArch} (he:Eff m word w) (hc:F_csr_Count { w.m.A with PC:=w.next_ }=some ct):Kind m ({ w.m with A:=ct },{ w.ev with Next:=ct.PC },true)
 | single (h:m.A.Halt=false) {word:W .u32} {w:TWork} {ct a:TArch} (he:Eff m word w) (hc:F_csr_Count { w.m.A with PC:=w.next_ }=some ct) (ht:F_trap_Take ct (W.of .i64 10) (W.of .u32 0) ct.PC=some a):Kind m ({ w.m with A:=a },{ w.ev with Cause:=W.of .i64 10,Next:=a.PC },true)
theorem traps_eq (m:TMach) (hm:m.A.Halt=false) (w:W .u32) (c:W .i64) (v:W .u32):∃ r,F_step_traps m w c v=some r∧F_ref15_trapped m w c v=some r∧Kind m r:=by
 obtain ⟨r,r1,r2⟩:=take_eq m.A c v m.A.PC
 unfold F_step_traps T_step_traps F_ref15_trapped T_ref15_trapped
 simp only [ev_opt,ev_ret,r1,r2,bind_some']
 exact ⟨_,rfl,rfl,.trap hm r1⟩
theorem count_pc {a r:TArch} (h:F_csr_Count a=some r):r.PC=a.PC:=by
 unfold F_csr_Count T_csr_Count at h
 simp only [ev_ite,ev_ret] at h
 repeat' split at h
 all_goals (cases h;rfl)
theorem step_eq (m:TMach) (hout:m.Out.l.length≤1000):∃ r,F_step_Step m=some r∧F_ref15_Step m=some r∧Kind m r:=by
 unfold F_step_Step T_step_Step F_ref15_Step T_ref15_Step
 rw [ev_ite,ev_ite]
 cases hH:m.A.Halt with
 | true=>exact ⟨_,rfl,rfl,.halted hH⟩
 | false=>
  simp only [Bool.false_eq_true,if_false]
  obtain ⟨p,p1,p2⟩:=pending_eq m.A
  rw [ev_opt,ev_opt,p1,p2,bind_some',bind_some',ev_ite,ev_ite]
  cases W.ne p (W.of .i64 0) with
  | true=>
   obtain ⟨r,r1,r2,r3⟩:=traps_eq m hH (W.of .u32 0) p (W.of .u32 0)
   simp only [if_true,ev_opt,r1,r2,bind_some',ev_ret]
   exact ⟨_,rfl,rfl,r3⟩
  | false=>
   simp only [Bool.false_eq_true,if_false]
   obtain ⟨s,s1,s2⟩:=stops_eq m.A m.A.PC
   rw [ev_opt,ev_opt,s1,s2,bind_some',bind_some',ev_ite,ev_ite]
   cases s with
   | true=>
    obtain ⟨r,r1,r2,r3⟩:=traps_eq m hH (W.of .u32 0) (W.of .i64 3) m.A.PC
    simp only [if_true,ev_opt,r1,r2,bind_some',ev_ret]
    exact ⟨_,rfl,rfl,r3⟩
   | false=>
    simp only [Bool.false_eq_true,if_false]
    obtain ⟨f,f1,f2⟩:=fetch_eq m
    rw [ev_opt,ev_opt,f1,f2,bind_some',bind_some',ev_ite,ev_ite]
    cases W.ne f.2 (W.of .i64 0) with
    | true=>
     obtain ⟨r,r1,r2,r3⟩:=traps_eq m hH (W.of .u32 0) f.2 m.A.PC
     simp only [if_true,ev_opt,r1,r2,bind_some',ev_ret]
     exact ⟨_,rfl,rfl,r3⟩
    | false=>
     simp only [Bool.false_eq_true,if_false]
     obtain ⟨d,d1,d2,d3⟩:=dec_eq f.1
     rw [ev_opt,ev_opt,d1,d2,bind_some',bind_some',ev_ite,ev_ite]
     cases hd:W.ne d.2 (W.of .i64 0) with
     | true=>
      obtain ⟨r,r1,r2,r3⟩:=traps_eq m hH f.1 (W.of .i64 2) f.1
      simp only [if_true,ev_opt,r1,r2,bind_some',ev_ret]
      exact ⟨_,rfl,rfl,r3⟩
     | false=>
      simp only [Bool.false_eq_true,if_false]
      obtain ⟨pv,v1,v2⟩:=priv_eq d.1.Op
      rw [ev_opt,ev_opt,v1,v2,bind_some',bind_some',ev_ite,ev_ite]
      obtain ⟨w,x,w1,w2,w3,w4⟩:=does_eq m f.1 d.1 (d3 hd) hout
      obtain ⟨sg,g1,g2⟩:=single_eq m.A
      have w2':F_ref15_do m (TEvent.mk m.A.PC f.1 (W.of .i64 (-1)) (W.of .u32 0) (W.of .i64 (-1)) (W.of .u32 0) (W.of .i64 0) (W.of .u32 0) (W.of .u32 0) (W.of .i64 0) (W.of .u32 0) (W.of .u32 0)) d.1=some x:=w2
      have fin:∃ r,(if W.ne w.cause (W.of .i64 0)=true then (F_step_traps m f.1 w.cause w.val).bind fun r=>some (r.1,r.2.1,r.2.2) else (F_csr_Count { w.m.A with PC:=w.next_ }).bind fun r14=>(F_trap_Single m.A).bind fun r15=>if r15=true then (if (!r14.Halt)=true then (F_trap_Take r14 (W.of .i64 10) (W.of .u32 0) w.next_).bind fun r16=>some ({ w.m with A:=r16 },{ w.ev with Cause:=W.of .i64 10,Next:=r16.PC },true) else some ({ w.m with A:=r14 },{ w.ev with Next:=r14.PC },true)) else some ({ w.m with A:=r14 },{ w.ev with Next:=r14.PC },true))=some r ∧
        (if W.ne x.2.2.1 (W.of .i64 0)=true then (F_ref15_trapped m f.1 x.2.2.1 x.2.2.2).bind fun r=>some (r.1,r.2.1,r.2.2) else (F_ref11_Count x.1.A).bind fun r15=>if sg=true then (if (!r15.Halt)=true then (F_ref14_Take r15 (W.of .i64 10) (W.of .u32 0) r15.PC).bind fun r16=>some ({ x.1 with A:=r16 },{ x.2.1 with Cause:=W.of .i64 10,Next:=r16.PC },true) else some ({ x.1 with A:=r15 },{ x.2.1 with Next:=r15.PC },true)) else some ({ x.1 with A:=r15 },{ x.2.1 with Next:=r15.PC },true))=some r∧Kind m r:=by
       rcases w3 with ⟨h1,h2,h3,h4⟩ | ⟨h1,h2,h3⟩
       ·rw [h1,h2,W.ne_self,if_neg (by simp),if_neg (by simp)]
        obtain ⟨ct,ct1⟩:=count_some { w.m.A with PC:=w.next_ }
        have hpc:ct.PC=w.next_:=count_pc ct1
        have e1:x.1.A={ w.m.A with PC:=w.next_ }:=by rw [h3]
        have ct2:F_ref11_Count x.1.A=some ct:=by rw [e1,←count_eq];exact ct1
        obtain ⟨tk,tk1,tk2⟩:=take_eq ct (W.of .i64 10) (W.of .u32 0) w.next_
        have he:=w4 h1
        have tk3:F_trap_Take ct (W.of .i64 10) (W.of .u32 0) ct.PC=some tk:=by rw [hpc];exact tk1
        rw [ct1,ct2,bind_some',bind_some',g1,bind_some',hpc,tk1,tk2,h4,h3]
        cases sg with
        | false=>exact ⟨_,rfl,by rw [←hpc];rfl,by rw [←hpc];exact .done hH he ct1⟩
        | true=>
         cases ct.Halt with
         | false=>exact ⟨_,rfl,rfl,.single hH he ct1 tk3⟩
         | true=>exact ⟨_,rfl,by rw [←hpc];rfl,by rw [←hpc];exact .done hH he ct1⟩
       ·rw [h2,h3,h1,if_pos rfl,if_pos rfl]
        obtain ⟨r,r1,r2,r3⟩:=traps_eq m hH f.1 w.cause w.val
        rw [r1,r2]
        exact ⟨_,rfl,rfl,r3⟩
      obtain ⟨r,fin1,fin2,fin3⟩:=fin
      cases pv with
      | false=>
       refine ⟨r,?_,?_,fin3⟩
       ·simp only [Bool.false_eq_true,if_false,ev_opt,ev_ite,ev_ret,w1,bind_some']
        exact fin1
       ·simp only [Bool.false_eq_true,if_false,ev_opt,ev_ite,ev_ret,w2',g2,bind_some']
        exact fin2
      | true=>
       simp only [if_true,ev_opt,kernel_p,kernel_d,bind_some',ev_ite]
       cases kern m.A with
       | false=>
        obtain ⟨r,r1,r2,r3⟩:=traps_eq m hH f.1 (W.of .i64 8) f.1
        simp only [Bool.not_false,if_true,r1,r2,bind_some',ev_ret]
        exact ⟨_,rfl,rfl,r3⟩
       | true=>
        refine ⟨r,?_,?_,fin3⟩
        ·simp only [Bool.not_true,Bool.false_eq_true,if_false,ev_opt,ev_ite,ev_ret,w1,bind_some']
         exact fin1
        ·simp only [Bool.not_true,Bool.false_eq_true,if_false,ev_opt,ev_ite,ev_ret,w2',g2,bind_some']
         exact fin2
end Go.Proofs.YtedhidchlfhegaaGreatDoor
