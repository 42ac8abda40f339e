/- YtedhidchlfhegaaGreatDoorRuns: a run step by step, and what its events tell. No statement of the seat is proved here. -/
import Derived.Test.YtedhidchlfhegaaGreatDoorRun
set_option linter.unusedSimpArgs false
set_option linter.unusedVariables false
set_option maxRecDepth 100000
namespace Go.Proofs.YtedhidchlfhegaaGreatDoor
open Go Go.A2
theorem iter_out {S β:Type} {f:S→Option (Rnd S β)} (I:Nat→S→Prop) (n:Nat) (Q:β→Prop)
  (step:∀ i s,i < n→I i s→(∃ t,f s=some (.next t)∧I (i+1) t)∨∃ b,f s=some (.out b)∧Q b)
  (last:∀ s,I n s→∃ b,f s=some (.out b)∧Q b) {s:S} (h0:I 0 s) {N:Nat} (hN:n < N):∃ b,iter f N s=some b∧Q b:=by
 have main:∀ (m i N:Nat) (s:S),n - i=m→i≤n→m < N→I i s→∃ b,iter f N s=some b∧Q b:=by
  intro m
  induction m with
  | zero=>
   intro i N s hm hi hN hI
   obtain ⟨N,rfl⟩:∃ M,N=M+1:=⟨N - 1,by omega⟩
   have:i=n:=by omega
   subst this
   obtain ⟨b,h1,h2⟩:=last s hI
   exact ⟨b,by rw [iter_succ,h1],h2⟩
  | succ m ih=>
   intro i N s hm hi hN hI
   obtain ⟨N,rfl⟩:∃ M,N=M+1:=⟨N - 1,by omega⟩
   rcases step i s (by omega) hI with ⟨t,h1,h2⟩ | ⟨b,h1,h2⟩
   ·rw [iter_succ,h1]
    exact ih (i+1) N t (by omega) (by omega) (by omega) h2
   ·exact ⟨b,by rw [iter_succ,h1],h2⟩
 exact main n 0 N s (by omega) (by omega) hN h0
def upA (irqs:List TIrq) (k:W .i64) (A:TArch):TArch:=irqs.foldl (fun A q=>if W.eq q.At k=true then (F_csr_Raise A q.Lines).getD A else A) A
theorem upA_snoc (l:List TIrq) (q:TIrq) (k:W .i64) (A:TArch):upA (l++[q]) k A=if W.eq q.At k=true then (F_csr_Raise (upA l k A) q.Lines).getD (upA l k A) else upA l k A:=by
 unfold upA;rw [List.foldl_append];rfl
theorem ups (irqs:Sl 16 TIrq) (hq:irqs.l.length < fuel) (m t:TMach) (out:Sl 72 TEvent) (k N:W .i64):
  L_run_Run_18 (irqs,m,t,out,k,N,k,irqs,Sl.len irqs,W.of .i64 0,())=some (irqs,{ m with A:=upA irqs.l k m.A },t,out,N,k,()):=by
 have key:∃ b,L_run_Run_18 (irqs,m,t,out,k,N,k,irqs,Sl.len irqs,wi 0,())=some b∧b=(irqs,{ m with A:=upA irqs.l k m.A },t,out,N,k,()):=by
  unfold L_run_Run_18
  refine iter_out (fun j s=>s=(irqs,{ m with A:=upA (irqs.l.take j) k m.A },t,out,k,N,k,irqs,Sl.len irqs,wi j,())) irqs.l.length _ ?_ ?_ (by rfl) hq
  ·rintro j s hj rfl
   obtain ⟨r,r1,_⟩:=raise_eq (upA (irqs.l.take j) k m.A) (nth irqs.l j).Lines
   rw [take_nth hj,upA_snoc]
   simp only [B_run_Run_18,ev_ite,ev_opt,ev_ret,lt_len irqs hj,if_true,Sl.get_wi irqs hj,bind_some',r1,wi_next irqs hj,Option.getD_some]
   cases W.eq (nth irqs.l j).At k with
   | true=>exact .inl ⟨_,rfl,rfl⟩
   | false=>exact .inl ⟨_,rfl,rfl⟩
  ·rintro s rfl
   simp only [B_run_Run_18,ev_ite,ev_ret,lt_end irqs,Bool.false_eq_true,if_false,List.take_length]
   exact ⟨_,rfl,rfl⟩
 obtain ⟨b,k1,rfl⟩:=key
 exact k1
abbrev upM (irqs:List TIrq) (i:Nat) (m:TMach):TMach:={ m with A:=upA irqs (wi i) m.A }
inductive Runs (irqs:List TIrq):Nat→TMach→Nat→TMach→List TEvent→Prop
 | zero (i:Nat) (m:TMach):Runs irqs i m 0 m []
 | halt (i:Nat) (m:TMach) (n:Nat) {r:TMach×TEvent×Bool} (h:F_step_Step (upM irqs i m)=some r) (hk:r.2.2=false):Runs irqs i m (n+1) (upM irqs i m) []
 | step (i:Nat) (m:TMach) (n:Nat) {r:TMach×TEvent×Bool} (h:F_step_Step (upM irqs i m)=some r) (hk:r.2.2=true) (hd:Kind (upM irqs i m) r) {m':TMach} {l:List TEvent} (hr:Runs irqs (i+1) r.1 n m' l):Runs irqs i m (n+1) m' (r.2.1 :: l)
theorem run_runs (m:TMach) (hs:m.Shadow.l.length=m.Mem.l.length) (ho:m.Out.l.length≤100) (irqs:Sl 16 TIrq) (hq:irqs.l.length≤12) (n:W .i64) (hn:n.n≤60):
  ∃ m' out i,F_run_Run m irqs n=some (m',out)∧i≤60∧i≤n.n.toNat∧Ran m m' out i∧Runs irqs.l 0 m n.n.toNat m' out.l:=by
 have hN:W.min (W.max n (W.of .i64 0)) (W.of .i64 4096)=wi n.n.toNat:=by
  refine W.ext ?_
  rw [W.min_n,W.max_n,show (W.of .i64 0).n=0 from rfl,show (W.of .i64 4096).n=4096 from rfl,wi_n (sm (by omega))]
  split<;>split<;>omega
 have main:∀ t:TMach,∃ b,L_run_Run_7 (irqs,m,t,Sl.nil,wi n.n.toNat,wi 0,())=some b∧∃ m' out i,i≤n.n.toNat∧Ran m m' out i∧Runs irqs.l 0 m n.n.toNat m' out.l∧b=(m',t,out,()):=fun t=>by
  unfold L_run_Run_7
  refine iter_out (fun i s=>∃ m' out,Ran m m' out i∧(∀ x l,Runs irqs.l i m' (n.n.toNat - i) x l→Runs irqs.l 0 m n.n.toNat x (out.l++l))∧s=(irqs,m',t,out,wi n.n.toNat,wi i,())) n.n.toNat _ ?_ ?_ ⟨m,Sl.nil,⟨rfl,hs,Nat.le_refl _,rfl⟩,fun x l h=>h,rfl⟩ (by show _ < 1048576;omega)
  ·rintro i s hi ⟨m',out,hR,hC,rfl⟩
   have hU:=ups irqs (by show _ < 1048576;omega) m' t out (wi i) (wi n.n.toNat)
   have hR1:=hR.o
   have hR2:=hR.ev
   obtain ⟨r,r1,r2,r3⟩:=step_eq (upM irqs.l i m') (by show m'.Out.l.length≤1000;omega)
   have hlt:W.lt (wi i) (wi n.n.toNat)=true:=(lt_small (by omega) (by omega)).trans (by simpa using hi)
   have hl:=kind_lens r3 (by show m'.Shadow.l.length=m'.Mem.l.length;rw [hR.sh,hR.mem])
   obtain ⟨r',e1,e2⟩:=app_lit (s:=out) (x:=r.2.1) (hb:=rfl) (by unfold room;omega) (by unfold room;omega)
   obtain ⟨k,hk'⟩:∃ k,n.n.toNat - i=k+1:=⟨n.n.toNat - i - 1,by omega⟩
   have hk2:n.n.toNat - (i+1)=k:=by omega
   simp only [B_run_Run_7,ev_ite,ev_opt,ev_ret,hlt,if_true,hU,bind_some',r1,e1,add_small (show i < 1000 by omega)]
   cases hk:r.2.2 with
   | true=>
    refine .inl ⟨_,rfl,r.1,r',⟨by rw [hl.1];exact hR.mem,by rw [hl.2.1];exact hR.mem,?_,by rw [e2,List.length_append,hR2];rfl⟩,fun x l h=>?_,rfl⟩
    ·have:=hl.2.2
     have:r.1.Out.l.length≤m'.Out.l.length+1:=this
     omega
    ·rw [e2,List.append_assoc]
     refine hC x _ ?_
     rw [hk']
     rw [hk2] at h
     exact .step i m' k r1 hk r3 h
   | false=>
    refine .inr ⟨_,rfl,upM irqs.l i m',out,i,by omega,⟨hR.mem,hR.sh,hR.o,hR.ev⟩,?_,rfl⟩
    rw [←List.append_nil out.l]
    refine hC _ _ ?_
    rw [hk']
    exact .halt i m' k r1 hk
  ·rintro s ⟨m',out,hR,hC,rfl⟩
   have hlt:W.lt (wi n.n.toNat) (wi n.n.toNat)=false:=(lt_small (by omega) (by omega)).trans (by simp)
   simp only [B_run_Run_7,ev_ite,ev_ret,hlt,Bool.false_eq_true,if_false]
   refine ⟨_,rfl,m',out,n.n.toNat,Nat.le_refl _,hR,?_,rfl⟩
   rw [←List.append_nil out.l]
   refine hC _ _ ?_
   rw [Nat.sub_self]
   exact .zero _ _
 unfold F_run_Run T_run_Run
 simp only [ev_opt,ev_ret,hN]
 obtain ⟨b,k1,m',out,i,hi,hR,hX,rfl⟩:=main _
 rw [show L_run_Run_7 (irqs,m,_,Sl.nil,wi n.n.toNat,W.of .i64 0,())=_ from k1]
 exact ⟨m',out,i,rfl,by omega,hi,hR,hX⟩
end Go.Proofs.YtedhidchlfhegaaGreatDoor
