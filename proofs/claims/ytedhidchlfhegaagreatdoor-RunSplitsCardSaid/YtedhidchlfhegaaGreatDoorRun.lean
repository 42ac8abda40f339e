/- YtedhidchlfhegaaGreatDoorRun: a run of the plain machine is the document's. No statement of the seat is proved here. -/
import Derived.Test.YtedhidchlfhegaaGreatDoorKind
set_option linter.unusedSimpArgs false
set_option linter.unusedVariables false
set_option maxRecDepth 100000
namespace Go.Proofs.YtedhidchlfhegaaGreatDoor
open Go Go.A2
theorem iter_pair {S S' β β':Type} {f:S→Option (Rnd S β)} {g:S'→Option (Rnd S' β')} (I:Nat→S→S'→Prop) (n:Nat) (Q:β→β'→Prop)
  (step:∀ i s s',i < n→I i s s'→(∃ t t',f s=some (.next t)∧g s'=some (.next t')∧I (i+1) t t')∨∃ b b',f s=some (.out b)∧g s'=some (.out b')∧Q b b')
  (last:∀ s s',I n s s'→∃ b b',f s=some (.out b)∧g s'=some (.out b')∧Q b b') {s:S} {s':S'} (h0:I 0 s s') {N:Nat} (hN:n < N):
  ∃ b b',iter f N s=some b∧iter g N s'=some b'∧Q b b':=by
 have main:∀ (m i N:Nat) (s:S) (s':S'),n - i=m→i≤n→m < N→I i s s'→∃ b b',iter f N s=some b∧iter g N s'=some b'∧Q b b':=by
  intro m
  induction m with
  | zero=>
   intro i N s s' hm hi hN hI
   obtain ⟨N,rfl⟩:∃ M,N=M+1:=⟨N - 1,by omega⟩
   have:i=n:=by omega
   subst this
   obtain ⟨b,b',h1,h2,h3⟩:=last s s' hI
   exact ⟨b,b',by rw [iter_succ,h1],by rw [iter_succ,h2],h3⟩
  | succ m ih=>
   intro i N s s' hm hi hN hI
   obtain ⟨N,rfl⟩:∃ M,N=M+1:=⟨N - 1,by omega⟩
   rcases step i s s' (by omega) hI with ⟨t,t',h1,h2,h3⟩ | ⟨b,b',h1,h2,h3⟩
   ·rw [iter_succ,iter_succ,h1,h2]
    exact ih (i+1) N t t' (by omega) (by omega) (by omega) h3
   ·exact ⟨b,b',by rw [iter_succ,h1],by rw [iter_succ,h2],h3⟩
 exact main n 0 N s s' (by omega) (by omega) hN h0
theorem raise_eq (a:TArch) (l:W .u32):∃ r,F_csr_Raise a l=some r∧F_ref11_Raise a l=some r:=by
 have e:W.and l (W.of .u32 7)=W.rem l (W.of .u32 8):=W.ext_v (by rw [W.and_v,W.rem_v,show (W.of .u32 7).v=2 ^ 3 - 1 from rfl,show (W.of .u32 8).v=2 ^ 3 from rfl,Nat.and_two_pow_sub_one_eq_mod])
 unfold F_csr_Raise T_csr_Raise F_ref11_Raise T_ref11_Raise
 rw [e]
 exact ⟨_,rfl,rfl⟩
theorem raises (irqs:Sl 16 TIrq) (hq:irqs.l.length < fuel) (n:W .i64) (m t t':TMach) (out out':Sl 72 TEvent) (k N:W .i64):
  ∃ A,L_run_Run_18 (irqs,m,t,out,k,N,k,irqs,Sl.len irqs,W.of .i64 0,())=some (irqs,{ m with A:=A },t,out,N,k,())∧L_ref16_Run_20 (irqs,n,m,t',out',k,W.of .i64 0,())=some (irqs,n,{ m with A:=A },t',out',k,()):=by
 have key:∃ b b',L_run_Run_18 (irqs,m,t,out,k,N,k,irqs,Sl.len irqs,wi 0,())=some b∧L_ref16_Run_20 (irqs,n,m,t',out',k,wi 0,())=some b'∧∃ A,b=(irqs,{ m with A:=A },t,out,N,k,())∧b'=(irqs,n,{ m with A:=A },t',out',k,()):=by
  unfold L_run_Run_18 L_ref16_Run_20
  refine iter_pair (fun j s s'=>∃ A,s=(irqs,{ m with A:=A },t,out,k,N,k,irqs,Sl.len irqs,wi j,())∧s'=(irqs,n,{ m with A:=A },t',out',k,wi j,())) irqs.l.length _ ?_ ?_ ⟨m.A,rfl,rfl⟩ hq
  ·rintro j s s' hj ⟨A,rfl,rfl⟩
   obtain ⟨r,r1,r2⟩:=raise_eq A (nth irqs.l j).Lines
   simp only [B_run_Run_18,B_ref16_Run_20,ev_ite,ev_opt,ev_ret,lt_len irqs hj,if_true,Sl.get_wi irqs hj,bind_some',r1,r2,wi_next irqs hj]
   cases W.eq (nth irqs.l j).At k with
   | true=>exact .inl ⟨_,_,rfl,rfl,r,rfl,rfl⟩
   | false=>exact .inl ⟨_,_,rfl,rfl,A,rfl,rfl⟩
  ·rintro s s' ⟨A,rfl,rfl⟩
   simp only [B_run_Run_18,B_ref16_Run_20,ev_ite,ev_ret,lt_end irqs,Bool.false_eq_true,if_false]
   exact ⟨_,_,rfl,rfl,A,rfl,rfl⟩
 obtain ⟨b,b',k1,k2,A,rfl,rfl⟩:=key
 exact ⟨A,k1,k2⟩
structure Ran (m m':TMach) (out:Sl 72 TEvent) (i:Nat):Prop where
 mem:m'.Mem.l.length=m.Mem.l.length
 sh:m'.Shadow.l.length=m.Mem.l.length
 o:m'.Out.l.length≤m.Out.l.length+i
 ev:out.l.length=i
theorem run_eq (m:TMach) (hs:m.Shadow.l.length=m.Mem.l.length) (ho:m.Out.l.length≤60) (irqs:Sl 16 TIrq) (hq:irqs.l.length≤12) (n:W .i64) (hn:n.n≤60):
  ∃ m' out i,F_run_Run m irqs n=some (m',out)∧F_ref16_Run m irqs n=some (m',out)∧i≤60∧Ran m m' out i:=by
 have hN:W.min (W.max n (W.of .i64 0)) (W.of .i64 4096)=wi n.n.toNat:=by
  refine W.ext ?_
  rw [W.min_n,W.max_n,show (W.of .i64 0).n=0 from rfl,show (W.of .i64 4096).n=4096 from rfl,wi_n (sm (by omega))]
  split<;>split<;>omega
 have hg:W.gt n (W.of .i64 4096)=false:=by
  have:¬ W.gt n (W.of .i64 4096)=true:=by rw [W.gt_n,show (W.of .i64 4096).n=4096 from rfl];omega
  simpa using this
 have ltN:∀ i:Nat,i≤1000→W.lt (wi i) (wi n.n.toNat)=W.lt (wi i) n:=fun i hi=>iff_bool (by rw [W.lt_n,W.lt_n,wi_n (sm hi),wi_n (sm (by omega))];omega)
 have main:∀ t t':TMach,∃ b b',L_run_Run_7 (irqs,m,t,Sl.nil,wi n.n.toNat,wi 0,())=some b∧L_ref16_Run_11 (irqs,n,m,t',Sl.nil,wi 0,())=some b'∧∃ m' out i,i≤60∧Ran m m' out i∧b=(m',t,out,())∧(b'=.inl (m',m',(),out,())∨b'=.inr (m',t',(),out,())):=fun t t'=>by
  unfold L_run_Run_7 L_ref16_Run_11
  refine iter_pair (fun i s s'=>∃ m' out,Ran m m' out i∧s=(irqs,m',t,out,wi n.n.toNat,wi i,())∧s'=(irqs,n,m',t',out,wi i,())) n.n.toNat _ ?_ ?_ ⟨m,Sl.nil,⟨rfl,hs,Nat.le_refl _,rfl⟩,rfl,rfl⟩ (by show _ < 1048576;omega)
  ·rintro i s s' hi ⟨m',out,hR,rfl,rfl⟩
   obtain ⟨A,a1,a2⟩:=raises irqs (by show _ < 1048576;omega) n m' t t' out out (wi i) (wi n.n.toNat)
   have hR1:=hR.o
   have hR2:=hR.ev
   obtain ⟨r,r1,r2,r3⟩:=step_eq { m' with A:=A } (by show m'.Out.l.length≤1000;omega)
   have hlt:W.lt (wi i) n=true:=by rw [W.lt_n,wi_n (sm (by omega))];omega
   have hl:=kind_lens r3 (by show m'.Shadow.l.length=m'.Mem.l.length;rw [hR.sh,hR.mem])
   obtain ⟨r',e1,e2⟩:=app_lit (s:=out) (x:=r.2.1) (hb:=rfl) (by unfold room;omega) (by unfold room;omega)
   simp only [B_run_Run_7,B_ref16_Run_11,ev_ite,ev_opt,ev_ret,ltN i (by omega),hlt,if_true,a1,a2,bind_some',r1,r2,e1,add_small (show i < 1000 by omega)]
   cases hk:r.2.2 with
   | true=>
    refine .inl ⟨_,_,rfl,rfl,r.1,r',⟨by rw [hl.1];exact hR.mem,by rw [hl.2.1];exact hR.mem,?_,by rw [e2,List.length_append,hR2];rfl⟩,rfl,rfl⟩
    have:=hl.2.2
    have:r.1.Out.l.length≤m'.Out.l.length+1:=this
    omega
   | false=>exact .inr ⟨_,_,rfl,rfl,{ m' with A:=A },out,i,by omega,⟨hR.mem,hR.sh,hR.o,hR.ev⟩,rfl,.inl rfl⟩
  ·rintro s s' ⟨m',out,hR,rfl,rfl⟩
   have hlt:W.lt (wi n.n.toNat) n=false:=by
    have:¬ W.lt (wi n.n.toNat) n=true:=by rw [W.lt_n,wi_n (sm (by omega))];omega
    simpa using this
   simp only [B_run_Run_7,B_ref16_Run_11,ev_ite,ev_ret,ltN n.n.toNat (by omega),hlt,Bool.false_eq_true,if_false]
   exact ⟨_,_,rfl,rfl,m',out,n.n.toNat,by omega,hR,rfl,.inr rfl⟩
 unfold F_run_Run T_run_Run F_ref16_Run T_ref16_Run
 simp only [ev_opt,ev_ite,ev_ret,hN,hg,Bool.false_eq_true,if_false]
 obtain ⟨b,b',k1,k2,m',out,i,hi,hR,rfl,h⟩:=main _ _
 rw [show L_run_Run_7 (irqs,m,_,Sl.nil,wi n.n.toNat,W.of .i64 0,())=_ from k1]
 rw [show L_ref16_Run_11 (irqs,n,m,_,Sl.lit 72 [] rfl,W.of .i64 0,())=_ from k2]
 simp only [bind_some',ev_sum,ev_ret]
 rcases h with rfl | rfl
 ·exact ⟨m',out,i,rfl,rfl,hi,hR⟩
 ·exact ⟨m',out,i,rfl,rfl,hi,hR⟩
end Go.Proofs.YtedhidchlfhegaaGreatDoor
