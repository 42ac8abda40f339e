/- YtpofngmiepljeaaDoorPureShadow: what is fetched hangs on the shadow alone. No statement of the seat is proved here. -/
import Derived.Test.YtpofngmiepljeaaDoorHalt
set_option linter.unusedSimpArgs false
set_option linter.unusedVariables false
set_option maxRecDepth 100000
set_option maxHeartbeats 1000000
namespace Go.Proofs.YtpofngmiepljeaaDoor
open Go Go.A2
def whOf (a:TArch) (fo:Option (W .u32×W .i64)):W .u32×Bool:=
 if a.Halt=true then (W.of .u32 0,true) else
 match F_trap_Pending a with
 | none=>(W.of .u32 0,false)
 | some p=>if W.ne p (W.of .i64 0)=true then (W.of .u32 0,false) else
  match F_trap_Stops a a.PC with
  | none=>(W.of .u32 0,false)
  | some s=>if s=true then (W.of .u32 0,false) else
   match fo with
   | none=>(W.of .u32 0,false)
   | some f=>if W.ne f.2 (W.of .i64 0)=true then (W.of .u32 0,false) else
    match F_inst_Dec f.1 with
    | none=>(f.1,false)
    | some d=>if W.ne d.2 (W.of .i64 0)=true then (f.1,false) else
     match F_inst_Priv d.1.Op with
     | none=>(f.1,false)
     | some pv=>if pv=true∧kern a=false then (f.1,false) else (f.1,W.eq d.1.Op (W.of .i64 61))
theorem traps_w {m:TMach} {w:W .u32} {c:W .i64} {v:W .u32} {r:TMach×TEvent×Bool} (h:F_step_traps m w c v=some r):(r.2.1.Word,r.1.A.Halt)=(w,m.A.Halt):=by
 refine all_eval (P:=fun r:TMach×TEvent×Bool=>(r.2.1.Word,r.1.A.Halt)=(w,m.A.Halt)) (t:=T_step_traps m w c v) ?_ h
 intro a ha
 show (w,a.Halt)=(w,m.A.Halt)
 rw [(take_facts ha).2.1]
theorem wh_step {m:TMach} (hout:m.Out.l.length≤1000) {r:TMach×TEvent×Bool} (h:F_step_Step m=some r):(r.2.1.Word,r.1.A.Halt)=whOf m.A (F_step_Fetch m):=by
 refine all_eval (P:=fun r:TMach×TEvent×Bool=>(r.2.1.Word,r.1.A.Halt)=whOf m.A (F_step_Fetch m)) (t:=T_step_Step m) ?_ h
 unfold T_step_Step whOf
 refine ⟨fun hH=>?_,fun hH=>?_⟩
 ·show (W.of .u32 0,m.A.Halt)=_
  rw [if_pos hH,hH]
 rw [if_neg (by rw [hH];simp)]
 have tr:∀ {w:W .u32} {c:W .i64} {v:W .u32} {x:TMach×TEvent×Bool},F_step_traps m w c v=some x→((x.1,x.2.1,x.2.2).2.1.Word,(x.1,x.2.1,x.2.2).1.A.Halt)=(w,false):=fun h=>(traps_w h).trans (by rw [hH])
 intro p hp
 rw [hp]
 dsimp only
 refine ⟨fun c x hx=>by rw [if_pos c];exact tr hx,fun c=>?_⟩
 rw [if_neg (by rw [c];simp)]
 intro s hs
 rw [hs]
 dsimp only
 refine ⟨fun c x hx=>by rw [if_pos c];exact tr hx,fun c=>?_⟩
 rw [if_neg (by rw [c];simp)]
 intro f hf
 rw [hf]
 dsimp only
 refine ⟨fun c x hx=>by rw [if_pos c];exact tr hx,fun c=>?_⟩
 rw [if_neg (by rw [c];simp)]
 obtain ⟨d',d1,_,d3⟩:=dec_eq f.1
 intro d hd
 obtain rfl:d'=d:=Option.some.inj (d1.symm.trans hd)
 rw [hd]
 dsimp only
 refine ⟨fun c x hx=>by rw [if_pos c];exact tr hx,fun c=>?_⟩
 rw [if_neg (by rw [c];simp)]
 have ok:=d3 c
 intro pv hpv
 rw [hpv]
 dsimp only
 have fin:∀ w,F_step_does m f.1 d'.1=some w→(W.ne w.cause (W.of .i64 0)=true→W.eq d'.1.Op (W.of .i64 61)=false)∧(W.ne w.cause (W.of .i64 0)=false→w.ev.Word=f.1∧w.m.A.Halt=W.eq d'.1.Op (W.of .i64 61)):=fun w hw=>by
  obtain ⟨h1,h2⟩:=h_does hH hw
  constructor
  ·intro hc
   cases e:W.eq d'.1.Op (W.of .i64 61) with
   | false=>rfl
   | true=>rw [h2 e,W.ne_self] at hc;cases hc
  ·intro hc
   obtain ⟨w',_,w1,_,_,w4⟩:=does_eq m f.1 d'.1 ok hout
   obtain rfl:w'=w:=Option.some.inj (w1.symm.trans hw)
   have h0:w'.cause=W.of .i64 0:=W.eq_iff.1 (by rw [W.ne_eq] at hc;simpa using hc)
   exact ⟨(w4 h0).word_,h1⟩
 have cnt:∀ {w:TWork} {ct:TArch},F_csr_Count { w.m.A with PC:=w.next_ }=some ct→ct.Halt=w.m.A.Halt:=fun h=>(count_facts h).2.1
 refine ⟨fun c1 k hk=>?_,fun c1=>?_⟩
 ·rw [kernel_p] at hk
  obtain rfl:=Option.some.inj hk
  refine ⟨fun c2 x hx=>?_,fun c2=>?_⟩
  ·rw [if_pos ⟨c1,by simpa using c2⟩];exact tr hx
  rw [if_neg (fun h=>by rw [h.2] at c2;cases c2)]
  intro w hw
  obtain ⟨f1,f2⟩:=fin w hw
  refine ⟨fun c3 x hx=>by rw [f1 c3];exact tr hx,fun c3=>?_⟩
  obtain ⟨g1,g2⟩:=f2 c3
  intro ct hct sg hsg
  have e:=cnt hct
  refine ⟨fun c4=>⟨fun c5 t ht=>?_,fun c5=>?_⟩,fun c4=>?_⟩
  ·show (w.ev.Word,t.Halt)=_
   rw [(take_facts ht).2.1,e,g1,g2]
  ·show (w.ev.Word,ct.Halt)=_
   rw [e,g1,g2]
  ·show (w.ev.Word,ct.Halt)=_
   rw [e,g1,g2]
 ·rw [if_neg (fun h=>by rw [h.1] at c1;cases c1)]
  intro w hw
  obtain ⟨f1,f2⟩:=fin w hw
  refine ⟨fun c3 x hx=>by rw [f1 c3];exact tr hx,fun c3=>?_⟩
  obtain ⟨g1,g2⟩:=f2 c3
  intro ct hct sg hsg
  have e:=cnt hct
  refine ⟨fun c4=>⟨fun c5 t ht=>?_,fun c5=>?_⟩,fun c4=>?_⟩
  ·show (w.ev.Word,t.Halt)=_
   rw [(take_facts ht).2.1,e,g1,g2]
  ·show (w.ev.Word,ct.Halt)=_
   rw [e,g1,g2]
  ·show (w.ev.Word,ct.Halt)=_
   rw [e,g1,g2]
theorem fetch_shadow (m:TMach) (mem:Sl 1 (W .u8)):F_step_Fetch { m with Mem:=mem }=F_step_Fetch m:=by
 unfold F_step_Fetch T_step_Fetch F_step_reach T_step_reach
 rfl
theorem stepShadow (m:TMach) (mem:Sl 1 (W .u8)):F_law15_StepShadow m mem=some true:=by
 obtain ⟨b,hL,hl⟩:=light15 m
 unfold F_law15_StepShadow T_law15_StepShadow
 rw [ev_opt,hL,bind_some',ev_ite]
 cases b with
 | false=>simp only [Bool.not_false,if_true,ev_opt,awake15,bind_some',ev_ret]
 | true=>
  have hM:=hl.1 rfl
  have ho:=hM.out
  cases hn:W.ne (Sl.len mem) (Sl.len m.Mem) with
  | true=>simp only [Bool.not_true,Bool.false_eq_true,if_false,ev_ite,hn,if_true,ev_opt,awake15,bind_some',ev_ret]
  | false=>
   obtain ⟨f,f1,_⟩:=fetch_eq m
   obtain ⟨r,r1,_,_⟩:=step_eq m (by omega)
   obtain ⟨r',r1',_,_⟩:=step_eq { m with Mem:=mem } (by show m.Out.l.length≤1000;omega)
   have f2:F_step_Fetch { m with Mem:=mem }=some f:=(fetch_shadow m mem).trans f1
   have e1:=wh_step (by omega) r1
   have e2:=wh_step (by show m.Out.l.length≤1000;omega) r1'
   rw [fetch_shadow] at e2
   have e3:(r.2.1.Word,r.1.A.Halt)=(r'.2.1.Word,r'.1.A.Halt):=e1.trans e2.symm
   have e4:r.2.1.Word=r'.2.1.Word:=congrArg Prod.fst e3
   have e5:r.1.A.Halt=r'.1.A.Halt:=congrArg Prod.snd e3
   simp only [Bool.not_true,Bool.false_eq_true,if_false,ev_ite,hn,ev_opt,f1,f2,r1,r1',bind_some',W.eq_self,e4,e5,beqB_self,if_true,awake15,ev_ret]
end Go.Proofs.YtpofngmiepljeaaDoor
