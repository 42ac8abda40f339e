/- A2Clone: a copy of a slice, nil or not. No statement of the seat is proved here. -/
import Derived.Test.YtchpjkadpdajkaaGreatDoorA2D
import Derived.Lib.BufferMore
set_option linter.unusedSimpArgs false
set_option linter.unusedVariables false
namespace Go.A2
section
variable {P:Program} {Γ:Cx}
structure CloneLike (P:Program) (Γ:Cx) (fn:Func) (b:Nat) (T:Γ.X.Ty):Prop where
 code:∃ (t el i0 i1 i2 i3:Nat) (o0 o1 o2 o3 o4 o5 o6 o7:Oper),
  fn.body=some (.seq (.region i0 #[o0] false) (.seq (.seq (.region i1 #[o1,o2] false) (.cond (.tmp 4) (.seq (.region i2 #[o3] false) .ret) .skip)) (.seq (.region i3 #[o4,o5,o6,o7] false) .ret))) ∧
  P.underlying t=some (.slice el) ∧
  compOper P Γ [0,2] fn.ntmps [] #[o0] o0=some ⟨some 2,.move (.c (.val (.slice b T) Sl.nil .full)),none⟩ ∧
  compOper P Γ [0,2] fn.ntmps [] #[o1,o2] o1=some ⟨some 3,.move (.v 0),none⟩ ∧
  (o2.op=.binOp .eql t (.tmp 3) (.const (.slice none 0 0)) t∧o2.dst=some 4∧o2.guard=none) ∧
  compOper P Γ [0,2] fn.ntmps [] #[o3] o3=some ⟨some 2,.move (.c (.val (.slice b T) Sl.nil .full)),none⟩ ∧
  compOper P Γ [0,2] fn.ntmps [] #[o4,o5,o6,o7] o4=some ⟨some 5,.buildSlice b T 0 [],none⟩ ∧
  compOper P Γ [0,2] fn.ntmps [] #[o4,o5,o6,o7] o5=some ⟨some 6,.move (.v 0),none⟩ ∧
  compOper P Γ [0,2] fn.ntmps [] #[o4,o5,o6,o7] o6=some ⟨some 7,.append b T (.t 5) (.t 6),none⟩ ∧
  compOper P Γ [0,2] fn.ntmps [] #[o4,o5,o6,o7] o7=some ⟨some 2,.move (.t 7),none⟩
 res:fn.results=#[.tmp 2]
 nt:8≤fn.ntmps
 name:(fn.name == "runtime.NumGoroutine")=false
theorem Sim.stepU (hX:TabOk Γ.X) {K:List Nat} {N:Slots} {F0 B:Nat→Prop} {w0:World} {e:Env Γ.X} {a:Act} {w:World} {g:Nat} (h:Sim N F0 B (· < g) w0 e a w) {n:Nat} {lent:List Nat} (hN:N.fits n lent) {ops:Array Oper} {o:Oper} {d:Option Nat} {op:AOp Γ.X}
  (hco:compOper P Γ K n lent ops o=some ⟨d,op,none⟩) (ha:op.args=[]) (hc:callArgs e op=none) {us:Ups Γ.X} (he:eff (.undef,[]) g e d op=some us) {next:Act→World→Prop} {Q:Exit→Act→World→Prop}
  (hnext:∀ a' w',Sim N F0 B (· < g+1) w0 (applyU e us) a' w'→next a' w'):if Region.wanted o (yielded ops a.tmps) then o.wp P a w next Q else next (a.put o.dst Go.undef) w:=by
 have hpre:Go.A2.pre e op=e:=by simp [Go.A2.pre,ha,frzU,applyU]
 refine h.took hX (g:=g) (Nat.lt_irrefl g) hN hco (us:=us) ?_ fun a' w' h'=>hnext a' w' (h'.weakU fun q hq=>by rcases hq with hq | hq;exact Nat.lt_succ_of_lt hq;exact hq ▸ Nat.lt_succ_self _)
 show Ran P e g _ us
 refine ⟨(.undef,[]),us,?_,?_,?_⟩
 ·simp [ha,frzU]
 ·rw [hpre];exact he
 ·intro f as hh
  rw [hpre,hc] at hh
  cases hh
theorem clone_spec (hX:TabOk Γ.X) {f:Nat} {fn:Func} {b:Nat} {T:Γ.X.Ty} (hf:P.funcs[f]?=some fn) (h:CloneLike P Γ fn b T) (l:Sl b (Γ.X.den T)):
  Spec P f [(.val (.slice b T) l .no:AV Γ.X)] (.val (.slice b T) l (.yes 0),[.undef]):=by
 obtain ⟨⟨t,el,i0,i1,i2,i3,o0,o1,o2,o3,o4,o5,o6,o7,hb,ht,c0,c1,⟨e1,e2,g2⟩,c3,c4,c5,c6,c7⟩,hres,hnt,hname⟩:=h
 let af:AFn Γ.X:={ np:=1,keep:=[0,2],lent:=[],body:=.skip,res:=[(.tmp 2,false)] }
 refine fn_wp (af:=af) (xlent:=[]) (xres:=[false]) hX hf hb hname (by rw [hres];rfl) (by rw [hres];rfl) (by show 1≤fn.ntmps;omega) rfl (fun _=>rfl) rfl fun {N F0 B a w Q} hN _ h hQ=>?_
 have hNok:∀ k,k < 8→N.ok k:=fun k hk=>⟨by rw [hN.1];omega,fun q hq=>by have:=hN.2 q hq;cases this⟩
 have fin:∀ {e:Env Γ.X} {a':Act} {w':World},Sim N F0 B (· < 1) w e a' w'→(∃ o,e 2=.val (.slice b T) l o∧((∃ g,o=.yes g)∨(o=.full∧l.l=[])))→Q .ret a' w':=fun {e a' w'} h ⟨o,he,ho⟩=>by
  rcases ho with ⟨g,rfl⟩ | ⟨rfl,hl⟩
  ·refine hQ .ret e a' w' h.ret ?_
   show optK (results e af) some=_
   simp [results,resAll,resOne,he,af,Own.alive,one,outsOf,Own.gen,optK,List.range_succ]
  ·have h':=h.marked hX [(2,.own)]
   have he':Go.A2.marked [(2,.own)] e 2=.val (.slice b T) l (.yes 0):=by
    simp [Go.A2.marked,Go.A2.restrict,mkE,shaped,frozen,isFz,shape,he,hl,norm,Own.gen]
   refine hQ .ret _ a' w' h'.ret ?_
   show optK (results _ af) some=_
   simp [results,resAll,resOne,he',af,Own.alive,one,outsOf,Own.gen,optK,List.range_succ]
 have e0:entry [(.val (.slice b T) l .no:AV Γ.X)] 0=.val (.slice b T) l .no:=rfl
 generalize entry [(.val (.slice b T) l .no:AV Γ.X)]=e at h e0
 refine wp_seq (wp_region_list (wpList_step fun K' hK'=>?_))
 refine h.stepU hX hN c0 rfl rfl (us:=[(2,.val (.slice b T) Sl.nil .full)]) rfl fun a1 w1 h1=>hK' _ _ ?_
 have e0:applyU e [(2,.val (.slice b T) Sl.nil .full)] 0=.val (.slice b T) l .no:=by simp [applyU,upd,e0]
 generalize applyU e [(2,.val (.slice b T) Sl.nil .full)]=e at h1 e0
 have h1:=h1.restrict [0,2]
 have e0:Go.A2.restrict [0,2] e 0=.val (.slice b T) l .no:=by simp [Go.A2.restrict,mkE,e0,norm,Own.gen]
 generalize Go.A2.restrict [0,2] e=e at h1 e0
 show Code.wp P _ _ a1 w1
 refine wp_seq (wp_seq (wp_region_list (wpList_step fun K' hK'=>?_)))
 refine h1.stepU hX hN c1 rfl rfl (us:=[(3,.val (.slice b T) l .no)]) (by simp [eff,e0,Own.pure,outU]) fun a2 w2 h2=>hK' _ _ ?_
 have e3:applyU e [(3,.val (.slice b T) l .no)] 3=.val (.slice b T) l .no:=by simp [applyU,upd]
 have e0:applyU e [(3,.val (.slice b T) l .no)] 0=.val (.slice b T) l .no:=by simp [applyU,upd,e0]
 generalize applyU e [(3,.val (.slice b T) l .no)]=e at h2 e0 e3
 obtain ⟨F,S,hr⟩:=h2
 obtain ⟨ad,cap,hv,hnil⟩:∃ ad cap,a2.tmps.getD 3 Go.undef=.slice ad l.l.length cap∧(ad=none→l.l=[]):=by
  obtain ⟨cs,k1,k2⟩:=hr.valAt e3
  have k1:=(k1.toPure rfl).1
  unfold valOk at k2
  rw [if_neg (by simp [aggB])] at k2
  generalize a2.tmps.getD 3 Go.undef=u at k2
  subst k2
  cases k1 with
  | slice _ _ _ ad cap css hcap ha hx=>
   refine ⟨ad,cap,rfl,fun hn=>?_⟩
   apply Classical.byContradiction
   intro hne
   obtain ⟨blk,o,q1,_⟩:=ha hne
   rw [hn] at q1;cases q1
 have hev:a2.eval (.tmp 3)=.slice ad l.l.length cap:=hv
 refine wpList_step fun K' hK'=>?_
 rw [if_pos (by simp [Region.wanted,g2])]
 unfold Oper.wp
 have hrun:(execOp a2.eval o2).run P w2=.ok (.value (.bool ad.isNone)) w2:=by
  have hc:a2.eval (.const (.slice none 0 0))=.slice none 0 0:=rfl
  simp only [execOp,e1,hev,hc]
  cases ad with
  | none=>simp [eqGuard,Lib.run_eql_slice_nil_nil (P:=P) w2 l.l.length cap ht]
  | some ad=>simp [eqGuard,Lib.run_eql_slice_some_nil (P:=P) w2 ad l.l.length cap ht]
 rw [hrun]
 show K' (a2.put o2.dst (.bool ad.isNone)) w2
 refine hK' _ _ ?_
 have h3:=(hr.outBool (d:=o2.dst) (fun k hk=>by rw [e2] at hk;cases hk;exact hNok 4 (by omega)) (g:=2) (Nat.lt_irrefl 2) ad.isNone).weakU (U':=(· < 3)) fun q hq=>by rcases hq with hq | hq;exact Nat.lt_succ_of_lt hq;exact hq ▸ Nat.lt_succ_self _
 rw [e2] at h3 ⊢
 have e4:applyU e (outU (some 4) (.val .bool ad.isNone .no)) 4=.val .bool ad.isNone .no:=by simp [applyU,upd,outU]
 have e0:applyU e (outU (some 4) (.val .bool ad.isNone .no)) 0=.val (.slice b T) l .no:=by simp [applyU,upd,outU,e0]
 generalize applyU e (outU (some 4) (.val .bool ad.isNone .no))=e at h3 e0 e4
 have hev:(a2.put (some 4) (.bool ad.isNone)).eval (.tmp 4)=.bool ad.isNone:=by
  obtain ⟨F,S,hr⟩:=h3
  exact hr.rdBool (K:=[]) (T0:=none) hX (Y:=.tmp 4) (x:=.t 4) (o:=.no) rfl (by simp [Go.A2.rd,e4])
 generalize a2.put (some 4) (.bool ad.isNone)=a3 at h3 hev
 show Code.wp P _ _ a3 w2
 have h3:=h3.restrict [0,2]
 have e0:Go.A2.restrict [0,2] e 0=.val (.slice b T) l .no:=by simp [Go.A2.restrict,mkE,e0,norm,Own.gen]
 generalize Go.A2.restrict [0,2] e=e at h3 e0
 refine wp_cond hev ?_
 cases ad with
 | none=>
  have hl:=hnil rfl
  show Code.wp P _ _ a3 w2
  refine wp_seq (wp_region_list (wpList_step fun K' hK'=>?_))
  refine h3.stepU hX hN c3 rfl rfl (us:=[(2,.val (.slice b T) Sl.nil .full)]) rfl fun a4 w4 h4=>hK' _ _ ?_
  have e2':applyU e [(2,.val (.slice b T) Sl.nil .full)] 2=.val (.slice b T) Sl.nil .full:=by simp [applyU,upd]
  generalize applyU e [(2,.val (.slice b T) Sl.nil .full)]=e at h4 e2'
  have h4:=h4.restrict [0,2]
  have e2':Go.A2.restrict [0,2] e 2=.val (.slice b T) Sl.nil .full:=by simp [Go.A2.restrict,mkE,e2',norm,Own.gen]
  have hln:l=Sl.nil:=Sl.ext hl
  refine wp_ret (fin h4 ⟨.full,?_,.inr ⟨rfl,hl⟩⟩)
  rw [hln];exact e2'
 | some ad=>
  show Code.wp P _ _ a3 w2
  refine wp_skip ?_
  show Code.wp P _ _ a3 w2
  refine wp_seq (wp_region_list (wpList_step fun K' hK'=>?_))
  obtain ⟨x,hx,hx1⟩:∃ x:Sl b (Γ.X.den T),eff (.undef,[]) 1 e (some 5) (.buildSlice b T 0 [])=some [(5,.val (.slice b T) x (.yes 1))]∧x.l=[]:=by
   refine ⟨Sl.nil,?_,rfl⟩
   simp [eff,takeAll,partsPure,partsV,setElems,Sl.mk?,outU,Sl.nil]
  refine h3.stepU hX hN c4 rfl rfl hx fun a4 w4 h4=>hK' _ _ ?_
  have e5:applyU e [(5,.val (.slice b T) x (.yes 1))] 5=.val (.slice b T) x (.yes 1):=by simp [applyU,upd]
  have e0:applyU e [(5,.val (.slice b T) x (.yes 1))] 0=.val (.slice b T) l .no:=by simp [applyU,upd,e0]
  generalize applyU e [(5,.val (.slice b T) x (.yes 1))]=e at h4 e0 e5
  refine wpList_step fun K' hK'=>?_
  refine h4.stepU hX hN c5 rfl rfl (us:=[(6,.val (.slice b T) l .no)]) (by simp [eff,e0,Own.pure,outU]) fun a5 w5 h5=>hK' _ _ ?_
  have e6:applyU e [(6,.val (.slice b T) l .no)] 6=.val (.slice b T) l .no:=by simp [applyU,upd]
  have e5:applyU e [(6,.val (.slice b T) l .no)] 5=.val (.slice b T) x (.yes 1):=by simp [applyU,upd,e5]
  generalize applyU e [(6,.val (.slice b T) l .no)]=e at h5 e5 e6
  refine wpList_step fun K' hK'=>?_
  refine h5.stepU hX hN c6 rfl rfl (us:=[(5,.undef),(7,.val (.slice b T) l (.yes 3))]) ?_ fun a6 w6 h6=>hK' _ _ ?_
  ·have happ:Sl.app? x l=some l:=by unfold Sl.app?;rw [hx1]
   have hc1:castT (X:=Γ.X) (T:=.slice b T) x (.slice b T)=some x:=castT_self _
   have hc2:castT (X:=Γ.X) (T:=.slice b T) l (.slice b T)=some l:=castT_self _
   simp only [eff,Go.A2.grab,e5,slOf,Go.A2.rd,e6,Own.pure,if_true]
   rw [hc1]
   simp only []
   rw [hc2]
   simp [happ,outU]
  have e7:applyU e [(5,.undef),(7,.val (.slice b T) l (.yes 3))] 7=.val (.slice b T) l (.yes 3):=by simp [applyU,upd]
  generalize applyU e [(5,.undef),(7,.val (.slice b T) l (.yes 3))]=e at h6 e7
  refine wpList_step fun K' hK'=>?_
  refine h6.stepU hX hN c7 rfl rfl (us:=[(7,.undef),(2,.val (.slice b T) l (.yes 4))]) (by simp [eff,e7,Own.pure,outU,Own.gen]) fun a7 w7 h7=>hK' _ _ ?_
  have e2':applyU e [(7,.undef),(2,.val (.slice b T) l (.yes 4))] 2=.val (.slice b T) l (.yes 4):=by simp [applyU,upd]
  generalize applyU e [(7,.undef),(2,.val (.slice b T) l (.yes 4))]=e at h7 e2'
  have h7:=h7.restrict [0,2]
  have e2':Go.A2.restrict [0,2] e 2=.val (.slice b T) l (.yes 0):=by simp [Go.A2.restrict,mkE,e2',norm,Own.gen]
  show Code.wp P _ _ a7 w7
  exact wp_ret (fin h7 ⟨.yes 0,e2',.inl ⟨0,rfl⟩⟩)
def cloneK {X:Tab} (b:Nat) (T:X.Ty):FnK X:=⟨[.val (.slice b T) .no],Sl b (X.den T),fun a=>some a.1,fun r=>(.val (.slice b T) r (.yes 0),[.undef])⟩
theorem clone_ok (hX:TabOk Γ.X) {f:Nat} {fn:Func} {b:Nat} {T:Γ.X.Ty} (hf:P.funcs[f]?=some fn) (h:CloneLike P Γ fn b T):FnOk P f (cloneK (X:=Γ.X) b T):=fun d r h'=>by
 cases h';exact clone_spec hX hf h d.1
end
end Go.A2
