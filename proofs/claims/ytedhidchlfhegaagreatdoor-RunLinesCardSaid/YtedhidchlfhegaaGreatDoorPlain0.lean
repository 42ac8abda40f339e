/- YtedhidchlfhegaaGreatDoorPureRunLines: any event's line is the document's, and so is where lists of events part. No statement of the seat is proved here. -/
import Derived.Test.YtedhidchlfhegaaGreatDoorLine
set_option linter.unusedSimpArgs false
set_option linter.unusedVariables false
set_option maxRecDepth 100000
namespace Go.Proofs.YtedhidchlfhegaaGreatDoor
open Go Go.A2
theorem awake16:F_law16_awake=some true:=by kernel_rfl
theorem hex_eq (u:W .u32):∃ s,F_num_Hex u=some s∧F_ref02_Hex u=some s∧s.l.length≤8:=by
 obtain ⟨s,s1,s2⟩:=hex_p u
 obtain ⟨t,t1,t2⟩:=hex_d u
 have:s=t:=Str.ext (by rw [s2,t2])
 subst this
 exact ⟨s,s1,t1,by rw [s2,hexL_len];exact Nat.le_refl _⟩
theorem dec_eq (n:W .i64):∃ s,F_num_Dec n=some s∧F_ref02_Dec n=some s∧s.l.length≤20:=by
 obtain ⟨s,s1,s2⟩:=dec_p n
 obtain ⟨t,t1,t2⟩:=dec_d n
 have:s=t:=Str.ext (by rw [s2,t2])
 subst this
 refine ⟨s,s1,t1,?_⟩
 rw [s2]
 have h:=decF_len 19 n.n.natAbs []
 simp only [List.length_nil] at h
 unfold decL
 split
 ·rw [List.length_cons];omega
 ·omega
def causeOk (n:W .i64):Bool:=match F_text_Cause n,F_ref07_Cause n with
 | some s,some t=>decide (s=t∧s.l.length≤7)
 | _,_=>false
theorem cause_eq (n:W .i64):∃ s,F_text_Cause n=some s∧F_ref07_Cause n=some s∧s.l.length≤7:=by
 have h:causeOk n=true:=by
  have g1:W.ge n (W.of .i64 0)=decide (0≤n.n):=iff_bool (by rw [W.ge_n,show (W.of .i64 0).n=0 from rfl,decide_eq_true_eq])
  have g2:W.lt n (W.of .i64 11)=decide (n.n < 11):=rfl
  by_cases c:0≤n.n∧n.n < 11
  ·have:=all_lt (p:=fun k=>causeOk (wi k)) (n:=11) (by kernel_rfl) (show n.n.toNat < 11 by omega)
   rwa [←of_small c.1] at this
  ·unfold causeOk F_text_Cause T_text_Cause F_ref07_Cause T_ref07_Cause
   simp only [ev_ite,ev_opt,ev_ret,g1,g2,decide_eq_true_eq]
   by_cases c1:0≤n.n
   ·simp only [c1,if_true,show ¬ n.n < 11 by omega,if_false]
    cases W.eq n (W.of .i64 16)<;>cases W.eq n (W.of .i64 17)<;>cases W.eq n (W.of .i64 18)<;>rfl
   ·simp only [c1,if_false]
    cases W.eq n (W.of .i64 16)<;>cases W.eq n (W.of .i64 17)<;>cases W.eq n (W.of .i64 18)<;>rfl
 unfold causeOk at h
 revert h
 cases F_text_Cause n with
 | none=>intro h;cases h
 | some s=>
  cases F_ref07_Cause n with
  | none=>intro h;cases h
  | some t=>
   intro h
   obtain ⟨h1,h2⟩:=of_decide_eq_true h
   exact ⟨s,rfl,by rw [h1],h2⟩
theorem cat_some {a b:Str} (h:a.l.length+b.l.length≤1000):Str.cat? a b=some ⟨a.l++b.l,by rw [List.length_append];unfold room;omega⟩:=by
 unfold Str.cat?
 rw [dif_pos (by rw [List.length_append];unfold room;omega)]
theorem named_eq (r:W .i64) (v:W .u32):∃ s,F_run_register r v=some s∧F_ref16_named r v=some s∧s.l.length≤40:=by
 unfold F_run_register T_run_register F_ref16_named T_ref16_named
 obtain ⟨d,d1,d2,d3⟩:=dec_eq r
 obtain ⟨h,h1,h2,h3⟩:=hex_eq v
 simp only [ev_ite,ev_opt,ev_ret,d1,d2,h1,h2,bind_some']
 cases W.eq r (W.of .i64 (-1)) with
 | true=>exact ⟨_,rfl,rfl,by decide⟩
 | false=>
  simp (disch:=(simp only [List.length_append,List.length_cons,List.length_nil];omega)) only [Bool.false_eq_true,if_false,cat_some,bind_some']
  exact ⟨_,rfl,rfl,by simp only [List.length_append,List.length_cons,List.length_nil];omega⟩
theorem str_eq {a b:Str} (h:a.l=b.l):Tab.eq tab (.str) a b=true:=(eq_iff (X:=tab) tabOk (by rfl)).2 (Str.ext h)
theorem cat_to {a b:Str} {n m:Nat} (ha:a.l.length≤n) (hb:b.l.length≤m) (h:n+m≤1000):∃ c,Str.cat? a b=some c∧c.l=a.l++b.l∧c.l.length≤n+m:=by
 obtain ⟨c,c1,c2⟩:=cat_ok (a:=a) (b:=b) (by omega)
 exact ⟨c,c1,c2,by rw [c2,List.length_append];omega⟩
theorem cause_part (m t b b':Str) (hm:m.l.length≤20) (ht:t.l.length≤8) (hb:b.l=b'.l) (hl:b.l.length≤200):∃ g h k f p q r s:Str,
  Str.cat? (Str.mk [32,33] (by decide)) m=some g∧Str.cat? g (Str.mk [32] (by decide))=some h∧Str.cat? h t=some k∧Str.cat? b k=some f ∧
  Str.cat? b' (Str.mk [32,33] (by decide))=some p∧Str.cat? p m=some q∧Str.cat? q (Str.mk [32] (by decide))=some r∧Str.cat? r t=some s∧f.l=s.l:=by
 have hl':b'.l.length≤200:=by rw [←hb];exact hl
 obtain ⟨g,g1,g2,g3⟩:=cat_to (a:=Str.mk [32,33] (by decide)) (b:=m) (n:=2) (m:=20) (Nat.le_of_ble_eq_true rfl) hm (by decide)
 obtain ⟨h,h1,h2,h3⟩:=cat_to (a:=g) (b:=Str.mk [32] (by decide)) (n:=22) (m:=1) g3 (Nat.le_of_ble_eq_true rfl) (by decide)
 obtain ⟨k,k1,k2,k3⟩:=cat_to (a:=h) (b:=t) (n:=23) (m:=8) h3 ht (by decide)
 obtain ⟨f,f1,f2,f3⟩:=cat_to (a:=b) (b:=k) (n:=200) (m:=31) hl k3 (by decide)
 obtain ⟨p,p1,p2,p3⟩:=cat_to (a:=b') (b:=Str.mk [32,33] (by decide)) (n:=200) (m:=2) hl' (Nat.le_of_ble_eq_true rfl) (by decide)
 obtain ⟨q,q1,q2,q3⟩:=cat_to (a:=p) (b:=m) (n:=202) (m:=20) p3 hm (by decide)
 obtain ⟨r,r1,r2,r3⟩:=cat_to (a:=q) (b:=Str.mk [32] (by decide)) (n:=222) (m:=1) q3 (Nat.le_of_ble_eq_true rfl) (by decide)
 obtain ⟨s,s1,s2,s3⟩:=cat_to (a:=r) (b:=t) (n:=223) (m:=8) r3 ht (by decide)
 exact ⟨g,h,k,f,p,q,r,s,g1,h1,k1,f1,p1,q1,r1,s1,by rw [f2,k2,h2,g2,s2,r2,q2,p2,hb];simp only [List.append_assoc]⟩
theorem line_eq (e:TEvent):∃ s t,F_run_Line e=some s∧F_ref16_Line e=some t∧s.l=t.l:=by
 obtain ⟨p,p1,p2,p3⟩:=hex_eq e.PC
 obtain ⟨w,w1,w2,w3⟩:=hex_eq e.Word
 obtain ⟨r,r1,r2,r3⟩:=named_eq e.Rd e.Val
 obtain ⟨q,q1,q2,q3⟩:=named_eq e.Rd2 e.Val2
 obtain ⟨a,a1,a2,a3⟩:=hex_eq e.Addr
 obtain ⟨d,d1,d2,d3⟩:=hex_eq e.Data
 obtain ⟨z,z1,z2,z3⟩:=dec_eq e.Size
 obtain ⟨c,c1,c2,c3⟩:=cause_eq e.Cause
 obtain ⟨k,k1,k2,k3⟩:=dec_eq e.Cause
 obtain ⟨t,t1,t2,t3⟩:=hex_eq e.Tval
 obtain ⟨xa,xa1,xa2,xa3⟩:=cat_to (a:=p) (b:=Str.mk [32] (by decide)) (n:=8) (m:=1) (p3) (Nat.le_of_ble_eq_true rfl) (by decide)
 obtain ⟨xb,xb1,xb2,xb3⟩:=cat_to (a:=xa) (b:=w) (n:=9) (m:=8) (xa3) (w3) (by decide)
 obtain ⟨xc,xc1,xc2,xc3⟩:=cat_to (a:=xb) (b:=r) (n:=17) (m:=40) (xb3) (r3) (by decide)
 obtain ⟨x,x1,x2,x3⟩:=cat_to (a:=xc) (b:=q) (n:=57) (m:=40) (xc3) (q3) (by decide)
 obtain ⟨ya,ya1,ya2,ya3⟩:=cat_to (a:=Str.mk [32,91] (by decide)) (b:=a) (n:=2) (m:=8) (Nat.le_of_ble_eq_true rfl) (a3) (by decide)
 obtain ⟨yb,yb1,yb2,yb3⟩:=cat_to (a:=ya) (b:=Str.mk [93] (by decide)) (n:=10) (m:=1) (ya3) (Nat.le_of_ble_eq_true rfl) (by decide)
 obtain ⟨yc,yc1,yc2,yc3⟩:=cat_to (a:=yb) (b:=z) (n:=11) (m:=20) (yb3) (z3) (by decide)
 obtain ⟨yd,yd1,yd2,yd3⟩:=cat_to (a:=yc) (b:=Str.mk [61] (by decide)) (n:=31) (m:=1) (yc3) (Nat.le_of_ble_eq_true rfl) (by decide)
 obtain ⟨ye,ye1,ye2,ye3⟩:=cat_to (a:=yd) (b:=d) (n:=32) (m:=8) (yd3) (d3) (by decide)
 obtain ⟨y,y1,y2,y3⟩:=cat_to (a:=x) (b:=ye) (n:=97) (m:=40) (x3) (ye3) (by decide)
 obtain ⟨va,va1,va2,va3⟩:=cat_to (a:=x) (b:=Str.mk [32,91] (by decide)) (n:=97) (m:=2) (x3) (Nat.le_of_ble_eq_true rfl) (by decide)
 obtain ⟨vb,vb1,vb2,vb3⟩:=cat_to (a:=va) (b:=a) (n:=99) (m:=8) (va3) (a3) (by decide)
 obtain ⟨vc,vc1,vc2,vc3⟩:=cat_to (a:=vb) (b:=Str.mk [93] (by decide)) (n:=107) (m:=1) (vb3) (Nat.le_of_ble_eq_true rfl) (by decide)
 obtain ⟨vd,vd1,vd2,vd3⟩:=cat_to (a:=vc) (b:=z) (n:=108) (m:=20) (vc3) (z3) (by decide)
 obtain ⟨ve,ve1,ve2,ve3⟩:=cat_to (a:=vd) (b:=Str.mk [61] (by decide)) (n:=128) (m:=1) (vd3) (Nat.le_of_ble_eq_true rfl) (by decide)
 obtain ⟨v,v1,v2,v3⟩:=cat_to (a:=ve) (b:=d) (n:=129) (m:=8) (ve3) (d3) (by decide)
 obtain ⟨oa,oa1,oa2,oa3⟩:=cat_to (a:=Str.mk [32,111,117,116,61] (by decide)) (b:=d) (n:=5) (m:=8) (Nat.le_of_ble_eq_true rfl) (d3) (by decide)
 obtain ⟨o,o1,o2,o3⟩:=cat_to (a:=x) (b:=oa) (n:=97) (m:=13) (x3) (oa3) (by decide)
 obtain ⟨ua,ua1,ua2,ua3⟩:=cat_to (a:=x) (b:=Str.mk [32,111,117,116,61] (by decide)) (n:=97) (m:=5) (x3) (Nat.le_of_ble_eq_true rfl) (by decide)
 obtain ⟨u,u1,u2,u3⟩:=cat_to (a:=ua) (b:=d) (n:=102) (m:=8) (ua3) (d3) (by decide)
 have hyv:y.l=v.l:=by rw [y2,ye2,yd2,yc2,yb2,ya2,v2,ve2,vd2,vc2,vb2,va2];simp only [List.append_assoc]
 have hou:o.l=u.l:=by rw [o2,oa2,u2,ua2];simp only [List.append_assoc]
 have fin:∀ (b b':Str),b.l=b'.l→b.l.length≤200→∃ s t':Str,
   (if (!W.eq e.Cause (W.of .i64 0))=true then
    (if Tab.eq tab (.str) c (Str.mk [] (by decide))=true then
     (Str.cat? (Str.mk [32,33] (by decide)) k).bind fun t20=>(Str.cat? t20 (Str.mk [32] (by decide))).bind fun t21=>(Str.cat? t21 t).bind fun t23=>(Str.cat? b t23).bind fun t24=>some t24
    else (Str.cat? (Str.mk [32,33] (by decide)) c).bind fun t20=>(Str.cat? t20 (Str.mk [32] (by decide))).bind fun t21=>(Str.cat? t21 t).bind fun t23=>(Str.cat? b t23).bind fun t24=>some t24) else some b)=some s ∧
   (if (!W.eq e.Cause (W.of .i64 0))=true then
    (if Tab.eq tab (.str) c (Str.mk [] (by decide))=true then
     (Str.cat? b' (Str.mk [32,33] (by decide))).bind fun t20=>(Str.cat? t20 k).bind fun t21=>(Str.cat? t21 (Str.mk [32] (by decide))).bind fun t23=>(Str.cat? t23 t).bind fun t24=>some t24
    else (Str.cat? b' (Str.mk [32,33] (by decide))).bind fun t20=>(Str.cat? t20 c).bind fun t21=>(Str.cat? t21 (Str.mk [32] (by decide))).bind fun t23=>(Str.cat? t23 t).bind fun t24=>some t24) else some b')=some t'∧s.l=t'.l:=by
  intro b b' hb hl
  cases W.eq e.Cause (W.of .i64 0) with
  | true=>exact ⟨b,b',rfl,rfl,hb⟩
  | false=>
   cases Tab.eq tab (.str) c (Str.mk [] (by decide)) with
   | true=>
    obtain ⟨g,h,i,f,p,q,r,s,e1,e2,e3,e4,e5,e6,e7,e8,e9⟩:=cause_part k t b b' k3 t3 hb hl
    simp only [Bool.not_false,if_true,Bool.false_eq_true,if_false,bind_some',e1,e2,e3,e4,e5,e6,e7,e8]
    exact ⟨f,s,rfl,rfl,e9⟩
   | false=>
    obtain ⟨g,h,i,f,p,q,r,s,e1,e2,e3,e4,e5,e6,e7,e8,e9⟩:=cause_part c t b b' (by omega) t3 hb hl
    simp only [Bool.not_false,if_true,Bool.false_eq_true,if_false,bind_some',e1,e2,e3,e4,e5,e6,e7,e8]
    exact ⟨f,s,rfl,rfl,e9⟩
 unfold F_run_Line T_run_Line F_ref16_Line T_ref16_Line
 simp only [ev_ite,ev_opt,ev_ret,p1,p2,w1,w2,r1,r2,q1,q2,a1,a2,d1,d2,z1,z2,c1,c2,k1,k2,t1,t2,bind_some',W.ne_eq,xa1,xb1,xc1,x1]
 cases W.eq e.Size (W.of .i64 0) with
 | false=>
  simp only [Bool.not_false,if_true,Bool.false_eq_true,if_false,bind_some',ya1,yb1,yc1,yd1,ye1,y1,va1,vb1,vc1,vd1,ve1,v1]
  exact fin y v hyv (by omega)
 | true=>
  simp only [Bool.not_true,if_true,Bool.false_eq_true,if_false]
  cases W.eq e.Data (W.of .u32 0) with
  | false=>
   simp only [Bool.not_false,if_true,bind_some',oa1,o1,ua1,u1]
   exact fin o u hou (by omega)
  | true=>
   simp only [Bool.not_true,Bool.false_eq_true,if_false]
   exact fin x x rfl (by omega)
theorem runLines (e f:TEvent) (l:Sl 72 TEvent):F_law16_RunLines e f l=some true:=by
 have hg:W.gt (Sl.len l) (W.of .i64 60)=decide (60 < l.l.length):=len_gt (n:=60) (sm (by omega))
 unfold F_law16_RunLines T_law16_RunLines
 simp only [ev_ite,ev_opt,ev_ret,hg,decide_eq_true_eq,awake16,bind_some']
 by_cases c:60 < l.l.length
 ·rw [if_pos c]
 ·rw [if_neg c]
  obtain ⟨s,t,s1,t1,h1⟩:=line_eq e
  obtain ⟨z,z1,z2⟩:=app_list (s:=(Sl.lit 72 [e] rfl:Sl 72 TEvent)) (t:=l) (by show (1+_)*72≤room;unfold room;omega) (by show 1+_≤room;unfold room;omega)
  obtain ⟨r,r1,r2,_⟩:=first_eq l z (by omega) (by rw [z2];show (e :: l.l).length≤100;rw [List.length_cons];omega)
  obtain ⟨r',q1,_,q2⟩:=first_eq l l (by omega) (by omega)
  have q3:=q2 rfl
  subst q3
  have hb:beqB (decide (e=f)) (decide (e=f))=true:=by cases decide (e=f)<;>rfl
  simp only [s1,t1,bind_some',str_eq h1,if_true,run_same,ev_eq,hb,decide_true,z1,r1,r2,W.eq_self,q1]
end Go.Proofs.YtedhidchlfhegaaGreatDoor
