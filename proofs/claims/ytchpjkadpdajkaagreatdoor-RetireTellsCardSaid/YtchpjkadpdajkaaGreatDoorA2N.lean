/- YtchpjkadpdajkaaGreatDoorA2N: parts of the machine and its laws, in one text. No statement of the seat is proved here. -/
import Derived.Test.YtchpjkadpdajkaaGreatDoorA2S
import Derived.Orders
import Derived.LoopN
set_option linter.unusedSimpArgs false
set_option linter.unusedVariables false
namespace Go.A2
section
variable {X:Tab}
mutual
theorem gen_alive (g:Nat):∀ o:Own,(o.gen g).alive=o.alive
 | .no=>rfl
 | .full=>rfl
 | .yes _=>rfl
 | .dead=>rfl
 | .st l=>gen_aliveL g l
theorem gen_aliveL (g:Nat):∀ l:List Own,Own.aliveL (Own.genL g l)=Own.aliveL l
 | []=>rfl
 | o :: l=>by simp only [Own.genL,Own.aliveL,gen_alive g o,gen_aliveL g l]
end
theorem mkE_map {α:Type} (f:α→AV X) (k:α→Nat):∀ (D:List α) (s:Nat),(mkE (D.map fun q=>(k q,f q)) s=.undef∧∀ q∈D,k q ≠ s)∨∃ q∈D,k q=s∧mkE (D.map fun q=>(k q,f q)) s=f q
 | [],s=>.inl ⟨rfl,by simp⟩
 | q :: D,s=>by
  simp only [List.map_cons,mkE]
  by_cases h:s=k q
  ·exact .inr ⟨q,by simp,h.symm,by rw [if_pos h]⟩
  ·rw [if_neg h]
   rcases mkE_map f k D s with ⟨h1,h2⟩ | ⟨q',h1,h2,h3⟩
   ·exact .inl ⟨h1,fun q' hq=>by rcases List.mem_cons.1 hq with rfl | hq;exact Ne.symm h;exact h2 q' hq⟩
   ·exact .inr ⟨q',by simp [h1],h2,h3⟩
section
variable {N:Slots} {F0 B U:Nat→Prop} {w0:World} {F:Nat→Prop} {S:Nat→List Nat} {e:Env X} {a:Act} {w:World}
theorem EnvRel.shaped (h:EnvRel N F0 B (· < 1) w0 F S e a w) {e':Env X} (hs:∀ s,e' s=e s∨e' s=.undef∨(∃ (b:Nat) (t:X.Ty) (l:Sl b (X.den t)),e s=.val (.slice b t) l .full∧l.l=[]∧e' s=.val (.slice b t) l (.yes 1)) ∨
   ∃ (T:X.Ty) (v:X.den T) (o:Own),e s=.val T v o∧o.pure=true∧e' s=.val T v .no):∃ S',EnvRel N F0 B (· < 2) w0 F S' e' a w:=by
 classical
 have hk:Kept (· < 1) e a w e' a w:=h.kept fun s=>by
  rcases hs s with h1 | h1 | ⟨b,t,l,_,_,h1⟩ | ⟨T,v,o,_,_,h1⟩
  ·exact .inl ⟨h1,rfl,fun _ _=>rfl⟩
  ·exact .inr (by rw [h1];trivial)
  ·exact .inr (by rw [h1];show ¬ (1 < 1);omega)
  ·exact .inr (by rw [h1];trivial)
 let S':Nat→List Nat:=fun s=>if e' s=e s then S s else []
 have hsub:∀ s b,b∈S' s→b∈S s:=fun s b hb=>by
  have hb:b∈(if e' s=e s then S s else []):=hb
  split at hb
  ·exact hb
  ·cases hb
 refine ⟨S',h.size,h.lent,h.defers,fun s=>?_,fun s=>?_,fun s=>?_,fun s=>?_,fun s t b hst hbs hbt=>h.apart s t b hst (hsub s b hbs) (hsub t b hbt),fun s b hb=>h.own s b (hsub s b hb),h.free,h.old,h.keeps,h.below,h.base,h.gl⟩
 ·show SRep e' a w F (e' s) _ (if e' s=e s then S s else [])
  by_cases hes:e' s=e s
  ·rw [if_pos hes,hes];exact (h.rep s).step (fun _ h=>h) (fun _ _=>rfl) hk (h.refs s) fun _ _=>rfl
  ·rw [if_neg hes]
   rcases hs s with h1 | h1 | ⟨b,t,l,h0,hl,h1⟩ | ⟨T,v,o,h0,hp,h1⟩
   ·exact absurd h1 hes
   ·rw [h1];exact .u (.undef _)
   ·rw [h1]
    obtain ⟨cs,k1,k2⟩:=h.valAt h0
    obtain ⟨_,hS⟩:=k1.toPure rfl
    rw [hS] at k1
    have key:∀ {T:X.Ty} {v:X.den T} {o:Own} {cs:List Value} {R:List Nat},VRep w F T v o cs R→T=.slice b t→HEq v l→o=.full→∃ ad,cs=[.slice ad 0 0]:=fun hv hT hvl ho=>by
     cases hv with
     | full b' t' v ad hp=>
      cases hT;cases hvl
      exact ⟨ad,by rw [hl];rfl⟩
     | _=>cases ho
    obtain ⟨ad,hcs⟩:=key k1 rfl HEq.rfl rfl
    rw [hcs] at k2
    exact .u (.val (.slice b t) l (.yes 1) _ [.slice ad 0 0] [] (.ownNil b t l 1 ad hl) k2)
   ·rw [h1]
    obtain ⟨cs,k1,k2⟩:=h.valAt h0
    exact .u (.val T v .no _ cs [] (.pure (k1.toPure hp).1) k2)
 ·rcases hs s with h1 | h1 | ⟨b,t,l,_,_,h1⟩ | ⟨T,v,o,_,_,h1⟩
  ·rw [h1];exact (h.owns s).imp fun g (hg:g < 1)=>show g < 2 by omega
  ·rw [h1];trivial
  ·rw [h1];show 1 < 2;omega
  ·rw [h1];trivial
 ·rcases hs s with h1 | h1 | ⟨b,t,l,_,_,h1⟩ | ⟨T,v,o,_,_,h1⟩
  ·rw [h1];exact (h.refs s).imp fun g (hg:g < 1)=>show g < 2 by omega
  ·rw [h1];trivial
  ·rw [h1];trivial
  ·rw [h1];trivial
 ·show (if e' s=e s then S s else []).Nodup
  split
  ·exact h.nodup s
  ·exact List.nodup_nil
theorem EnvRel.normed (h:EnvRel N F0 B U w0 F S e a w) {e':Env X} (hs:∀ s,e' s=.undef∨e' s=norm e (e s)):∃ S',EnvRel N F0 B (· < 1) w0 F S' e' a w:=by
 classical
 have hslot:∀ s T v o,slotC (e' s)=some ⟨T,v,o⟩→∃ o0,slotC (e s)=some ⟨T,v,o0⟩∧o=o0.gen 0:=fun s T v o hc=>by
  rcases hs s with h1 | h1
  ·rw [h1] at hc;cases hc
  ·rw [h1] at hc
   cases hes:e s with
   | val T1 v1 o1=>
    rw [hes] at hc
    simp only [norm,slotC,Option.some.injEq,Sigma.mk.injEq] at hc
    obtain ⟨rfl,hc⟩:=hc
    cases hc
    exact ⟨o1,rfl,rfl⟩
   | box g1 T1 v1 o1=>
    rw [hes] at hc
    simp only [norm,slotC,Option.some.injEq,Sigma.mk.injEq] at hc
    obtain ⟨rfl,hc⟩:=hc
    cases hc
    exact ⟨o1,rfl,rfl⟩
   | tup l=>rw [hes] at hc;cases hc
   | fn f as bs=>rw [hes] at hc;simp only [norm] at hc;split at hc<;>cases hc
   | rfn f as bs=>rw [hes] at hc;simp only [norm] at hc;split at hc<;>cases hc
   | fnew g=>rw [hes] at hc;cases hc
   | fnb f g T1 v1 o1=>rw [hes] at hc;cases hc
   | fref s1 g=>rw [hes] at hc;cases hc
   | ref s1 q g=>
    rw [hes] at hc
    simp only [norm,normB] at hc
    split at hc<;>cases hc
   | rptr T1 v1=>rw [hes] at hc;cases hc
   | undef=>rw [hes] at hc;cases hc
   | view=>rw [hes] at hc;cases hc
   | mref=>rw [hes] at hc;cases hc
   | aview=>rw [hes] at hc;cases hc
   | ptr b q=>
    rw [hes] at hc
    cases b with
    | box s1 g=>
     simp only [norm,normB] at hc
     split at hc
     ·split at hc<;>cases hc
     ·cases hc
    | elem s1 p g i=>
     simp only [norm,normB] at hc
     split at hc<;>cases hc
 have hbox:∀ s g T v o,e' s=.box g T v o→∃ g0 o0,e s=.box g0 T v o0∧o=o0.gen 0∧g=0:=fun s g T v o hb=>by
  obtain ⟨o0,h1,h2⟩:=hslot s T v o (by rw [hb];rfl)
  rcases slotC_some h1 with hv | ⟨g0,hv⟩
  ·exfalso
   rcases hs s with h3 | h3
   ·rw [hb] at h3;cases h3
   ·rw [hb,hv] at h3;cases h3
  ·refine ⟨g0,o0,hv,h2,?_⟩
   rcases hs s with h3 | h3
   ·rw [hb] at h3;cases h3
   ·rw [hb,hv] at h3;cases h3;rfl
 have hcont:∀ s q g g' b t (l:Sl b (X.den t)) y,cont e' s q g=some ⟨b,t,l⟩→cont e s q g'=some y→cont e s q g'=some ⟨b,t,l⟩:=fun s q g g' b t l y h1 h2=>by
  obtain ⟨T,v,o,k1,k2,k3⟩:=by
   have:=h1
   unfold cont at this
   split at this
   ·rename_i T v o hsc
    split at this
    ·rename_i b' t' l' g1 hg1 ho1
     split at this
     ·rename_i hgg
      cases this
      exact (⟨T,v,o,hsc,hg1,⟨g1,ho1⟩⟩:∃ T v o,slotC (e' s)=some ⟨T,v,o⟩∧getQ q T v=some ⟨.slice b t,l⟩∧∃ g1,ownAt o q=.yes g1)
     ·cases this
    ·cases this
   ·cases this
  obtain ⟨o0,k4,k5⟩:=hslot s T v o k1
  unfold cont at h2 ⊢
  rw [k4] at h2 ⊢
  simp only [k2] at h2 ⊢
  split at h2
  ·rename_i ho
   rename_i g1 heq
   cases heq
   split at h2
   ·rename_i hgg
    subst hgg
    simp only [if_true]
   ·cases h2
  ·cases h2
 have hhdr:∀ s q T v o,slotC (e' s)=some ⟨T,v,o⟩→hdr e' a w s q=hdr e a w s q:=fun s q T v o hc=>by
  obtain ⟨o0,h1,_⟩:=hslot s T v o hc
  unfold hdr
  rcases slotC_some hc with h2 | ⟨g,h2⟩
  ·rcases slotC_some h1 with h3 | ⟨g0,h3⟩
   ·rw [h2,h3]
   ·rcases hs s with h4 | h4
    ·rw [h4] at h2;cases h2
    ·rw [h4,h3] at h2;cases h2
  ·obtain ⟨g0,o1,h3,_⟩:=hbox s g T v o h2
   rw [h2,h3]
 have hcs:∀ {s q g b t} {l:Sl b (X.den t)},cont e' s q g=some ⟨b,t,l⟩→∃ T v o,slotC (e' s)=some ⟨T,v,o⟩:=fun {s q g b t l} hc=>by
  unfold cont at hc
  split at hc
  ·rename_i T v o hsc;exact ⟨T,v,o,hsc⟩
  ·cases hc
 have repB:∀ {x:AV X} {u:Value} {R:List Nat},SRep e a w F x u R→(∀ T v o,x ≠ .val T v o)→(∀ l,x ≠ .tup l)→(∀ f as bs,x ≠ .fn f as bs)→(∀ g T v o,x ≠ .box g T v o)→(∀ f as bs,x ≠ .rfn f as bs)→(∀ f g T v o,x ≠ .fnb f g T v o)→SRep e' a w F (normB e x) u []∧RefG (· < 1) (normB e x):=fun {x u R} hr n1 n2 n3 n4 n5 n6=>by
  cases hr with
  | u h=>cases h with
   | undef=>exact ⟨.u (.undef _),trivial⟩
   | val T v o=>exact absurd rfl (n1 T v o)
   | rptr T v b o cs hb hc hp=>exact ⟨.u (.rptr T v b o cs hb hc hp),trivial⟩
  | tup l=>exact absurd rfl (n2 l)
  | fn f as bs=>exact absurd rfl (n3 f as bs)
  | box g T v o=>exact absurd rfl (n4 g T v o)
  | ref s q g u hq hh=>
   simp only [normB]
   cases hc:cont e s q g with
   | none=>exact ⟨.u (.undef _),trivial⟩
   | some y=>
    refine ⟨.ref s q 0 _ hq fun hc'=>?_,show 0 < 1 by omega⟩
    obtain ⟨⟨b,t,l⟩,hc'⟩:=Option.isSome_iff_exists.1 hc'
    obtain ⟨T,v,o,hsc⟩:=hcs hc'
    rw [hhdr s q T v o hsc]
    exact hh (by rw [hc];rfl)
  | ptrB s g q u hh=>
   simp only [normB]
   cases hes:e s with
   | box g' T v o=>
    simp only []
    split
    ·rename_i hgg
     subst hgg
     refine ⟨.ptrB s 0 q _ fun T' v' o' hb=>?_,show 0 < 1 by omega⟩
     obtain ⟨g0,o0,h1,_⟩:=hbox s 0 T' v' o' hb
     rw [hes] at h1;cases h1
     exact hh T v o hes
    ·exact ⟨.u (.undef _),trivial⟩
   | _=>exact ⟨.u (.undef _),trivial⟩
  | ptrE s p g i q u hp hh=>
   simp only [normB]
   cases hc:cont e s p g with
   | none=>exact ⟨.u (.undef _),trivial⟩
   | some y=>
    refine ⟨.ptrE s p 0 i q _ hp fun b t l hc'=>?_,show 0 < 1 by omega⟩
    obtain ⟨T,v,o,hsc⟩:=hcs hc'
    rw [hhdr s p T v o hsc]
    exact hh b t l (hcont s p 0 g b t l y hc' hc)
  | view=>exact ⟨.u (.undef _),trivial⟩
  | mref=>exact ⟨.u (.undef _),trivial⟩
  | aview=>exact ⟨.u (.undef _),trivial⟩
  | fnew=>exact ⟨.u (.undef _),trivial⟩
  | fnb f g T v o=>exact absurd rfl (n6 f g T v o)
  | fref=>exact ⟨.u (.undef _),trivial⟩
  | rfn f as bs=>exact absurd rfl (n5 f as bs)
 have lst:∀ (l:List (AV X)) (us:List Value),l.all capK=true→l.length=us.length→(∀ (i:Nat) x u,l[i]?=some x→us[i]?=some u→SRep e a w F x u [])→
   (l.map (normB e)).length=us.length∧∀ (i:Nat) y,(l.map (normB e))[i]?=some y→RefG (· < 1) y∧∀ u,us[i]?=some u→SRep e' a w F y u []:=fun l us hc hl ha=>by
  refine ⟨by simpa using hl,fun i y hi=>?_⟩
  rw [List.getElem?_map] at hi
  cases hli:l[i]? with
  | none=>simp [hli] at hi
  | some x=>
   simp [hli] at hi;subst hi
   have hx:=List.all_eq_true.1 hc x (List.mem_of_getElem? hli)
   obtain ⟨u,hu⟩:∃ u,us[i]?=some u:=⟨_,List.getElem?_eq_getElem (by rw [←hl];exact (List.getElem?_eq_some_iff.1 hli).1)⟩
   have hr:=ha i x u hli hu
   have fin:SRep e' a w F (normB e x) u []∧RefG (· < 1) (normB e x):=by
    cases x with
    | val T v o=>
     cases hr with
     | u h=>exact ⟨.u h,trivial⟩
    | ptr b q=>exact repB hr (by simp) (by simp) (by simp) (by simp) (by simp) (by simp)
    | rptr T v=>exact repB hr (by simp) (by simp) (by simp) (by simp) (by simp) (by simp)
    | undef=>exact ⟨.u (.undef u),trivial⟩
    | _=>simp [capK] at hx
   refine ⟨fin.2,fun u' hu'=>?_⟩
   rw [hu] at hu';cases hu'
   exact fin.1
 have ref1:∀ {l:List (AV X)} {us:List Value},l.all capK=true→l.length=us.length→(∀ (i:Nat) x u,l[i]?=some x→us[i]?=some u→SRep e a w F x u [])→RefGL (· < 1) (l.map (normB e)):=fun {l us} hc hl ha=>RefGL_mk fun y hy=>by
  obtain ⟨i,hi,rfl⟩:=List.mem_iff_getElem.1 hy
  exact ((lst l us hc hl ha).2 i _ (List.getElem?_eq_getElem hi)).1
 have repR:∀ {f:Nat} {as bs:List (AV X)} {u:Value} {R:List Nat},SRep e a w F (.rfn f as bs) u R→(as.all capK&&bs.all capK)=true→SRep e' a w F (.rfn f (as.map (normB e)) (bs.map (normB e))) u []∧RefG (· < 1) (.rfn f (as.map (normB e)) (bs.map (normB e))):=fun {f as bs u R} hr hcap=>by
  rw [Bool.and_eq_true] at hcap
  cases hr with
  | u h=>cases h
  | rfn _ _ _ us vs blk hb hc hl hl' ha hb'=>
   obtain ⟨p1,p2⟩:=lst as us hcap.1 hl ha
   obtain ⟨q1,q2⟩:=lst bs vs hcap.2 hl' hb'
   exact ⟨.rfn f _ _ us vs blk hb hc p1 q1 (fun i x u hi hu=>(p2 i x hi).2 u hu) (fun i x u hi hu=>(q2 i x hi).2 u hu),ref1 hcap.1 hl ha,ref1 hcap.2 hl' hb'⟩
 have lst2:∀ (l:List (AV X)) (us:List Value),l.all capK2=true→l.length=us.length→(∀ (i:Nat) x u,l[i]?=some x→us[i]?=some u→SRep e a w F x u [])→
   (l.map (normC e)).length=us.length∧∀ (i:Nat) y,(l.map (normC e))[i]?=some y→RefG (· < 1) y∧∀ u,us[i]?=some u→SRep e' a w F y u []:=fun l us hc hl ha=>by
  refine ⟨by simpa using hl,fun i y hi=>?_⟩
  rw [List.getElem?_map] at hi
  cases hli:l[i]? with
  | none=>simp [hli] at hi
  | some x=>
   simp [hli] at hi;subst hi
   have hx:=List.all_eq_true.1 hc x (List.mem_of_getElem? hli)
   obtain ⟨u,hu⟩:∃ u,us[i]?=some u:=⟨_,List.getElem?_eq_getElem (by rw [←hl];exact (List.getElem?_eq_some_iff.1 hli).1)⟩
   have hr:=ha i x u hli hu
   have fin:SRep e' a w F (normC e x) u []∧RefG (· < 1) (normC e x):=by
    cases x with
    | val T v o=>
     cases hr with
     | u h=>exact ⟨.u h,trivial⟩
    | ptr b q=>exact repB hr (by simp) (by simp) (by simp) (by simp) (by simp) (by simp)
    | rptr T v=>exact repB hr (by simp) (by simp) (by simp) (by simp) (by simp) (by simp)
    | rfn f as bs=>
     simp only [normC]
     split
     ·rename_i hcap
      exact repR hr hcap
     ·exact ⟨.u (.undef _),trivial⟩
    | undef=>exact ⟨.u (.undef u),trivial⟩
    | _=>simp [capK2,capK] at hx
   refine ⟨fin.2,fun u' hu'=>?_⟩
   rw [hu] at hu';cases hu'
   exact fin.1
 let S':Nat→List Nat:=fun s=>match e' s with | .val _ _ _=>S s | .box _ _ _ _=>S s | .fnb _ _ _ _ _=>S s | _=>[]
 have hsub:∀ s b,b∈S' s→b∈S s:=fun s b hb=>by
  have hb:b∈(match e' s with | .val _ _ _=>S s | .box _ _ _ _=>S s | .fnb _ _ _ _ _=>S s | _=>[]):=hb
  split at hb
  ·exact hb
  ·exact hb
  ·exact hb
  ·cases hb
 have all:∀ s,SRep e' a w F (e' s) (a.tmps.getD s undef) (S' s)∧OwnsG (· < 1) (e' s)∧RefG (· < 1) (e' s):=fun s=>by
  have hS:∀ (x:AV X),e' s=x→S' s=(match x with | .val _ _ _=>S s | .box _ _ _ _=>S s | .fnb _ _ _ _ _=>S s | _=>[]):=fun x hx=>by subst hx;rfl
  have low:∀ {x:AV X},OwnsG (·=0) x→OwnsG (· < 1) x:=fun hx=>hx.imp fun g (hg:g=0)=>show g < 1 by omega
  rcases hs s with h1 | h1
  ·rw [hS _ h1,h1];exact ⟨.u (.undef _),trivial,trivial⟩
  ·have hr:=h.rep s
   cases hes:e s with
   | val T v o=>
    rw [hes] at h1 hr
    rw [hS _ h1,h1]
    obtain ⟨cs,k1,k2⟩:=h.valAt hes
    exact ⟨.u (.val T v _ _ cs _ (k1.gen 0) k2),low (OGen_gen 0 o),trivial⟩
   | box g T v o=>
    rw [hes] at h1
    rw [hS _ h1,h1]
    obtain ⟨b,cells,ty,R,k1,k2,k3,k4⟩:=h.boxAt hes
    show SRep e' a w F _ _ (S s)∧_
    rw [k1,k4]
    exact ⟨.box 0 T v _ b cells ty R k2 (k3.gen 0),low ⟨rfl,OGen_gen 0 o⟩,trivial⟩
   | fnb f g T v o=>
    rw [hes] at h1
    rw [hS _ h1,h1]
    obtain ⟨b,cells,ty,R,k1,k2,k3,k4⟩:=h.fnbAt hes
    show SRep e' a w F _ _ (S s)∧_
    rw [k1,k4]
    exact ⟨.fnb f 0 T v _ b cells ty R k2 (k3.gen 0),low ⟨rfl,OGen_gen 0 o⟩,trivial⟩
   | fref=>
    rw [hes] at h1
    rw [hS _ h1,h1]
    exact ⟨.u (.undef _),trivial,trivial⟩
   | tup l=>
    rw [hes] at h1
    rw [hS _ h1,h1]
    exact ⟨.u (.undef _),trivial,trivial⟩
   | fn f as bs=>
    rw [hes] at h1 hr
    simp only [norm] at h1
    split at h1
    ·rename_i hcap
     rw [Bool.and_eq_true] at hcap
     rw [hS _ h1,h1]
     generalize a.tmps.getD s undef=u at hr
     generalize S s=R at hr
     cases hr with
     | u h=>cases h
     | fn _ _ _ us vs hl hl' ha hb=>
      obtain ⟨p1,p2⟩:=lst2 as us hcap.1 hl ha
      obtain ⟨q1,q2⟩:=lst2 bs vs hcap.2 hl' hb
      refine ⟨.fn f _ _ us vs p1 q1 (fun i x u hi hu=>(p2 i x hi).2 u hu) (fun i x u hi hu=>(q2 i x hi).2 u hu),trivial,RefGL_mk fun y hy=>?_,RefGL_mk fun y hy=>?_⟩
      ·obtain ⟨i,hi,rfl⟩:=List.mem_iff_getElem.1 hy
       exact (p2 i _ (List.getElem?_eq_getElem hi)).1
      ·obtain ⟨i,hi,rfl⟩:=List.mem_iff_getElem.1 hy
       exact (q2 i _ (List.getElem?_eq_getElem hi)).1
    ·rw [hS _ h1,h1];exact ⟨.u (.undef _),trivial,trivial⟩
   | ref s1 q g=>
    rw [hes] at h1 hr
    obtain ⟨k1,k2⟩:=repB hr (by simp) (by simp) (by simp) (by simp) (by simp) (by simp)
    have ow:OwnsG (· < 1) (norm e (.ref s1 q g))∧S' s=[]:=by
     rw [hS _ h1]
     simp only [norm,normB]
     split<;>exact ⟨trivial,rfl⟩
    rw [ow.2,h1]
    exact ⟨k1,ow.1,k2⟩
   | rptr T v=>
    rw [hes] at h1 hr
    obtain ⟨k1,k2⟩:=repB hr (by simp) (by simp) (by simp) (by simp) (by simp) (by simp)
    rw [hS _ h1,h1]
    exact ⟨k1,trivial,k2⟩
   | rfn f as bs=>
    rw [hes] at h1 hr
    simp only [norm] at h1
    split at h1
    ·rename_i hcap
     obtain ⟨k1,k2⟩:=repR hr hcap
     rw [hS _ h1,h1]
     exact ⟨k1,trivial,k2⟩
    ·rw [hS _ h1,h1];exact ⟨.u (.undef _),trivial,trivial⟩
   | fnew g=>
    rw [hes] at h1
    rw [hS _ h1,h1]
    exact ⟨.u (.undef _),trivial,trivial⟩
   | undef=>
    rw [hes] at h1
    rw [hS _ h1,h1]
    exact ⟨.u (.undef _),trivial,trivial⟩
   | view=>
    rw [hes] at h1
    rw [hS _ h1,h1]
    exact ⟨.u (.undef _),trivial,trivial⟩
   | mref=>
    rw [hes] at h1
    rw [hS _ h1,h1]
    exact ⟨.u (.undef _),trivial,trivial⟩
   | aview=>
    rw [hes] at h1
    rw [hS _ h1,h1]
    exact ⟨.u (.undef _),trivial,trivial⟩
   | ptr b q=>
    rw [hes] at h1 hr
    obtain ⟨k1,k2⟩:=repB hr (by simp) (by simp) (by simp) (by simp) (by simp) (by simp)
    have ow:OwnsG (· < 1) (norm e (.ptr b q))∧S' s=[]:=by
     rw [hS _ h1]
     cases b with
     | box s1 g=>
      simp only [norm,normB]
      split
      ·split<;>exact ⟨trivial,rfl⟩
      ·exact ⟨trivial,rfl⟩
     | elem s1 p g i=>
      simp only [norm,normB]
      split<;>exact ⟨trivial,rfl⟩
    rw [ow.2,h1]
    exact ⟨k1,ow.1,k2⟩
 exact ⟨S',h.size,h.lent,h.defers,fun s=>(all s).1,fun s=>(all s).2.1,fun s=>(all s).2.2,fun s=>(by show (match e' s with | .val _ _ _=>S s | .box _ _ _ _=>S s | .fnb _ _ _ _ _=>S s | _=>[]).Nodup;split;exact h.nodup s;exact h.nodup s;exact h.nodup s;exact List.nodup_nil),fun s t b hst hbs hbt=>h.apart s t b hst (hsub s b hbs) (hsub t b hbt),fun s b hb=>h.own s b (hsub s b hb),h.free,h.old,h.keeps,h.below,h.base,h.gl⟩
theorem restrict_at (K:List Nat) (e:Env X) (s:Nat):restrict K e s=.undef∨restrict K e s=norm e (e s):=by
 rcases mkE_map (fun k=>norm e (e k)) id K s with ⟨h,_⟩ | ⟨q,_,h1,h2⟩
 ·exact .inl h
 ·simp only [id] at h1;subst h1;exact .inr h2
theorem EnvRel.restrict (h:EnvRel N F0 B U w0 F S e a w) (K:List Nat):∃ S',EnvRel N F0 B (· < 1) w0 F S' (Go.A2.restrict K e) a w:=h.normed (restrict_at K e)
theorem EnvRel.frozen (hX:TabOk X):∀ (D:List (Nat×Sh)) {F:Nat→Prop} {S:Nat→List Nat} {e:Env X},EnvRel N F0 B U w0 F S e a w→∃ F' S',EnvRel N F0 B U w0 F' S' (Go.A2.frozen e D) a w
 | [],F,S,e,h=>⟨F,S,h⟩
 | (s,sh) :: l,F,S,e,h=>by
  simp only [Go.A2.frozen]
  split
  ·have same:upd e s (e s)=e:=by funext t;unfold upd;split<;>simp_all
   cases hes:e s with
   | val T v o=>
    by_cases hal:o.alive=true
    ·obtain ⟨F1,S1,cx,g1,_⟩:=h.freezeAt hX (s:=s) (q:=[]) (by rw [hes];rfl) rfl rfl rfl hal
     rw [hes] at g1
     simp only [freezeV,hal,if_true]
     exact EnvRel.frozen hX l g1
    ·simp only [freezeV,hal,Bool.false_eq_true,if_false]
     rw [←hes,same]
     exact EnvRel.frozen hX l h
   | box g T v o=>
    by_cases hal:o.alive=true
    ·obtain ⟨F1,S1,cx,g1,_⟩:=h.freezeAt hX (s:=s) (q:=[]) (by rw [hes];rfl) rfl rfl rfl hal
     rw [hes] at g1
     simp only [freezeV,hal,if_true]
     exact EnvRel.frozen hX l g1
    ·simp only [freezeV,hal,Bool.false_eq_true,if_false]
     rw [←hes,same]
     exact EnvRel.frozen hX l h
   | _=>
    simp only [freezeV]
    rw [←hes,same]
    exact EnvRel.frozen hX l h
  ·exact EnvRel.frozen hX l h
theorem EnvRel.marked (hX:TabOk X) (h:EnvRel N F0 B (· < 1) w0 F S e a w) (D:List (Nat×Sh)):∃ F' S',EnvRel N F0 B (· < 1) w0 F' S' (Go.A2.marked D e) a w:=by
 obtain ⟨F,S,h⟩:=h.frozen hX D
 unfold Go.A2.marked
 generalize Go.A2.frozen e D=e at h
 refine ⟨F,?_⟩
 obtain ⟨S1,h1⟩:=h.shaped (e':=Go.A2.shaped D e) fun s=>by
  rcases mkE_map (fun q:Nat×Sh=>shape q.2 (e q.1)) (·.1) D s with ⟨h,_⟩ | ⟨q,_,h1,h2⟩
  ·exact .inr (.inl h)
  ·subst h1
   obtain ⟨s,sh⟩:=q
   have h2:Go.A2.shaped D e s=shape sh (e s):=h2
   rw [h2]
   unfold shape
   split
   ·rename_i b t l hsh hes hq
    split
    ·rename_i hl
     exact .inr (.inr (.inl ⟨b,t,l,hsh,hl,rfl⟩))
    ·exact .inr (.inl rfl)
   ·rename_i T v o hsh hes hq
    split
    ·rename_i hp
     exact .inr (.inr (.inr ⟨T,v,o,hsh,hp,rfl⟩))
    ·exact .inr (.inl rfl)
   ·exact .inl rfl
 exact h1.restrict (D.map (·.1))
end
end
end Go.A2
namespace Go.A2
section
variable {P:Program} {Γ:Cx}
section
variable {K:List Nat} {N:Slots} {F0 B U:Nat→Prop} {w0:World} {F:Nat→Prop} {S:Nat→List Nat} {e:Env Γ.X} {a:Act} {w:World} {C:CK Γ.X} {r:Ret Γ.X}
theorem Sim.weakU {U':Nat→Prop} (h:Sim N F0 B U w0 e a w) (hU:∀ g,U g→U' g):Sim N F0 B U' w0 e a w:=by
 obtain ⟨F,S,h⟩:=h
 exact ⟨F,S,h.weakU hU⟩
theorem Sim.restrict (h:Sim N F0 B U w0 e a w) (K:List Nat):Sim N F0 B (· < 1) w0 (Go.A2.restrict K e) a w:=by
 obtain ⟨F,S,h⟩:=h
 obtain ⟨S',h'⟩:=h.restrict K
 exact ⟨F,S',h'⟩
theorem Sim.marked (hX:TabOk Γ.X) (h:Sim N F0 B (· < 1) w0 e a w) (D:List (Nat×Sh)):Sim N F0 B (· < 1) w0 (Go.A2.marked D e) a w:=by
 obtain ⟨F,S,h⟩:=h
 exact h.marked hX D
def Slots.fits (N:Slots) (n:Nat) (lent:List Nat):Prop:=N.n=n∧∀ q∈N.V,inK lent q.1=true
theorem dst_ok {n:Nat} {lent:List Nat} (hN:N.fits n lent) {o:Oper} (h:dstOk n lent o=true):(∀ k,o.dst=some k→N.ok k)∧((∃ t x v,o.op=.store t x v)→o.dst=none):=by
 unfold dstOk at h
 rw [Bool.and_eq_true] at h
 refine ⟨fun k hk=>?_,fun ⟨t,x,v,ho⟩=>?_⟩
 ·have h1:=h.1
  rw [hk] at h1
  simp only [Bool.and_eq_true,decide_eq_true_eq,Bool.not_eq_true'] at h1
  refine ⟨by rw [hN.1];exact h1.1,fun q hq he=>?_⟩
  have:=hN.2 q hq
  rw [he,h1.2] at this;cases this
 ·have h2:=h.2
  rw [ho] at h2
  simpa using h2
theorem EnvRel.pre (hX:TabOk Γ.X) (h:EnvRel N F0 B U w0 F S e a w) (op:AOp Γ.X):∃ F' S',EnvRel N F0 B U w0 F' S' (Go.A2.pre e op) a w:=by
 have gen:∀ (l:List (AX Γ.X)) {F:Nat→Prop} {S:Nat→List Nat} {e1:Env Γ.X},EnvRel N F0 B U w0 F S e1 a w→(∀ s,e1 s=e s∨∃ (T:Γ.X.Ty) (v:Γ.X.den T) (o:Own),e s=.val T v o∧e1 s=.val T v .no)→
   ∃ F' S',EnvRel N F0 B U w0 F' S' (applyU e1 (frzU e l)) a w:=fun l=>by
  induction l with
  | nil=>intro F S e1 h1 _;exact ⟨F,S,h1⟩
  | cons x l ih=>
   intro F S e1 h1 hs
   simp only [frzU]
   split
   ·rename_i u hu
    have key:∃ s T v o,e s=.val T v o∧o.alive=true∧u=(s,.val T v .no):=by
     cases x with
     | c _=>cases hu
     | t s=>
      unfold argFz at hu
      simp only [] at hu
      split at hu
      ·cases hu
      ·rename_i T v o _ hes
       split at hu
       ·cases hu
       ·split at hu
        ·rename_i hal
         cases hu
         exact ⟨s,T,v,o,hes,hal,rfl⟩
        ·cases hu
      ·cases hu
     | v s=>
      unfold argFz at hu
      simp only [] at hu
      split at hu
      ·cases hu
      ·rename_i T v o _ hes
       split at hu
       ·cases hu
       ·split at hu
        ·rename_i hal
         cases hu
         exact ⟨s,T,v,o,hes,hal,rfl⟩
        ·cases hu
      ·cases hu
    obtain ⟨s,T,v,o,hes,hal,rfl⟩:=key
    simp only [applyU]
    have hagree:∀ s',upd e1 s (.val T v .no) s'=e s'∨∃ (T1:Γ.X.Ty) (v1:Γ.X.den T1) (o1:Own),e s'=.val T1 v1 o1∧upd e1 s (.val T v .no) s'=.val T1 v1 .no:=fun s'=>by
     by_cases hss:s'=s
     ·subst hss
      right;exact ⟨T,v,o,hes,by rw [upd_same]⟩
     ·rw [upd_ne _ _ hss];exact hs s'
    rcases hs s with h2 | ⟨T',v',o',h2,h3⟩
    ·obtain ⟨F1,S1,cx,g1,_⟩:=h1.freezeAt hX (s:=s) (q:=[]) (by rw [h2,hes];rfl) rfl rfl rfl hal
     rw [h2,hes] at g1
     exact ih g1 hagree
    ·rw [hes] at h2;cases h2
     have same:upd e1 s (.val T v .no)=e1:=by
      funext t;unfold upd;split
      ·rename_i ht;subst ht;exact h3.symm
      ·rfl
     rw [same]
     rw [same] at hagree
     exact ih h1 hagree
   ·exact ih h1 hs
 exact gen op.args h fun s=>.inl rfl
def Ran (P:Program) (e:Env Γ.X) (g:Nat) (o:AOpr Γ.X) (us:Ups Γ.X):Prop:=∃ ans us1,us=frzU e o.op.args++us1∧eff ans g (pre e o.op) o.dst o.op=some us1∧∀ f as,callArgs (pre e o.op) o.op=some (f,as)→Spec P f (as.map (·.a)) ans
def Took (P:Program) (e:Env Γ.X) (g:Nat) (o:AOpr Γ.X) (us:Ups Γ.X):Prop:=
 match o.guard with
 | none=>Ran P e g o us
 | some (s,want)=>(∃ (b:Bool) (ov:Own),e s=.val .bool b ov∧((b=want∧Ran P e g o us)∨(b ≠ want∧us=outU o.dst (.tup []))))∨(e s=.tup []∧us=outU o.dst (.tup []))
theorem stepK_took {C:CK Γ.X} (hC:CSound P C) {g:Nat} {e:Env Γ.X} {o:AOpr Γ.X} {k:Env Γ.X→Option (Ret Γ.X)} {r:Ret Γ.X} (h:Go.A2.stepK C g e o k=some r):∃ us,Took P e g o us∧k (applyU e us)=some r:=by
 unfold Go.A2.stepK at h
 unfold Took
 have ran:effK C g (pre e o.op) o.dst o.op k=some r→∃ us,Ran P e g o us∧k (applyU e us)=some r:=fun h=>by
  obtain ⟨ans,us,h1,h2,h3⟩:=effK_eff hC h
  exact ⟨_,⟨ans,us,rfl,h1,h3⟩,by rw [applyU_append];exact h2⟩
 cases hg:o.guard with
 | none=>rw [hg] at h;exact ran h
 | some q=>
  obtain ⟨s,want⟩:=q
  rw [hg] at h
  cases want with
  | true=>
   simp only [] at h ⊢
   split at h
   ·rename_i b ov hb
    have hsb:∀ {z:Bool},b=z→setB e (.t s) z=e:=fun {z} hz=>by subst hz;exact setB_self (o:=ov) (by simp only [Go.A2.rd,hb])
    rcases cond_some h with ⟨hz,h'⟩ | ⟨hz,h'⟩
    ·rw [hsb hz] at h'
     obtain ⟨us,h1,h2⟩:=ran h'
     exact ⟨us,.inl ⟨b,ov,hb,.inl ⟨hz,h1⟩⟩,h2⟩
    ·rw [hsb hz] at h'
     exact ⟨_,.inl ⟨b,ov,hb,.inr ⟨fun hh=>Bool.noConfusion (hh.symm.trans hz),rfl⟩⟩,h'⟩
   ·rename_i hb;exact ⟨_,.inr ⟨hb,rfl⟩,h⟩
   ·cases h
  | false=>
   simp only [] at h ⊢
   split at h
   ·rename_i b ov hb
    have hsb:∀ {z:Bool},b=z→setB e (.t s) z=e:=fun {z} hz=>by subst hz;exact setB_self (o:=ov) (by simp only [Go.A2.rd,hb])
    rcases cond_some h with ⟨hz,h'⟩ | ⟨hz,h'⟩
    ·rw [hsb hz] at h'
     exact ⟨_,.inl ⟨b,ov,hb,.inr ⟨fun hh=>Bool.noConfusion (hh.symm.trans hz),rfl⟩⟩,h'⟩
    ·rw [hsb hz] at h'
     obtain ⟨us,h1,h2⟩:=ran h'
     exact ⟨us,.inl ⟨b,ov,hb,.inl ⟨hz,h1⟩⟩,h2⟩
   ·rename_i hb;exact ⟨_,.inr ⟨hb,rfl⟩,h⟩
   ·cases h
theorem tup0:SRep e a w F (.tup []:AV Γ.X) Go.undef []:=SRep.tup [] [] (fun _=>[]) rfl (fun i x u h=>by simp at h)
theorem tup0_inv {u:Value} {S:List Nat} (h:SRep e a w F (.tup []:AV Γ.X) u S):u=Go.undef:=by
 cases h with
 | u h=>cases h
 | tup l us Ss hl h=>
  cases us with
  | nil=>rfl
  | cons _ _=>cases hl
theorem Sim.took (hX:TabOk Γ.X) (h:Sim N F0 B U w0 e a w) {g:Nat} (hg:¬ U g) {n:Nat} {lent:List Nat} (hN:N.fits n lent) {ops:Array Oper} {o:Oper} {ao:AOpr Γ.X} (hco:compOper P Γ K n lent ops o=some ao) {us:Ups Γ.X} (hs:Took P e g ao us)
  {next:Act→World→Prop} {Q:Exit→Act→World→Prop} (hnext:∀ a' w',Sim N F0 B (withG U g) w0 (applyU e us) a' w'→next a' w'):
  if Region.wanted o (yielded ops a.tmps) then o.wp P a w next Q else next (a.put o.dst Go.undef) w:=by
 obtain ⟨F,S,h⟩:=h
 unfold compOper at hco
 split at hco
 ·rename_i hdok
  obtain ⟨hd,hst⟩:=dst_ok hN hdok
  have run:∀ {gd:Option (Nat×Bool)},Ran P e g ({ dst:=o.dst,op:=viewIf Γ (copied ops o) (movedO K o) ((compOp P Γ K o.type o.op).getD .bad),guard:=gd }:AOpr Γ.X) us→o.wp P a w next Q:=fun {gd} hr=>by
   obtain ⟨ans,us1,hus,h1,h3⟩:=hr
   obtain ⟨F',S',h⟩:=h.pre hX (viewIf Γ (copied ops o) (movedO K o) ((compOp P Γ K o.type o.op).getD .bad))
   rw [hus,applyU_append] at hnext
   cases hcc:compOp P Γ K o.type o.op with
   | none=>rw [hcc] at h1;simp [eff,viewIf] at h1
   | some ao=>
    rw [hcc] at h1 h3
    rw [hcc] at h hnext
    exact h.stepV hX hg hcc hd hst h1 h3 hnext
  split at hco
  ·rename_i hgd
   simp only [Option.some.injEq] at hco;subst hco
   have hw:Region.wanted o (yielded ops a.tmps)=true:=by simp [Region.wanted,hgd]
   rw [if_pos hw]
   exact run hs
  ·rename_i gd want hgd
   split at hco
   ·rename_i t ht
    simp only [Option.some.injEq] at hco;subst hco
    have skip:us=outU o.dst (.tup [])→next (a.put o.dst Go.undef) w:=fun h'=>by
     have:=h.out (U:=U) (g:=g) hd hg (Hand.ofPure (x:=.tup []) (u:=Go.undef) tup0 trivial) trivial
     rw [h'] at hnext
     exact hnext _ _ this
    rcases hs with ⟨b,ov,hb,hor⟩ | ⟨hb,hus⟩
    case inr=>
     have hv:a.tmps.getD t Go.undef=Go.undef:=by
      have:=h.rep t
      rw [hb] at this
      exact tup0_inv this
     have hy:yielded ops a.tmps gd=none:=by
      unfold yielded
      rw [ht]
      simp only [Option.bind_some]
      rcases Nat.lt_or_ge t a.tmps.size with hlt | hlt
      ·rw [Array.getElem?_eq_getElem hlt]
       simp [Array.getD_eq_getD_getElem?,hlt] at hv
       simp [hv,Go.undef]
      ·rw [Array.getElem?_eq_none hlt]
     rw [if_neg (by simp [Region.wanted,hgd,hy])]
     exact skip hus
    have hv:a.tmps.getD t Go.undef=.bool b:=by
     obtain ⟨cs,k1,k2⟩:=h.valAt hb
     have:=k1.boolInv
     subst this
     unfold valOk at k2
     rw [if_neg (by simp [aggB])] at k2
     exact (List.cons.inj k2).1.symm
    have hlt:t < a.tmps.size:=by
     rcases Nat.lt_or_ge t a.tmps.size with h | h
     ·exact h
     ·simp [Array.getD_eq_getD_getElem?,Array.getElem?_eq_none h,Go.undef] at hv
    have hy:yielded ops a.tmps gd=some b:=by
     unfold yielded
     have hbind:((ops[gd]?).bind (·.dst)).bind (a.tmps[·]?)=some (.bool b):=by
      rw [ht]
      simp only [Option.bind_some]
      rw [Array.getElem?_eq_getElem hlt]
      simp [Array.getD_eq_getD_getElem?,hlt] at hv
      simp [hv]
     rw [hbind]
    have hw:Region.wanted o (yielded ops a.tmps)=(b==want):=by
     simp only [Region.wanted,hgd,hy]
     cases b<;>cases want<;>rfl
    rcases hor with ⟨hbw,h'⟩ | ⟨hbw,h'⟩
    ·subst hbw
     rw [if_pos (by rw [hw];simp)]
     exact run h'
    ·rw [if_neg (by rw [hw];simpa using hbw)]
     exact skip h'
   ·cases hco
 ·cases hco
theorem Sim.stepK (hX:TabOk Γ.X) (hC:CSound P C) {g:Nat} (h:Sim N F0 B (· < g) w0 e a w) {n:Nat} {lent:List Nat} (hN:N.fits n lent) {ops:Array Oper} {o:Oper} {ao:AOpr Γ.X} (hco:compOper P Γ K n lent ops o=some ao) {k:Env Γ.X→Option (Ret Γ.X)} (hs:Go.A2.stepK C g e ao k=some r)
  {next:Act→World→Prop} {Q:Exit→Act→World→Prop} (hnext:∀ e1 a' w',Sim N F0 B (· < g+1) w0 e1 a' w'→k e1=some r→next a' w'):
  if Region.wanted o (yielded ops a.tmps) then o.wp P a w next Q else next (a.put o.dst Go.undef) w:=by
 obtain ⟨us,h1,h2⟩:=stepK_took hC hs
 exact h.took hX (g:=g) (Nat.lt_irrefl g) hN hco h1 fun a' w' h'=>hnext _ _ _ (h'.weakU fun q hq=>by rcases hq with hq | hq;exact Nat.lt_succ_of_lt hq;exact hq ▸ Nat.lt_succ_self _) h2
theorem Sim.runL (hX:TabOk Γ.X) (hC:CSound P C) {n:Nat} {lent:List Nat} (hN:N.fits n lent) {ops:Array Oper} {rest:List Oper} {Q:Exit→Act→World→Prop}:∀ {l:List Oper} {al:List (AOpr Γ.X)} {g:Nat} {e:Env Γ.X} {a:Act} {w:World} {k:Env Γ.X→Option (Ret Γ.X)},Sim N F0 B (· < g) w0 e a w→allO (compOper P Γ K n lent ops) l=some al→
  Go.A2.runK C g al e k=some r→(∀ g e1 a' w',Sim N F0 B (· < g) w0 e1 a' w'→k e1=some r→wpList P ops Q rest a' w')→wpList P ops Q (l++rest) a w
 | [],al,g,e,a,w,k,h,hco,hr,hQ=>by
  simp [allO] at hco;subst hco
  exact hQ _ _ _ _ h hr
 | o :: l,al,g,e,a,w,k,h,hco,hr,hQ=>by
  simp only [allO] at hco
  split at hco
  ·rename_i ao al' h1 h2
   simp only [Option.some.injEq] at hco;subst hco
   simp only [Go.A2.runK] at hr
   refine wpList_step fun K' hK'=>?_
   exact h.stepK hX hC hN h1 hr fun e1 a' w' h' hk=>hK' _ _ (Sim.runL hX hC hN h' h2 hk hQ)
  ·cases hco
theorem Sim.runK (hX:TabOk Γ.X) (hC:CSound P C) {n:Nat} {lent:List Nat} (hN:N.fits n lent) {ops:Array Oper} {Q:Exit→Act→World→Prop} {l:List Oper} {al:List (AOpr Γ.X)} {g:Nat} {e:Env Γ.X} {a:Act} {w:World} {k:Env Γ.X→Option (Ret Γ.X)} (h:Sim N F0 B (· < g) w0 e a w) (hco:allO (compOper P Γ K n lent ops) l=some al)
  (hr:Go.A2.runK C g al e k=some r) (hQ:∀ g e1 a' w',Sim N F0 B (· < g) w0 e1 a' w'→k e1=some r→Q .normal a' w'):wpList P ops Q l a w:=by
 have:=h.runL (rest:=[]) hX hC hN hco hr (Q:=Q) fun g e1 a' w' h' hk=>hQ g e1 a' w' h' hk
 rwa [List.append_nil] at this
end
end
end Go.A2
namespace Go.A2
section
variable {X:Tab}
def execT (C:CK X) (K:List Nat) (N:Nat):ACode X→Env X→Kon X→Option (Ret X)
 | .skip,e,k=>k .normal e
 | .region ops,e,k=>runK C 1 ops e fun e1=>k .normal (restrict K e1)
 | .draw ops ms,e,k=>drawK C 1 ops ms [] e fun e1=>k .normal (restrict K e1)
 | .seq a b,e,k=>execT C K N a e fun x e1=>match x with
  | .normal=>execT C K N b e1 k
  | x=>k x e1
 | .cond c a b,e,k=>match rd e c with
  | .val .bool v _=>cond v (execT C K N a (setB e c true) k) (execT C K N b (setB e c false) k)
  | _=>none
 | .block id a,e,k=>execT C K N a e fun x e1=>match x with
  | .exit j=>if j=id then k .normal e1 else k (.exit j) e1
  | x=>k x e1
 | .loop a,e,k=>iterK (execT C K N a) N e k
 | .exit id,e,k=>k (.exit id) e
 | .ret,e,k=>k .ret e
 | .mark _ D a,e,k=>execT C K N a (marked D e) k
 | .trim D a,e,k=>execT C K N a e fun x e1=>k x (marked D e1)
 | .dfr t a,e,k=>match rd e (.v t) with
  | .fn f _ _=>if isDf X f then execT C K N a e fun x e1=>match x with
    | .ret=>effK C 1 e1 none (.callv (.v t) []) fun e2=>k .ret (restrict K e2)
    | _=>none
   else none
  | _=>none
 | .bad,_,_=>none
def runFnT (C:CK X) (N:Nat) (af:AFn X) (args:List (AV X)) (k:Ret X→Option (Ret X)):Option (Ret X):=
 if args.length=af.np then execT C af.keep N af.body (entry args) (endK af k) else none
end
section
variable {P:Program} {Γ:Cx}
def exOf:AExit→Exit
 | .normal=>.normal
 | .exit id=>.exit id
 | .ret=>.ret
section
variable {K:List Nat} {N:Slots} {F0 B U:Nat→Prop} {w0:World} {F:Nat→Prop} {S:Nat→List Nat} {e:Env Γ.X} {a:Act} {w:World} {C:CK Γ.X} {r:Ret Γ.X}
def DrawSound (P:Program) (Γ:Cx) (C:CK Γ.X):Prop:=∀ {N:Slots} {F0 B:Nat→Prop} {w0:World} {e:Env Γ.X} {a:Act} {w:World} {r:Ret Γ.X} {K:List Nat} {n:Nat} {lent:List Nat} (_:N.fits n lent) {ops:Array Oper} {al:List (AOpr Γ.X)}
 (_:allO (compOper P Γ K n lent ops) ops.toList=some al) (_:aheadOk ops=true) {k:Env Γ.X→Option (Ret Γ.X)} (_:Sim N F0 B (· < 1) w0 e a w) (_:drawK C 1 al (masks ops.toList) [] e k=some r) {Q:Exit→Act→World→Prop}
 (_:∀ g e1 a' w',Sim N F0 B (· < g) w0 e1 a' w'→k e1=some r→Q .normal a' w'),wpAny P .any ops Q ops.size (Array.replicate ops.size false) a w
theorem Sim.drew (h:Sim N F0 B U w0 e a w):Sim N F0 B U w0 e a { w with drawn:=w.drawn+1 }:=by
 obtain ⟨F,S,h⟩:=h
 exact ⟨F,S,h.world (w':={ w with drawn:=w.drawn+1 }) (F':=F) (fun _ h=>h) (fun _ _=>rfl) (fun _ _ _=>rfl) ⟨rfl,rfl,rfl,Nat.le_refl _,fun _ _ _=>rfl⟩ fun _ hb=>.inl hb⟩
def Pend (P:Program):List Deferred→(World→Prop)→World→Prop
 | [],post,w=>post w
 | d :: ds,post,w=>∃ fv cap f args,d.target=.fn fv cap∧(invoke d.target d.args).run P w=.ok (.enter f args) w∧CallsD P f args .returning w fun en u w'=>u=.returning∧(∃ v,en=.returned v)∧Pend P ds post w'
theorem Pend.mono {post post':World→Prop} (hp:∀ w,post w→post' w):∀ {ds:List Deferred} {w:World},Pend P ds post w→Pend P ds post' w
 | [],_,h=>hp _ h
 | _ :: _,_,⟨fv,cap,f,args,h1,h2,h3⟩=>⟨fv,cap,f,args,h1,h2,h3.mono fun _ _ _ ⟨k1,k2,k3⟩=>⟨k1,k2,Pend.mono hp k3⟩⟩
theorem Pend.append {post:World→Prop} {es:List Deferred}:∀ {ds:List Deferred} {w:World},Pend P ds (Pend P es post) w→Pend P (ds++es) post w
 | [],_,h=>h
 | _ :: _,_,⟨fv,cap,f,args,h1,h2,h3⟩=>⟨fv,cap,f,args,h1,h2,h3.mono fun _ _ _ ⟨k1,k2,k3⟩=>⟨k1,k2,Pend.append k3⟩⟩
def RetSim (P:Program) (N:Slots) (F0 B:Nat→Prop) (w0:World) (e:Env Γ.X) (a:Act) (w:World):Prop:=
 ∃ ds,(ds ≠ []→N.pd=true)∧a.defers=ds++N.D∧Pend P ds (fun w'=>Sim N F0 B (· < 1) w0 e { a with defers:=N.D } w') w
def SimX (P:Program) (N:Slots) (F0 B:Nat→Prop) (w0:World) (x:AExit) (e:Env Γ.X) (a:Act) (w:World):Prop:=
 match x with
 | .ret=>RetSim P N F0 B w0 e a w
 | _=>Sim N F0 B (· < 1) w0 e a w
theorem Sim.ret (h:Sim N F0 B (· < 1) w0 e a w):RetSim P N F0 B w0 e a w:=by
 have hd:a.defers=N.D:=by obtain ⟨F,S,h⟩:=h;exact h.defers
 refine ⟨[],fun hh=>absurd rfl hh,hd,?_⟩
 show Sim N F0 B (· < 1) w0 e { a with defers:=N.D } w
 rw [←hd]
 exact h
theorem SimX.marked (hX:TabOk Γ.X) {x:AExit} (h:SimX P N F0 B w0 x e a w) (D:List (Nat×Sh)):SimX P N F0 B w0 x (Go.A2.marked D e) a w:=by
 cases x with
 | normal=>exact Sim.marked hX (show Sim N F0 B (· < 1) w0 e a w from h) D
 | exit id=>exact Sim.marked hX (show Sim N F0 B (· < 1) w0 e a w from h) D
 | ret=>
  obtain ⟨ds,h1,h2,h3⟩:=h
  exact ⟨ds,h1,h2,h3.mono fun w' h=>h.marked hX D⟩
theorem EnvRel.defer (h:EnvRel N F0 B U w0 F S e a w) {N':Slots} {a':Act} (ht:a'.tmps=a.tmps) (hn:N'.n=N.n) (hl:∀ s u,(s,u)∈N'.V→a.tmps.getD s Go.undef=u) (hd:a'.defers=N'.D):EnvRel N' F0 B U w0 F S e a' w:=by
 have hk:Kept U e a w e a' w:=h.kept fun s=>.inl ⟨rfl,by rw [ht],fun _ _=>rfl⟩
 refine ⟨by rw [ht,hn];exact h.size,fun s u hs=>by rw [ht];exact hl s u hs,hd,fun s=>?_,h.owns,h.refs,h.nodup,h.apart,h.own,h.free,h.old,h.keeps,h.below,h.base,h.gl⟩
 rw [ht]
 exact (h.rep s).step (fun _ h=>h) (fun _ _=>rfl) hk (h.refs s) fun _ _=>rfl
theorem Sim.runD (hX:TabOk Γ.X) (h:Sim N F0 B (· < 1) w0 e a w) {t f:Nat} {us0 vs0:Array Value} (ht:a.tmps.getD t Go.undef=.func (.func f) us0 vs0) (hf:isDf Γ.X f=true) {ans:Ret Γ.X} {us:Ups Γ.X} (hs:eff ans 1 e none (.callv (.v t) [])=some us)
  (hsp:∀ f as,callArgs e (.callv (.v t) [])=some (f,as)→Spec P f (as.map (·.a)) ans) {d:Deferred} (hdt:d.target=.fn (.func f) vs0) (hda:d.args=us0++#[]) {post:World→Prop} (hpost:∀ w',Sim N F0 B (· < 2) w0 (applyU e us) a w'→post w'):Pend P [d] post w:=by
 obtain ⟨F,S,h⟩:=h
 simp only [eff] at hs
 split at hs
 ·rename_i f' as has
  have hsp:=hsp f' as has
  simp only [callArgs] at has
  split at has
  ·rename_i f1 first caps hrd
   split at has
   ·rename_i as0 fs cs h1 h2 h3
    simp only [Option.some.injEq,Prod.mk.injEq] at has
    obtain ⟨rfl,rfl⟩:=has
    have h1:as0=[]:=by simp only [allO,Option.some.injEq] at h1;exact h1.symm
    subst h1
    have het:e t=.fn f1 first caps:=by
     simp only [Go.A2.rd] at hrd
     split at hrd<;>first | cases hrd | exact hrd
    have hr:=h.rep t
    rw [het,ht] at hr
    generalize hR:S t=R at hr
    generalize hu:Value.func (.func f) us0 vs0=u at hr
    cases hr with
    | u h=>cases h
    | fn _ _ _ us1 vs1 hl hl' ha hb=>
     injection hu with q1 q2 q3
     injection q1 with q1
     subst q1 q2 q3
     obtain ⟨fn,hfn,hbd,hnm⟩:=hsp.1
     obtain ⟨n2,_⟩:=allO_spec h2
     obtain ⟨n3,_⟩:=allO_spec h3
     refine ⟨_,_,f,(us1++vs1).toArray,hdt,?_,?_⟩
     ·rw [hdt,hda]
      simp only [invoke,callFunc_run hfn hbd hnm]
      simp
     ·refine CallsD.mono (h.enter hX (Nat.lt_irrefl 1) (d:=none) (fun k hk=>by cases hk) rfl (vals:=us1++vs1) (by simp [n2,n3,hl,hl']) (fun i A u hA hu=>?_) (Cl:=fun vs w R=>CallsD P f vs .returning w fun en u w'=>u=.returning∧R en w') (fun h hr=>h.mono fun _ _ _ ⟨k1,k2⟩=>⟨k1,hr _ _ k2⟩) (hsp.2.2 hf) hs (next:=fun a' w'=>a'=a→post w') (Q:=fun _ _ _=>False) fun a' w' h' he=>?_) ?_
      ·by_cases hi1:i < fs.length
       ·rw [List.append_nil,List.getElem?_append_left hi1] at hA
        rw [List.getElem?_append_left (by omega)] at hu
        obtain ⟨x,hxi,hax⟩:=allO_get' h2 hA
        exact ⟨x,[],.inr (.inl hax),ha i x u hxi hu⟩
       ·rw [List.append_nil,List.getElem?_append_right (by omega)] at hA
        rw [List.getElem?_append_right (by omega)] at hu
        have he:i - us1.length=i - fs.length:=by omega
        rw [he] at hu
        obtain ⟨x,hxi,hax⟩:=allO_get' h3 hA
        exact ⟨x,[],capA_any hax,hb _ x u hxi hu⟩
      ·subst he
       obtain ⟨F',S',h'⟩:=h'
       exact hpost w' ⟨F',S',h'.weakU fun q hq=>by rcases hq with hq | hq;exact Nat.lt_succ_of_lt hq;exact hq ▸ Nat.lt_succ_self _⟩
      ·rintro en u w' ⟨k1,k2⟩
       cases en with
       | returned v=>exact ⟨k1,⟨v,rfl⟩,k2 rfl⟩
       | panicked=>exact k2.elim
       | outgrown=>exact absurd k2 (by simp [LetsOut])
   ·cases has
  ·rename_i s g0 hrd
   split at has
   ·rename_i f1 g' T v m hes
    split at has
    ·rename_i hgg
     subst hgg
     split at has
     ·rename_i as0 h1
      simp only [Option.some.injEq,Prod.mk.injEq] at has
      obtain ⟨rfl,rfl⟩:=has
      have h1:as0=[]:=by simp only [allO,Option.some.injEq] at h1;exact h1.symm
      subst h1
      obtain ⟨b,cells,ty,S',q1,q2,q3,q4⟩:=h.fnbAt hes
      have hst:a.tmps.getD t Go.undef=a.tmps.getD s Go.undef:=by
       simp only [Go.A2.rd] at hrd
       split at hrd
       all_goals first | cases hrd | skip
       ·rfl
       ·have hr:=h.rep t
        rw [hrd] at hr
        generalize a.tmps.getD t Go.undef=u at hr
        generalize S t=R at hr
        cases hr with
        | u h=>cases h
        | fref _ _ _ hh=>exact hh _ _ _ _ hes
      rw [ht,q1] at hst
      injection hst with r1 r2 r3
      injection r1 with r1
      subst r1 r2 r3
      obtain ⟨fn,hfn,hbd,hnm⟩:=hsp.1
      refine ⟨_,_,f,[Value.pointer (some ⟨b,0,none⟩)].toArray,hdt,?_,?_⟩
      ·rw [hdt,hda]
       simp only [invoke,callFunc_run hfn hbd hnm]
       simp
      ·refine CallsD.mono (h.enter hX (Nat.lt_irrefl 1) (d:=none) (fun k hk=>by cases hk) rfl (vals:=[Value.pointer (some ⟨b,0,none⟩)]) rfl (fun i A u hA hu=>?_) (Cl:=fun vs w R=>CallsD P f vs .returning w fun en u w'=>u=.returning∧R en w') (fun h hr=>h.mono fun _ _ _ ⟨k1,k2⟩=>⟨k1,hr _ _ k2⟩) (hsp.2.2 hf) hs (next:=fun a' w'=>a'=a→post w') (Q:=fun _ _ _=>False) fun a' w' h' he=>?_) ?_
       ·have hi0:i=0:=by
         have:=(List.getElem?_eq_some_iff.1 hA).1
         simp at this;omega
        subst hi0
        simp at hA hu;subst hA;subst hu
        exact ⟨.undef,[],.inr (.inr (.inr (.inr ⟨s,g0,f,T,v,m,hes,rfl,q1⟩))),.u (.undef _)⟩
       ·subst he
        obtain ⟨F',S',h'⟩:=h'
        exact hpost w' ⟨F',S',h'.weakU fun q hq=>by rcases hq with hq | hq;exact Nat.lt_succ_of_lt hq;exact hq ▸ Nat.lt_succ_self _⟩
       ·rintro en u w' ⟨k1,k2⟩
        cases en with
        | returned v=>exact ⟨k1,⟨v,rfl⟩,k2 rfl⟩
        | panicked=>exact k2.elim
        | outgrown=>exact absurd k2 (by simp [LetsOut])
     ·cases has
    ·cases has
   ·cases has
  ·cases has
 ·cases hs
theorem Sim.markIt (hX:TabOk Γ.X) {M:Marks} {i:Nat} {ac:ACode Γ.X} {Nf:Nat} {k:Kon Γ.X} (h:Sim N F0 B (· < 1) w0 e a w) (hr:execT C K Nf (Go.A2.markIt Γ M i ac) e k=some r):∃ e',Sim N F0 B (· < 1) w0 e' a w∧execT C K Nf ac e' k=some r:=by
 unfold Go.A2.markIt at hr
 split at hr
 ·rename_i D _
  exact ⟨_,h.marked hX D,hr⟩
 ·exact ⟨e,h,hr⟩
theorem trimIt_run (hX:TabOk Γ.X) {M:Marks} {i:Nat} {ac:ACode Γ.X} {Nf:Nat} {k:Kon Γ.X} (hr:execT C K Nf (Go.A2.trimIt Γ M i ac) e k=some r):
  ∃ k',execT C K Nf ac e k'=some r∧∀ {N:Slots} {F0 B:Nat→Prop} {w0:World} {Q:Exit→Act→World→Prop},(∀ x e1 a' w',SimX P N F0 B w0 x e1 a' w'→k x e1=some r→Q (exOf x) a' w')→∀ x e1 a' w',SimX P N F0 B w0 x e1 a' w'→k' x e1=some r→Q (exOf x) a' w':=by
 unfold Go.A2.trimIt at hr
 split at hr
 ·rename_i D _
  exact ⟨_,hr,fun hQ x e1 a' w' h hk=>hQ x _ a' w' (SimX.marked hX h D) hk⟩
 ·exact ⟨k,hr,fun hQ=>hQ⟩
theorem hasDfr_markIt {M:Marks} {i:Nat} {ac:ACode Γ.X}:hasDfr Γ (Go.A2.markIt Γ M i ac)=hasDfr Γ ac:=by
 unfold Go.A2.markIt
 split<;>rfl
theorem hasDfr_trimIt {M:Marks} {i:Nat} {ac:ACode Γ.X}:hasDfr Γ (Go.A2.trimIt Γ M i ac)=hasDfr Γ ac:=by
 unfold Go.A2.trimIt
 split<;>rfl
theorem dfrL_some:∀ {ops:List Oper} {l:List Oper} {t:Nat},dfrL ops=some (l,t)→∃ o c,ops=l++[o]∧o.op=.defer c∧o.dst=none∧o.guard=none∧c.callee=.value (.tmp t)∧c.args=#[]
 | [],_,_,h=>by cases h
 | [o],l,t,h=>by
  simp only [dfrL] at h
  split at h
  ·rename_i c h1 h2 h3
   split at h
   ·rename_i t' h4 h5
    simp only [Option.some.injEq,Prod.mk.injEq] at h
    obtain ⟨rfl,rfl⟩:=h
    exact ⟨o,c,rfl,h1,h2,h3,h4,by rw [←Array.toList_inj];exact h5⟩
   ·cases h
  ·cases h
 | o :: o' :: l',l,t,h=>by
  have h:(dfrL (o' :: l')).map (fun q=>(o :: q.1,q.2))=some (l,t):=h
  obtain ⟨q,hq,h2⟩:=Option.map_eq_some_iff.1 h
  obtain ⟨o2,c,h3,h4⟩:=dfrL_some hq
  simp only [Prod.mk.injEq] at h2
  obtain ⟨rfl,rfl⟩:=h2
  exact ⟨o2,c,by rw [h3];rfl,h4⟩
theorem dfrOf_some {c:Code} {ops:Array Oper} {l:List Oper} {t:Nat} (h:dfrOf c=some (ops,l,t)):∃ id o c',c=.region id ops false∧ops.toList=l++[o]∧o.op=.defer c'∧o.dst=none∧o.guard=none∧c'.callee=.value (.tmp t)∧c'.args=#[]:=by
 unfold dfrOf at h
 split at h
 ·rename_i id ops'
  obtain ⟨q,hq,h2⟩:=Option.map_eq_some_iff.1 h
  simp only [Prod.mk.injEq] at h2
  obtain ⟨rfl,rfl,rfl⟩:=h2
  obtain ⟨o,c',h3⟩:=dfrL_some hq
  exact ⟨id,o,c',rfl,h3⟩
 ·cases h
theorem Sim.exec (hm:P.follows .mixedOrders=true) (hX:TabOk Γ.X) (hC:CSound P C) (hD:DrawSound P Γ C) (Nf:Nat) {M:Marks} {n:Nat}:∀ (c:Code) {N:Slots} {lent:List Nat} (_:N.fits n lent) {i j:Nat} {ac:ACode Γ.X} (_:compCode P Γ M K n lent i c=some (ac,j)) (_:hasDfr Γ ac=true→N.pd=true) {e:Env Γ.X} {a:Act} {w:World} {k:Kon Γ.X}
  (_:Sim N F0 B (· < 1) w0 e a w) (_:execT C K Nf ac e k=some r) {Q:Exit→Act→World→Prop} (_:∀ x e1 a' w',SimX P N F0 B w0 x e1 a' w'→k x e1=some r→Q (exOf x) a' w'),c.wp P Q a w:=by
 intro c
 induction c with
 | skip=>
  intro N lent hN i j ac hco hpd e a w k h hr Q hQ
  simp only [compCode,Option.some.injEq,Prod.mk.injEq] at hco
  obtain ⟨rfl,_⟩:=hco
  exact wp_skip (hQ .normal _ _ _ h hr)
 | region id ops draw=>
  intro N lent hN i j ac hco hpd e a w k h hr Q hQ
  cases draw with
  | true=>
   simp only [compCode] at hco
   split at hco
   ·rename_i al hal
    split at hco
    ·rename_i hok
     simp only [Option.some.injEq,Prod.mk.injEq] at hco
     obtain ⟨rfl,_⟩:=hco
     exact wp_region_any hm (hD hN hal hok h.drew hr fun g e1 a' w' h' hk=>hQ .normal _ _ _ (h'.restrict K) hk)
    ·cases hco
   ·cases hco
  | false=>
   simp only [compCode] at hco
   split at hco
   ·rename_i al hal
    simp only [Option.some.injEq,Prod.mk.injEq] at hco
    obtain ⟨rfl,_⟩:=hco
    exact wp_region_list (h.runK hX hC hN hal hr fun g e1 a' w' h' hk=>hQ .normal _ _ _ (h'.restrict K) hk)
   ·cases hco
 | seq c1 c2 ih1 ih2=>
  intro N lent hN i j ac hco hpd e a w k h hr Q hQ
  simp only [compCode] at hco
  cases hdf:dfrOf c1 with
  | some q=>
   obtain ⟨ops,l,t⟩:=q
   rw [hdf] at hco
   simp only [] at hco
   split at hco
   ·rename_i al a2 j2 h1 h2
    split at hco
    ·rename_i htn
     simp only [Option.some.injEq,Prod.mk.injEq] at hco
     obtain ⟨rfl,_⟩:=hco
     obtain ⟨id,o,c',rfl,hol,hop,hod,hog,hcal,harg⟩:=dfrOf_some hdf
     have hpt:N.pd=true:=hpd (by simp [hasDfr])
     refine wp_seq (wp_region_list ?_)
     rw [hol]
     refine h.runL hX hC hN h1 hr fun g e1 a1 w1 h' hk=>?_
     have h'':=h'.restrict K
     generalize Go.A2.restrict K e1=e2 at h'' hk
     clear h' e1
     simp only [execT] at hk
     split at hk
     ·rename_i f fs cs hrd
      split at hk
      ·rename_i hf
       have het:e2 t=.fn f fs cs:=by
        simp only [Go.A2.rd] at hrd
        split at hrd<;>first | cases hrd | exact hrd
       have hval:∃ us0 vs0:Array Value,a1.tmps.getD t Go.undef=.func (.func f) us0 vs0:=by
        obtain ⟨F,S,h0⟩:=h''
        have hrep:=h0.rep t
        rw [het] at hrep
        generalize a1.tmps.getD t Go.undef=u at hrep
        generalize S t=R at hrep
        cases hrep with
        | u h=>cases h
        | fn _ _ _ us1 vs1=>exact ⟨us1.toArray,vs1.toArray,rfl⟩
       obtain ⟨us0,vs0,hval⟩:=hval
       let d:Deferred:={ target:=.fn (.func f) vs0,args:=us0++#[] }
       let N':Slots:=⟨N.n,(t,.func (.func f) us0 vs0) :: N.V,d :: N.D,N.pd⟩
       refine wpList_step fun K' hK'=>?_
       have hw:Region.wanted o (yielded ops a1.tmps)=true:=by simp [Region.wanted,hog]
       rw [if_pos hw]
       have hrun:(execOp a1.eval o).run P w1=.ok (.defer d) w1:=by
        simp only [execOp,hop,resolve,hcal,harg]
        simp [Act.eval,hval,Deferred.ofValue,d]
       unfold Oper.wp
       rw [hrun]
       show K' (({ a1 with defers:=d :: a1.defers }:Act).put o.dst Go.undef) w1
       rw [hod]
       refine hK' _ _ ?_
       show c2.wp P Q { a1 with defers:=d :: a1.defers } w1
       have hd1:a1.defers=N.D:=by obtain ⟨F,S,h0⟩:=h'';exact h0.defers
       have hN':N'.fits n (t :: lent):=⟨hN.1,fun q hq=>by
        rcases List.mem_cons.1 hq with rfl | hq
        ·simp [inK]
        ·have:=hN.2 q hq
         simp only [inK,List.any_cons,Bool.or_eq_true] at this ⊢
         exact .inr this⟩
       have hs:Sim N' F0 B (· < 1) w0 e2 { a1 with defers:=d :: a1.defers } w1:=by
        obtain ⟨F,S,h0⟩:=h''
        exact ⟨F,S,h0.defer rfl rfl (fun s u hs=>by
         rcases List.mem_cons.1 hs with hs | hs
         ·cases hs;exact hval
         ·exact h0.lent s u hs) (by rw [hd1])⟩
       obtain ⟨e3,h3,h4⟩:=hs.markIt hX hk
       obtain ⟨k2,h5,h6⟩:=trimIt_run hX h4
       refine ih2 hN' h2 (fun _=>hpt) h3 h5 (h6 fun x e4 a' w' h' hk=>?_)
       cases x with
       | normal=>cases hk
       | exit id=>cases hk
       | ret=>
        simp only [] at hk
        obtain ⟨ans,us,g1,g2,g3⟩:=effK_eff hC hk
        obtain ⟨ds,q1,q2,q3⟩:=h'
        refine hQ .ret _ a' w' ⟨ds++[d],fun _=>hpt,by rw [q2];simp [N'],Pend.append (q3.mono fun w2 hs2=>?_)⟩ g2
        have hv2:({ a' with defers:=N'.D }:Act).tmps.getD t Go.undef=.func (.func f) us0 vs0:=by
         obtain ⟨F,S,h0⟩:=hs2
         exact h0.lent t _ (by simp [N'])
        refine hs2.runD hX hv2 hf g1 g3 (d:=d) rfl rfl fun w3 hs3=>?_
        have hs4:=hs3.restrict K
        obtain ⟨F,S,h0⟩:=hs4
        exact ⟨F,S,h0.defer rfl rfl (fun s u hs=>h0.lent s u (by simp [N',hs])) rfl⟩
      ·cases hk
     ·cases hk
    ·cases hco
   ·cases hco
  | none=>
   rw [hdf] at hco
   simp only [] at hco
   split at hco
   ·rename_i a1 j1 h1
    split at hco
    ·rename_i a2 j2 h2
     simp only [Option.some.injEq,Prod.mk.injEq] at hco
     obtain ⟨rfl,_⟩:=hco
     simp only [hasDfr,hasDfr_markIt,hasDfr_trimIt,Bool.or_eq_true] at hpd
     refine wp_seq (ih1 hN h1 (fun hh=>hpd (.inl hh)) h hr fun x e1 a' w' h' hk=>?_)
     cases x with
     | normal=>
      obtain ⟨e2,h3,h4⟩:=Sim.markIt hX (show Sim N F0 B (· < 1) w0 e1 a' w' from h') hk
      obtain ⟨k2,h5,h6⟩:=trimIt_run hX h4
      exact ih2 hN h2 (fun hh=>hpd (.inr hh)) h3 h5 (h6 hQ)
     | exit id=>exact hQ (.exit id) _ _ _ h' hk
     | ret=>exact hQ .ret _ _ _ h' hk
    ·cases hco
   ·cases hco
 | cond c c1 c2 ih1 ih2=>
  intro N lent hN i j ac hco hpd e a w k h hr Q hQ
  simp only [compCode] at hco
  split at hco
  ·rename_i xc a1 j1 hc h1
   split at hco
   ·rename_i a2 j2 h2
    simp only [Option.some.injEq,Prod.mk.injEq] at hco
    obtain ⟨rfl,_⟩:=hco
    obtain ⟨F,S,h0⟩:=h
    simp only [execT] at hr
    split at hr
    ·rename_i b ov hb
     have hv:=h0.rdBool hX hc hb
     rcases cond_some hr with ⟨hz,h'⟩ | ⟨hz,h'⟩
     ·subst hz
      rw [setB_self hb] at h'
      exact wp_cond_true hv (ih1 hN h1 (fun hh=>hpd (by simp [hasDfr,hh])) ⟨F,S,h0⟩ h' hQ)
     ·subst hz
      rw [setB_self hb] at h'
      exact wp_cond_false hv (ih2 hN h2 (fun hh=>hpd (by simp [hasDfr,hh])) ⟨F,S,h0⟩ h' hQ)
    ·cases hr
   ·cases hco
  ·cases hco
 | block id c ih=>
  intro N lent hN i j ac hco hpd e a w k h hr Q hQ
  simp only [compCode] at hco
  split at hco
  ·rename_i a1 j1 h1
   simp only [Option.some.injEq,Prod.mk.injEq] at hco
   obtain ⟨rfl,_⟩:=hco
   refine wp_block (ih hN h1 (fun hh=>hpd (by simp [hasDfr,hh])) h hr fun x e1 a' w' h' hk=>?_)
   cases x with
   | normal=>exact hQ .normal _ _ _ h' hk
   | exit jj=>
    simp only [] at hk
    split at hk
    ·rename_i hj
     simp only [exOf,Exit.inBlock,hj,if_true];exact hQ .normal _ _ _ h' hk
    ·rename_i hj
     simp only [exOf,Exit.inBlock,hj,if_false];exact hQ (.exit jj) _ _ _ h' hk
   | ret=>exact hQ .ret _ _ _ h' hk
  ·cases hco
 | loop c ih=>
  intro N lent hN i j ac hco hpd e a w k h hr Q hQ
  simp only [compCode] at hco
  split at hco
  ·rename_i a1 j1 h1
   simp only [Option.some.injEq,Prod.mk.injEq] at hco
   obtain ⟨rfl,_⟩:=hco
   obtain ⟨e2,h3,h4'⟩:=h.markIt hX hr
   obtain ⟨k,h4,h6⟩:=trimIt_run hX h4'
   have hQ:=h6 hQ
   simp only [execT] at h4
   have key:∀ m e a w,Sim N F0 B (· < 1) w0 e a w→iterK (execT C K Nf (Go.A2.markIt Γ M (i+2) a1)) m e k=some r→Code.rounds P c Q m a w:=by
    intro m
    induction m with
    | zero=>intro e a w _ hi;simp [iterK] at hi
    | succ m ihm=>
     intro e a w h hi
     simp only [iterK] at hi
     show c.wp P (Exit.then (Code.rounds P c Q m) Q) a w
     obtain ⟨e3,h7,h8⟩:=h.markIt hX hi
     refine ih hN h1 (fun hh=>hpd (by simp [hasDfr,hasDfr_markIt,hasDfr_trimIt,hh])) h7 h8 fun x e1 a' w' h' hk=>?_
     cases x with
     | normal=>exact ihm e1 a' w' h' hk
     | exit jj=>exact hQ (.exit jj) _ _ _ h' hk
     | ret=>exact hQ .ret _ _ _ h' hk
   exact wp_loop_rounds Nf (key Nf e2 a w h3 h4)
  ·cases hco
 | exit id=>
  intro N lent hN i j ac hco hpd e a w k h hr Q hQ
  simp only [compCode,Option.some.injEq,Prod.mk.injEq] at hco
  obtain ⟨rfl,_⟩:=hco
  exact wp_exit (hQ (.exit id) _ _ _ h hr)
 | ret=>
  intro N lent hN i j ac hco hpd e a w k h hr Q hQ
  simp only [compCode,Option.some.injEq,Prod.mk.injEq] at hco
  obtain ⟨rfl,_⟩:=hco
  exact wp_ret (hQ .ret _ _ _ h.ret hr)
 | _=>
  intro N lent hN i j ac hco hpd e a w k h hr Q hQ
  simp only [compCode,Option.some.injEq,Prod.mk.injEq] at hco
  obtain ⟨rfl,_⟩:=hco
  simp [execT] at hr
end
end
end Go.A2
namespace Go.A2
section
variable {P:Program} {Γ:Cx}
section
variable {K:List Nat} {N:Slots} {F0 B U:Nat→Prop} {w0:World} {F:Nat→Prop} {S:Nat→List Nat} {e:Env Γ.X} {a:Act} {w:World} {C:CK Γ.X}
def resRun (tmps:Array Value):ResultVar→Sem Value
 | .tmp t=>pure (tmps.getD t Go.undef)
 | .cell p t=>do loadVar t (←asAddr (tmps.getD p Go.undef))
theorem results_eq (fn:Func) (tmps:Array Value):Go.results fn tmps=(do
  let vs ←List.toArray <$> fn.results.toList.mapM (resRun tmps)
  pure (if h:vs.size=1 then vs[0] else .tuple vs)):=by
 have h1:Go.results fn tmps=(do
  let vs ←fn.results.mapM (resRun tmps)
  pure (if h:vs.size=1 then vs[0] else .tuple vs)):=by
  unfold Go.results
  congr 1
 rw [h1,Array.mapM_eq_mapM_toList]
theorem EnvRel.leave (h:EnvRel N F0 B U w0 F S e a w) {T:Γ.X.Ty} {v:Γ.X.den T} {o:Own} {cs:List Value} {R:List Nat} {u:Value} (hv:VRep w F T v o cs R) (hu:valOk T cs u) (hal:o.alive=true) (hn:R.Nodup) (ho:∀ b∈R,B b∧b < w.heap.size∧¬ F b)
  (hap:∀ b∈R,∀ s,b ∉ S s) (fz:Bool):∃ F1 R1,EnvRel N F0 B U w0 F1 S e a w∧(∀ b,F b→F1 b)∧(∀ b,F1 b→F b∨b∈R)∧URep w F1 (.val T v (if fz then .no else o.gen 0)) u R1∧R1.Nodup∧(∀ b∈R1,b∈R∧¬ F1 b):=by
 cases fz with
 | false=>exact ⟨F,R,h,fun _ h=>h,fun b hb=>.inl hb,.val T v _ u cs R (hv.gen 0) hu,hn,fun b hb=>⟨hb,(ho b hb).2.2⟩⟩
 | true=>
  refine ⟨fun b=>F b∨b∈R,[],h.world (fun _ h=>.inl h) (fun _ _=>rfl) (fun _ _ _=>rfl) (.refl _ _) fun b hb=>hb.imp_right fun hb=>⟨(ho b hb).1,(ho b hb).2.1,hap b hb⟩,fun _ h=>.inl h,fun _ h=>h,?_,List.nodup_nil,by simp⟩
  exact .val T v .no u cs [] (.pure (hv.freeze (fun _ h=>.inl h) (fun _ h=>.inr h) hal)) hu
theorem FRep.keep {w:World} {F F':Nat→Prop} (hF:∀ b,F b→F' b) {x:AV Γ.X} {u:Value} {S:List Nat} (h:FRep w F x u S):FRep w F' x u S:=by
 induction h with
 | u h=>exact .u (h.mono hF (fun _ _=>rfl) fun _ _=>rfl)
 | tup l us Ss hl _ ih=>exact .tup l us Ss hl ih
 | fn f as bs us vs hl hl' _ _ ih ih'=>exact .fn f as bs us vs hl hl' ih ih'
 | box g T v o b cells ty S hg h=>exact .box g T v o b cells ty S hg (h.mono hF (fun _ _=>rfl) fun _ _=>rfl)
 | fnb f g T v o b cells ty S hg h=>exact .fnb f g T v o b cells ty S hg (h.mono hF (fun _ _=>rfl) fun _ _=>rfl)
theorem EnvRel.resOne (hX:TabOk Γ.X) (h:EnvRel N F0 B U w0 F S e a w) {rv:ResultVar} {fz:Bool} {r:ARes Γ.X×Bool} (hr:compRes P Γ (rv,fz)=some r) {v:AV Γ.X} {e1:Env Γ.X} (ho:Go.A2.resOne e r=some (v,e1)):
  ∃ u F1 S1 T,(resRun a.tmps rv).run P w=.ok u w∧EnvRel N F0 B U w0 F1 S1 e1 a w∧Less F S F1 S1∧FRep w F1 v u T∧T.Nodup∧(∀ b∈T,B b∧b < w.heap.size∧¬ F1 b)∧(∀ b∈T,∀ s,b ∉ S1 s)∧(∀ b∈T,∃ s,b∈S s):=by
 have fin:∀ {S1:Nat→List Nat} {e2:Env Γ.X} {T:Γ.X.Ty} {y:Γ.X.den T} {o:Own} {cs:List Value} {R:List Nat} {u:Value},(resRun a.tmps rv).run P w=.ok u w→EnvRel N F0 B U w0 F S1 e2 a w→(∀ s b,b∈S1 s→b∈S s)→VRep w F T y o cs R→valOk T cs u→o.alive=true→R.Nodup→
   (∀ b∈R,∃ s,b∈S s)→(∀ b∈R,∀ s,b ∉ S1 s)→v=.val T y (if fz then .no else o.gen 0)→e1=e2→
   ∃ u F1 S1 T,(resRun a.tmps rv).run P w=.ok u w∧EnvRel N F0 B U w0 F1 S1 e1 a w∧Less F S F1 S1∧FRep w F1 v u T∧T.Nodup∧(∀ b∈T,B b∧b < w.heap.size∧¬ F1 b)∧(∀ b∈T,∀ s,b ∉ S1 s)∧(∀ b∈T,∃ s,b∈S s):=fun {S1 e2 T y o cs R u} hrun k1 ksub hv hu hal hn hin hap hve hee=>by
  subst hve hee
  obtain ⟨F1,R1,g1,g2,g3,g4,g5,g6⟩:=k1.leave hv hu hal hn (fun b hb=>by obtain ⟨s,hs⟩:=hin b hb;exact h.own s b hs) hap fz
  refine ⟨u,F1,S1,R1,hrun,g1,⟨g2,fun b hb=>(g3 b hb).imp_right fun hb=>hin b hb,ksub⟩,.u g4,g5,fun b hb=>?_,fun b hb=>hap b (g6 b hb).1,fun b hb=>hin b (g6 b hb).1⟩
  obtain ⟨s,hs⟩:=hin b (g6 b hb).1
  exact ⟨(h.own s b hs).1,(h.own s b hs).2.1,(g6 b hb).2⟩
 have dropSub:∀ s t b,b∈updS S s [] t→b∈S t:=fun s t b hb=>by
  by_cases ht:t=s
  ·subst ht;rw [updS_same] at hb;cases hb
  ·rwa [updS_ne S _ ht] at hb
 cases rv with
 | tmp t=>
  simp only [compRes,Option.some.injEq] at hr;subst hr
  simp only [Go.A2.resOne] at ho
  split at ho
  ·rename_i r q g hes
   split at ho
   ·rename_i b ty l us hc hu
    simp only [Option.some.injEq,Prod.mk.injEq] at ho
    obtain ⟨rfl,rfl⟩:=ho
    have hgr:Go.A2.grab e (.v t)=some ⟨b,ty,l,us,false⟩:=by simp only [Go.A2.grab,hes,hc,hu]
    obtain ⟨S1,m,R,k1,k2,k3,k4,k5,k6,k7⟩:=h.grab hX (K:=[t]) (T0:=none) (Y:=.tmp t) (x:=.v t) (by simp [compX,inK]) hgr
    have hn:R.Nodup:=by
     obtain ⟨_,_,_,_,_,_,alt⟩:=grabbed k2 (by rcases k3 with ⟨h,_⟩ | h;exact .inl h;exact .inr h)
     rcases alt with ⟨_,rfl,_⟩ | ⟨blk,_,_,_,rfl,_⟩<;>simp
    have hev:a.eval (.tmp t)=a.tmps.getD t Go.undef:=rfl
    rw [hev] at k2
    have hv:∃ g',VRep w F (.slice b ty) l (.yes g') [a.tmps.getD t Go.undef] R:=by
     rcases k3 with ⟨rfl,hz | hl⟩ | ⟨g',rfl⟩
     ·cases hz
     ·obtain ⟨ad,hcs⟩:=full_inv k2
      obtain ⟨_,hR⟩:=k2.toPure rfl
      subst hR
      rw [hcs,hl]
      exact ⟨0,.ownNil b ty l 0 ad hl⟩
     ·exact ⟨g',k2⟩
    obtain ⟨g',hv⟩:=hv
    exact fin rfl k1 k7 hv (by unfold valOk;rw [if_neg (by simp [aggB])]) rfl hn k6 k5 rfl rfl
   ·cases ho
  ·rename_i T y o hes
   split at ho
   ·rename_i hal
    simp only [Option.some.injEq,Prod.mk.injEq] at ho
    obtain ⟨rfl,rfl⟩:=ho
    obtain ⟨cs,k1,k2⟩:=h.valAt hes
    refine fin rfl (h.drop t) (dropSub t) k1 k2 hal (h.nodup t) (fun b hb=>⟨t,hb⟩) (fun b hb s hs=>?_) rfl rfl
    by_cases hst:s=t
    ·subst hst;rw [updS_same] at hs;cases hs
    ·rw [updS_ne S _ hst] at hs;exact h.apart t s b (Ne.symm hst) hb hs
   ·cases ho
  ·rename_i f as bs hes
   split at ho
   ·rename_i A Bs hA hB
    simp only [Option.some.injEq,Prod.mk.injEq] at ho
    obtain ⟨rfl,rfl⟩:=ho
    have hr:=h.rep t
    rw [hes] at hr
    obtain ⟨_,us,vs,hu,hl,hl',ha,hb⟩:=fn_inv hr
    obtain ⟨S1,k1,k2,k3⟩:=h.dropL ((A++Bs).flatMap (·.caps))
    obtain ⟨n1,_⟩:=allO_spec hA
    obtain ⟨n2,_⟩:=allO_spec hB
    have k4:EnvRel N F0 B U w0 (fun b=>F b∨∃ s∈(A++Bs).flatMap (·.caps),b∈S s) S1 (dropAll e ((A++Bs).flatMap (·.caps))) a w:=k1.world (fun _ h=>.inl h) (fun _ _=>rfl) (fun _ _ _=>rfl) (.refl _ _) fun b hb=>hb.imp_right fun ⟨s,hs,hbs⟩=>⟨(h.own s b hbs).1,(h.own s b hbs).2.1,fun t' ht'=>by
     by_cases hst:s=t'
     ·subst hst;rw [k3 s hs] at ht';cases ht'
     ·exact h.apart s t' b hst hbs (k2 t' b ht')⟩
    refine ⟨a.tmps.getD t Go.undef,_,S1,[],rfl,k4,⟨fun _ h=>.inl h,fun b hb=>hb.imp_right fun ⟨s,_,hbs⟩=>⟨s,hbs⟩,k2⟩,?_,List.nodup_nil,by simp,by simp,by simp⟩
    rw [hu]
    refine .fn f _ _ us vs (by simp [n1,hl]) (by simp [n2,hl']) (fun i x u hi hu=>?_) (fun i x u hi hu=>?_)
    ·rw [List.getElem?_map] at hi
     cases hfi:A[i]? with
     | none=>simp [hfi] at hi
     | some C=>
      simp [hfi] at hi;subst hi
      obtain ⟨y,hy,hcy⟩:=allO_get' hA hfi
      exact (h.capArg hX hcy (ha i y u hy hu) (fun _ h=>.inl h) fun s hs b hb=>.inr ⟨s,List.mem_flatMap.2 ⟨C,by simp [List.mem_of_getElem? hfi],hs⟩,hb⟩).1
    ·rw [List.getElem?_map] at hi
     cases hfi:Bs[i]? with
     | none=>simp [hfi] at hi
     | some C=>
      simp [hfi] at hi;subst hi
      obtain ⟨y,hy,hcy⟩:=allO_get' hB hfi
      exact (h.capArg hX hcy (hb i y u hy hu) (fun _ h=>.inl h) fun s hs b hb=>.inr ⟨s,List.mem_flatMap.2 ⟨C,by simp [List.mem_of_getElem? hfi],hs⟩,hb⟩).1
   ·cases ho
  ·cases ho
 | cell p t=>
  simp only [compRes] at hr
  obtain ⟨T,hT,rfl⟩:=Option.map_eq_some_iff.1 hr
  simp only [Go.A2.resOne] at ho
  split at ho
  ·rename_i g T' y o hes
   split at ho
   ·rename_i y' hy
    obtain ⟨rfl,hy⟩:=castT_some hy
    simp only at hy;subst hy
    split at ho
    ·rename_i hal
     simp only [Option.some.injEq,Prod.mk.injEq] at ho
     obtain ⟨rfl,rfl⟩:=ho
     obtain ⟨b,cells,ty,S',k1,k2,k3,k4⟩:=h.boxAt hes
     have hl:=k3.length hX
     obtain ⟨uu,hu1,hu2⟩:∃ uu,(loadVar t ⟨b,0,none⟩).run P w=.ok uu w∧valOk T' cells.toList uu:=by
      have:=run_loadVar' (P:=P) (w:=w) (t:=t) (T:=T') hT (b:=b) (o:=0) (cs:=cells.toList) hl (fun j v hj=>by rw [Nat.zero_add,cell_of k2];simpa using hj)
      exact this
     have hnd:=h.nodup p
     rw [k4] at hnd
     refine fin (u:=uu) ?_ (h.drop p) (dropSub p) k3 hu2 hal (List.nodup_cons.1 hnd).2 (fun b' hb=>⟨p,by rw [k4];simp [hb]⟩) (fun b' hb s hs=>?_) rfl rfl
     ·simp only [resRun,k1,asAddr]
      simpa using hu1
     ·by_cases hst:s=p
      ·subst hst;rw [updS_same] at hs;cases hs
      ·rw [updS_ne S _ hst] at hs;exact h.apart p s b' (Ne.symm hst) (by rw [k4];simp [hb]) hs
    ·cases ho
   ·cases ho
  ·cases ho
inductive FRepL (w:World) (F:Nat→Prop):List (AV Γ.X)→List Value→List (List Nat)→Prop where
 | nil:FRepL w F [] [] []
 | cons {x u R xs us Rs} (h:FRep w F x u R) (t:FRepL w F xs us Rs):FRepL w F (x :: xs) (u :: us) (R :: Rs)
theorem FRepL.get {xs:List (AV Γ.X)} {us:List Value} {Rs:List (List Nat)} (h:FRepL (Γ:=Γ) w F xs us Rs):xs.length=us.length∧Rs.length=xs.length∧∀ (i:Nat) x u,xs[i]?=some x→us[i]?=some u→FRep w F x u (Rs.getD i []):=by
 induction h with
 | nil=>simp
 | cons h _ ih=>
  obtain ⟨h1,h2,h3⟩:=ih
  refine ⟨by simp [h1],by simp [h2],fun i x u hx hu=>?_⟩
  cases i with
  | zero=>simp at hx hu;subst hx hu;exact h
  | succ i=>simpa using h3 i x u (by simpa using hx) (by simpa using hu)
theorem EnvRel.resAll (hX:TabOk Γ.X):∀ {prs:List (ResultVar×Bool)} {rs:List (ARes Γ.X×Bool)} {F:Nat→Prop} {S:Nat→List Nat} {e:Env Γ.X} (_:EnvRel N F0 B U w0 F S e a w) (_:allO (compRes P Γ) prs=some rs) {vs:List (AV Γ.X)} {e1:Env Γ.X} (_:Go.A2.resAll e rs=some (vs,e1)),
  ∃ us F1 S1 Rs,((prs.map (·.1)).mapM (resRun a.tmps)).run P w=.ok us w∧EnvRel N F0 B U w0 F1 S1 e1 a w∧Less F S F1 S1∧FRepL (Γ:=Γ) w F1 vs us Rs∧Rs.flatten.Nodup∧(∀ b∈Rs.flatten,B b∧b < w.heap.size∧¬ F1 b)∧(∀ b∈Rs.flatten,∀ s,b ∉ S1 s)∧(∀ b∈Rs.flatten,∃ s,b∈S s)
 | [],rs,F,S,e,h,hr,vs,e1,ho=>by
  simp [allO] at hr;subst hr
  simp [Go.A2.resAll] at ho
  obtain ⟨rfl,rfl⟩:=ho
  exact ⟨[],F,S,[],rfl,h,.refl _ _,.nil,by simp,by simp,by simp,by simp⟩
 | (rv,fz) :: prs,rs,F,S,e,h,hr,vs,e1,ho=>by
  simp only [allO] at hr
  split at hr
  ·rename_i r rs' hr1 hr2
   simp only [Option.some.injEq] at hr;subst hr
   simp only [Go.A2.resAll] at ho
   split at ho
   ·rename_i v e2 ho1
    split at ho
    ·rename_i vs' e3 ho2
     simp only [Option.some.injEq,Prod.mk.injEq] at ho
     obtain ⟨rfl,rfl⟩:=ho
     obtain ⟨u,F1,S1,R,g1,g2,g3,g4,g5,g6,g7,g8⟩:=h.resOne hX hr1 ho1
     obtain ⟨us,F2,S2,Rs,k1,k2,k3,k4,k5,k6,k7,k8⟩:=EnvRel.resAll hX g2 hr2 ho2
     have hRF:∀ b∈R,¬ F2 b:=fun b hb hf=>by
      rcases k3.from_ b hf with hf | ⟨s,hs⟩
      ·exact (g6 b hb).2.2 hf
      ·exact g7 b hb s hs
     refine ⟨u :: us,F2,S2,R :: Rs,?_,k2,g3.trans k3,.cons (g4.keep k3.keeps) k4,?_,?_,?_,?_⟩
     ·rw [List.map_cons,List.mapM_cons]
      simp only [Sem.run_bind,g1,Result.andThen_ok,k1]
      rfl
     ·rw [List.flatten_cons]
      refine List.nodup_append.2 ⟨g5,k5,fun x hx y hy he=>?_⟩
      subst he
      obtain ⟨s,hs⟩:=k8 x hy
      exact g7 x hx s hs
     ·intro b hb
      rw [List.flatten_cons] at hb
      rcases List.mem_append.1 hb with hb | hb
      ·exact ⟨(g6 b hb).1,(g6 b hb).2.1,hRF b hb⟩
      ·exact k6 b hb
     ·intro b hb s hs
      rw [List.flatten_cons] at hb
      rcases List.mem_append.1 hb with hb | hb
      ·exact g7 b hb s (k3.owned s b hs)
      ·exact k7 b hb s hs
     ·intro b hb
      rw [List.flatten_cons] at hb
      rcases List.mem_append.1 hb with hb | hb
      ·exact g8 b hb
      ·obtain ⟨s,hs⟩:=k8 b hb
       exact ⟨s,g3.owned s b hs⟩
    ·cases ho
   ·cases ho
  ·cases hr
theorem ARep_ref {w:World} {F:Nat→Prop} {vals:List Value} {x:AV Γ.X} {u:Value} {R:List Nat} (hx:ARep w F vals x u R) {Q:Nat→Prop} (hQ:Q 0):RefG Q x:=by
 cases hx with
 | f h=>exact FRep_ref h
 | rfn f as bs us vs blk hb hc hl hl' h h'=>
  have one:∀ {x:AV Γ.X} {u:Value},CapRep vals x u→RefG Q x:=fun h=>by
   rcases h with rfl | ⟨k,b,rfl,_,_⟩
   ·trivial
   ·exact hQ
  refine ⟨RefGL_mk fun y hy=>?_,RefGL_mk fun y hy=>?_⟩
  ·obtain ⟨i,hi,rfl⟩:=List.mem_iff_getElem.1 hy
   exact one (h i _ (us[i]'(by omega)) (List.getElem?_eq_getElem hi) (List.getElem?_eq_getElem (by omega)))
  ·obtain ⟨i,hi,rfl⟩:=List.mem_iff_getElem.1 hy
   exact one (h' i _ (vs[i]'(by omega)) (List.getElem?_eq_getElem hi) (List.getElem?_eq_getElem (by omega)))
theorem entry_get (args:List (AV Γ.X)) (s:Nat):entry args s=match args[s]? with | some x=>genV 0 x | none=>.undef:=by
 have gen:∀ (l:List (AV Γ.X)) (k s:Nat),mkE ((l.zipIdx k).map fun (v,i)=>(i,genV 0 v)) s=if k≤s then (match l[s - k]? with | some x=>genV 0 x | none=>.undef) else .undef:=fun l=>by
  induction l with
  | nil=>intro k s;simp [mkE]
  | cons x l ih=>
   intro k s
   simp only [List.zipIdx_cons,List.map_cons,mkE,ih]
   by_cases hs:s=k
   ·subst hs;simp
   ·rw [if_neg hs]
    by_cases hk:k≤s
    ·rw [if_pos hk,if_pos (by omega)]
     rw [show s - k=(s - (k+1))+1 by omega,List.getElem?_cons_succ]
    ·rw [if_neg hk,if_neg (by omega)]
 have:=gen args 0 s
 simpa [entry] using this
def Compiled (P:Program) (Γ:Cx) (f:Nat) (af:AFn Γ.X):Prop:=∃ (x:FnX) (fn:Func) (c:Code) (j:Nat),P.funcs[f]?=some fn∧fn.body=some c∧(fn.name == "runtime.NumGoroutine")=false ∧
 (∃ body,compCode P Γ x.mk' x.keep fn.ntmps x.lent 1 c=some (body,j)∧af.body=trimIt Γ x.mk' 0 body)∧allO (compRes P Γ) (fn.results.toList.zip x.res)=some af.res∧af.res.length=fn.results.size∧af.np≤fn.ntmps∧af.keep=x.keep∧af.lent=x.lent∧(isDf Γ.X f=true→hasDfr Γ af.body=false)
theorem pend_leaves {fn:Func} {tmps:Array Value} {R:Ending→World→Prop} {post:World→Prop}:∀ {ds:List Deferred} {w:World},Pend P ds post w→(∀ w',post w'→∃ v,(Go.results fn tmps).run P w'=.ok v w'∧R (.returned v) w')→Leaves P fn tmps R ds .returning w
 | [],w,h,hp=>hp w h
 | d :: ds,w,⟨fv,cap,f,args,h1,h2,h3⟩,hp=>⟨by simp,fv,cap,f,args,h1,h2,h3.mono fun en u w' ⟨k1,⟨v,k2⟩,k3⟩=>by
   subst k1 k2
   exact pend_leaves k3 hp⟩
theorem fn_wp (hX:TabOk Γ.X) {f:Nat} {fn:Func} {c:Code} {af:AFn Γ.X} {xlent:List Nat} {xres:List Bool} (hf:P.funcs[f]?=some fn) (hb:fn.body=some c) (hname:(fn.name == "runtime.NumGoroutine")=false)
  (hres:allO (compRes P Γ) (fn.results.toList.zip xres)=some af.res) (hrl:af.res.length=fn.results.size) (hnp:af.np≤fn.ntmps) (hlentq:af.lent=xlent) (hdf:isDf Γ.X f=true→hasDfr Γ af.body=false) {args:List (AV Γ.X)} {r:Ret Γ.X} (hal:args.length=af.np)
  (hrun:∀ {N:Slots} {F0 B:Nat→Prop} {a:Act} {w:World} {Q:Exit→Act→World→Prop},N.fits fn.ntmps xlent→(hasDfr Γ af.body=true→N.pd=true)→Sim N F0 B (· < 1) w (entry args) a w→
   (∀ xx e a' w',SimX P N F0 B w xx e a' w'→endK af some xx e=some r→Q (exOf xx) a' w')→c.wp P Q a w):Spec P f args r:=by
 have main:∀ (pd:Bool),(hasDfr Γ af.body=true→pd=true)→∀ (w:World) (F0:Nat→Prop) (vals:List Value) (Ss:Nat→List Nat),(∀ b,F0 b→b < w.heap.size)→GlobIn Γ.X F0 w→args.length=vals.length→
   (∀ (i:Nat) x v,args[i]?=some x→vals[i]?=some v→ARep w F0 vals x v (Ss i))→(∀ i,(Ss i).Nodup)→(∀ i j b,i ≠ j→b∈Ss i→b ∉ Ss j)→(∀ i b,b∈Ss i→b < w.heap.size∧¬ F0 b)→
   ∀ {Q:Exit→Act→World→Prop},(∀ xx a' w' ds,(∀ id,xx ≠ AExit.exit id)→(ds ≠ []→pd=true)→a'.defers=ds→Pend P ds (fun w''=>∃ v,(Go.results fn a'.tmps).run P w''=.ok v w''∧SpecPost F0 w vals Ss r (.returned v) w'') w'→Q (exOf xx) a' w')→
   c.wp P Q { tmps:=vals.toArray++Array.replicate (fn.ntmps - vals.toArray.size) Go.undef,defers:=[] } w:=?_
 ·refine ⟨⟨fn,hf,by simp [hb],hname⟩,fun w F0 vals Ss hF0 hgl hlen hargs hSn hSS hS0=>?_,fun hd w F0 vals Ss hF0 hgl hlen hargs hSn hSS hS0=>?_⟩
  ·refine calls_of_wp_defers hf hb (main true (fun _=>rfl) w F0 vals Ss hF0 hgl hlen hargs hSn hSS hS0 fun xx a' w' ds hxx _ hds hp=>?_)
   have:=pend_leaves (fn:=fn) (tmps:=a'.tmps) (R:=SpecPost F0 w vals Ss r) hp fun w'' h=>h
   rw [←hds] at this
   cases xx with
   | normal=>exact this
   | ret=>exact this
   | exit id=>exact absurd rfl (hxx id)
  ·refine callsD_of_wp hf hb (main false (fun hh=>by rw [hdf hd] at hh;cases hh) w F0 vals Ss hF0 hgl hlen hargs hSn hSS hS0 fun xx a' w' ds hxx hnil hds hp=>?_)
   have hd0:ds=[]:=by
    cases ds with
    | nil=>rfl
    | cons d ds=>cases hnil (by simp)
   subst hd0
   cases xx with
   | normal=>exact ⟨hds,hp⟩
   | ret=>exact ⟨hds,hp⟩
   | exit id=>exact absurd rfl (hxx id)
 intro pd hpd w F0 vals Ss hF0 hgl hlen hargs hSn hSS hS0 Q hQ
 have hsz:vals.toArray.size≤fn.ntmps:=by simp [←hlen,hal];exact hnp
 let V:List (Nat×Value):=(vals.zipIdx.filter fun q=>inK xlent q.2).map fun q=>(q.2,q.1)
 let N:Slots:=⟨fn.ntmps,V,[],pd⟩
 have hV:∀ i u,(i,u)∈V ↔ (vals[i]?=some u∧inK xlent i=true):=fun i u=>by
  show (i,u)∈((vals.zipIdx.filter fun q=>inK xlent q.2).map fun q=>(q.2,q.1)) ↔ _
  simp only [List.mem_map,List.mem_filter,Prod.mk.injEq,Prod.exists]
  constructor
  ·rintro ⟨a,b,⟨h1,h2⟩,rfl,rfl⟩
   exact ⟨List.mem_zipIdx_iff_getElem?.1 h1,h2⟩
  ·rintro ⟨h1,h2⟩
   exact ⟨u,i,⟨List.mem_zipIdx_iff_getElem?.2 h1,h2⟩,rfl,rfl⟩
 have hN:N.fits fn.ntmps xlent:=⟨rfl,fun q hq=>((hV q.1 q.2).1 hq).2⟩
 have htm:∀ s u,vals[s]?=some u→(vals.toArray++Array.replicate (fn.ntmps - vals.toArray.size) Go.undef).getD s Go.undef=u:=fun s u hs=>by
  have hlt:=(List.getElem?_eq_some_iff.1 hs).1
  have he:=(List.getElem?_eq_some_iff.1 hs).2
  simp [Array.getD_eq_getD_getElem?,Array.getElem?_append,hlt,he]
 let S0:Nat→List Nat:=fun s=>if s < vals.length then Ss s else []
 have hS0':∀ s b,b∈S0 s→b∈Ss s:=fun s b hb=>by
  have hb:b∈(if s < vals.length then Ss s else []):=hb
  split at hb
  ·exact hb
  ·cases hb
 have h0:EnvRel N F0 (fun b=>w.heap.size≤b∨∃ i,b∈Ss i) (· < 1) w F0 S0 (entry args) { tmps:=vals.toArray++Array.replicate (fn.ntmps - vals.toArray.size) Go.undef,defers:=[] } w:=by
  have at_:∀ s,SRep (entry args) { tmps:=vals.toArray++Array.replicate (fn.ntmps - vals.toArray.size) Go.undef,defers:=[] } w F0 (entry args s) ((vals.toArray++Array.replicate (fn.ntmps - vals.toArray.size) Go.undef).getD s Go.undef) (S0 s)∧OwnsG (· < 1) (entry args s)∧RefG (· < 1) (entry args s):=fun s=>by
   show SRep _ _ _ _ _ _ (if s < vals.length then Ss s else [])∧_
   by_cases hs:s < vals.length
   ·rw [if_pos hs]
    obtain ⟨u,hu⟩:∃ u,vals[s]?=some u:=⟨_,List.getElem?_eq_getElem hs⟩
    obtain ⟨y,hy⟩:∃ y,args[s]?=some y:=⟨_,List.getElem?_eq_getElem (by omega)⟩
    rw [htm s u hu]
    have hen:entry args s=genV 0 y:=by rw [entry_get,hy]
    rw [hen]
    exact ⟨((hargs s y u hy hu).toS _ _ htm).gen 0,(OwnsG_gen 0 y).imp fun g (hg:g=0)=>show g < 1 by omega,RefG_gen 0 (ARep_ref (hargs s y u hy hu) (by omega))⟩
   ·rw [if_neg hs]
    have hen:entry args s=.undef:=by rw [entry_get,List.getElem?_eq_none (by omega)]
    rw [hen]
    exact ⟨.u (.undef _),trivial,trivial⟩
  refine ⟨?_,?_,rfl,fun s=>(at_ s).1,fun s=>(at_ s).2.1,fun s=>(at_ s).2.2,?_,?_,?_,hF0,fun b hb=>.inl hb,fun _ h=>h,.refl _ _,fun b hb=>.inl hb,hgl,fun b hb hf hB=>?_⟩
  ·show (vals.toArray++Array.replicate (fn.ntmps - vals.toArray.size) Go.undef).size=fn.ntmps
   simp at hsz ⊢;omega
  ·intro s u hsu
   exact htm s u ((hV s u).1 hsu).1
  ·intro s
   show (if s < vals.length then Ss s else []).Nodup
   split
   ·exact hSn s
   ·exact List.nodup_nil
  ·exact fun s t b hst h1 h2=>hSS s t b hst (hS0' s b h1) (hS0' t b h2)
  ·exact fun s b hb=>⟨.inr ⟨s,hS0' s b hb⟩,(hS0 s b (hS0' s b hb)).1,(hS0 s b (hS0' s b hb)).2⟩
  ·rcases hB with hB | ⟨i,hB⟩
   ·exact absurd (hF0 b hf) (by omega)
   ·exact (hS0 i b hB).2 hf
 have post:∀ e (a':Act) w',Sim N F0 (fun b=>w.heap.size≤b∨∃ i,b∈Ss i) (· < 1) w e a' w'→optK (results e af) some=some r→∃ v,(Go.results fn a'.tmps).run P w'=.ok v w'∧SpecPost F0 w vals Ss r (.returned v) w':=fun e a' w' hsim hk=>by
  obtain ⟨r',hr',hrr⟩:=optK_some hk
  simp only [Option.some.injEq] at hrr;subst hrr
  obtain ⟨F,S,h⟩:=hsim
  unfold Go.A2.results at hr'
  split at hr'
  ·rename_i vs e1 hall
   simp only [Option.some.injEq] at hr';subst hr'
   obtain ⟨us,F1,S1,Rs,k1,k2,k3,k4,k5,k6,k7,k8⟩:=h.resAll hX hres hall
   have hfst:(fn.results.toList.zip xres).map (·.1)=fn.results.toList:=by
    have hz:=(allO_spec hres).1
    rw [hrl] at hz
    refine List.map_fst_zip ?_
    rw [List.length_zip] at hz
    simp at hz ⊢;omega
   rw [hfst] at k1
   have hrun:(Go.results fn a'.tmps).run P w'=.ok (if hh:us.toArray.size=1 then us.toArray[0] else .tuple us.toArray) w':=by
    rw [results_eq]
    simp only [Sem.run_bind]
    simp only [Sem.run_map,k1,Result.andThen_ok]
    rfl
   have hSo:∀ i b,b∈(if inK xlent i=true∧i < af.np then (match e1 i with | .box _ _ _ _=>S1 i | .val (.slice _ _) _ _=>S1 i | .fnb _ _ _ _ _=>S1 i | _=>[]) else [])→b∈S1 i:=fun i b hb=>by
    split at hb
    ·split at hb
     ·exact hb
     ·exact hb
     ·exact hb
     ·cases hb
    ·cases hb
   refine ⟨_,hrun,_,F1,Rs.flatten,fun i=>if inK xlent i=true∧i < af.np then (match e1 i with | .box _ _ _ _=>S1 i | .val (.slice _ _) _ _=>S1 i | .fnb _ _ _ _ _=>S1 i | _=>[]) else [],rfl,k2.below,?_,?_,k5,?_,?_,?_,?_,k2.keeps,fun b hb=>⟨k2.old b hb,k2.free b hb⟩⟩
   ·obtain ⟨l1,l2,l3⟩:=k4.get
    show FRep w' F1 (one vs) _ _
    have tup:FRep w' F1 (.tup vs) (.tuple us.toArray) Rs.flatten:=by
     have:=FRep.tup (w:=w') (F:=F1) vs us (fun i=>Rs.getD i []) l1 fun i x u hx hu=>l3 i x u hx hu
     rw [←l2,cat_flatten] at this
     exact this
    cases k4 with
    | nil=>exact tup
    | @cons x0 u0 R0 xs us' Rs' hx0 t=>
     cases t with
     | nil=>
      have hsz1:([u0]:List Value).toArray.size=1:=rfl
      rw [dif_pos hsz1]
      show FRep w' F1 x0 u0 _
      simpa using hx0
     | @cons x1 u1 R1 xs1 us1 Rs1 hx1 t1=>
      have hne:¬ ((u0 :: u1 :: us1).toArray.size=1):=by simp
      rw [dif_neg hne]
      exact tup
   ·intro i y v hy hv
    show FRep w' F1 y v (if inK xlent i=true∧i < af.np then (match e1 i with | .box _ _ _ _=>S1 i | .val (.slice _ _) _ _=>S1 i | .fnb _ _ _ _ _=>S1 i | _=>[]) else [])
    have hy:(outsOf e1 af.np af.lent)[i]?=some y:=hy
    unfold outsOf at hy
    rw [List.getElem?_map] at hy
    cases hri:(List.range af.np)[i]? with
    | none=>simp [hri] at hy
    | some i'=>
     have hlt:i < af.np:=by simpa using (List.getElem?_eq_some_iff.1 hri).1
     have hi':i'=i:=by have:=(List.getElem?_eq_some_iff.1 hri).2;simpa using this.symm
     subst hi'
     simp only [hri,Option.map_some,Option.some.injEq] at hy
     rw [hlentq] at hy
     by_cases hl:inK xlent i'=true
     ·rw [if_pos (show (xlent.any fun z=>z==i')=true from hl)] at hy
      rw [if_pos ⟨hl,hlt⟩]
      cases hes:e1 i' with
      | box g T z o=>
       rw [hes] at hy
       simp only at hy;subst hy
       obtain ⟨b,cells,ty,S',q1,q2,q3,q4⟩:=k2.boxAt hes
       have hvt:=k2.lent i' v ((hV i' v).2 ⟨hv,hl⟩)
       rw [q1] at hvt;subst hvt
       simp only
       rw [q4]
       exact .box 0 T z _ b cells ty S' q2 (q3.gen 0)
      | fnb f g T z o=>
       rw [hes] at hy
       simp only at hy;subst hy
       obtain ⟨b,cells,ty,S',q1,q2,q3,q4⟩:=k2.fnbAt hes
       have hvt:=k2.lent i' v ((hV i' v).2 ⟨hv,hl⟩)
       rw [q1] at hvt;subst hvt
       simp only
       rw [q4]
       exact .fnb f 0 T z _ b cells ty S' q2 (q3.gen 0)
      | val T z o=>
       rw [hes] at hy
       cases T with
       | slice bb tt=>
        simp only at hy;subst hy
        obtain ⟨cs,q1,q2⟩:=k2.valAt hes
        have hvt:=k2.lent i' v ((hV i' v).2 ⟨hv,hl⟩)
        rw [hvt] at q2
        exact .u (.val _ z _ _ cs _ (q1.gen 0) q2)
       | _=>simp only at hy;subst hy;exact .u (.undef _)
      | _=>rw [hes] at hy;simp only at hy;subst hy;exact .u (.undef _)
     ·rw [if_neg (show ¬ (xlent.any fun z=>z==i')=true from hl)] at hy
      subst hy
      rw [if_neg fun hh=>hl hh.1]
      exact .u (.undef _)
   ·intro i
    show (if inK xlent i=true∧i < af.np then (match e1 i with | .box _ _ _ _=>S1 i | .val (.slice _ _) _ _=>S1 i | .fnb _ _ _ _ _=>S1 i | _=>[]) else []).Nodup
    split
    ·split
     ·exact k2.nodup i
     ·exact k2.nodup i
     ·exact k2.nodup i
     ·exact List.nodup_nil
    ·exact List.nodup_nil
   ·intro i j b hij hbi hbj
    exact k2.apart i j b hij (hSo i b hbi) (hSo j b hbj)
   ·intro i b hb hbR
    exact k7 b hbR i (hSo i b hb)
   ·intro b hb
    rcases hb with hb | ⟨i,hb⟩
    ·exact k6 b hb
    ·exact k2.own i b (hSo i b hb)
  ·cases hr'
 refine hrun hN hpd ⟨F0,S0,h0⟩ fun xx e a' w' hsim hk=>?_
 cases xx with
 | normal=>
  have hsim:Sim N F0 (fun b=>w.heap.size≤b∨∃ i,b∈Ss i) (· < 1) w e a' w':=hsim
  have hd:a'.defers=[]:=by obtain ⟨F,S,h⟩:=hsim;exact h.defers
  exact hQ .normal a' w' [] (by simp) (by simp) hd (post e a' w' hsim hk)
 | ret=>
  obtain ⟨ds,h1,h2,h3⟩:=hsim
  refine hQ .ret a' w' ds (by simp) h1 (by rw [h2];simp [N]) (h3.mono fun w'' h=>?_)
  exact post e { a' with defers:=N.D } w'' h hk
 | exit id=>cases hk
theorem fn_sound (hm:P.follows .mixedOrders=true) (hX:TabOk Γ.X) (hC:CSound P C) (hD:DrawSound P Γ C) {f Nf:Nat} {af:AFn Γ.X} (hcomp:Compiled P Γ f af) {args:List (AV Γ.X)} {r:Ret Γ.X} (hr:runFnT C Nf af args some=some r):Spec P f args r:=by
 obtain ⟨x,fn,c,j,hf,hb,hname,⟨body,hcode,hbody⟩,hres,hrl,hnp,hkeep,hlentq,hdf⟩:=hcomp
 unfold runFnT at hr
 split at hr
 ·rename_i hal
  refine fn_wp hX hf hb hname hres hrl hnp hlentq hdf hal fun hN hpd h hQ=>?_
  rw [hkeep,hbody] at hr
  obtain ⟨k2,hr2,hk2⟩:=trimIt_run hX hr
  exact Sim.exec hm hX hC hD Nf c hN hcode (fun hh=>hpd (by rw [hbody,hasDfr_trimIt];exact hh)) h hr2 (hk2 hQ)
 ·cases hr
end
end
end Go.A2
