/- YtnpgljilkkipkaaGreatA2D: parts of the machine and its laws, in one text. No statement of the seat is proved here. -/
import Derived.Test.YtnpgljilkkipkaaGreatA2N
set_option linter.unusedSimpArgs false
set_option linter.unusedVariables false
namespace Go.A2
section
variable {X:Tab} {e e':Env X}
def bd (A:List Nat) (e e':Env X):Prop:=∀ s∈A,e' s=e s
theorem bd.sub {A B:List Nat} (h:bd A e e') (hs:∀ s∈B,s∈A):bd B e e':=fun s hb=>h s (hs s hb)
theorem bd.upd {A:List Nat} (h:bd A e e') (s:Nat) (v:AV X):bd A (upd e s v) (upd e' s v):=fun t ht=>by
 unfold Go.A2.upd;split
 ·rfl
 ·exact h t ht
theorem bd.applyU {A:List Nat}:∀ (u:Ups X) {e e':Env X},bd A e e'→bd A (applyU e u) (applyU e' u)
 | [],_,_,h=>h
 | (s,v) :: u,_,_,h=>bd.applyU u (h.upd s v)
theorem eM {x:AX X} {A:List Nat} (h:bd A e e') (hx:∀ s∈bG x,s∈A):Go.A2.rd e' x=Go.A2.rd e x:=by
 cases x with
 | c y=>rfl
 | t s=>simp only [Go.A2.rd];rw [h s (hx s (by simp [bG]))]
 | v s=>simp only [Go.A2.rd];rw [h s (hx s (by simp [bG]))]
theorem ee {A:List Nat} (h:bd A e e') {s:Nat} (hs:s∈A) (q:List PS) (g:Nat):aJ e' s q g=aJ e s q g:=nT (h s hs) q g
theorem Iv {A:List Nat} (h:bd A e e') {s:Nat} (hs:s∈A) (q:List PS) (o:Own):eN e' s q o=eN e s q o:=by
 unfold eN;rw [h s hs]
theorem Rm {A:List Nat} (h:bd A e e') {s:Nat} (hs:s∈A) (q:List PS) (g:Nat):ew e' s q g=ew e s q g:=by
 unfold ew;rw [ee h hs,Iv h hs]
def ct (A:List Nat) (e:Env X) (x:AX X):Prop:=∀ s∈cD e x,s∈A
theorem ct.slot {A:List Nat} {x:AX X} (h:ct A e x):∀ s∈bG x,s∈A:=fun s hs=>h s (List.mem_append_left _ hs)
theorem ct.root {A:List Nat} {x:AX X} (h:ct A e x):∀ s∈aL (Go.A2.rd e x),s∈A:=fun s hs=>h s (List.mem_append_right _ hs)
theorem zq {s r:Nat} {q:List PS} {g:Nat} (h:e s=.ref r q g):Go.A2.rd e (.v s)=.ref r q g∧Go.A2.rd e (.t s)=.ref r q g:=by
 simp only [Go.A2.rd,h,and_self]
theorem zM {A:List Nat} (h:bd A e e') {x:AX X} (hx:ct A e x):Go.A2.take e' x=Go.A2.take e x:=by
 cases x with
 | c y=>cases y<;>rfl
 | t s=>
  simp only [Go.A2.take]
  rw [h s (hx.slot s (by simp [bG]))]
  cases hes:e s with
  | ref r q g=>simp only [];exact Rm h (hx.root r (by rw [(zq hes).2];simp [aL,a8,aP])) q g
  | _=>rfl
 | v s=>
  simp only [Go.A2.take]
  rw [h s (hx.slot s (by simp [bG]))]
  cases hes:e s with
  | ref r q g=>simp only [];exact Rm h (hx.root r (by rw [(zq hes).1];simp [aL,a8,aP])) q g
  | _=>rfl
theorem O2 {A:List Nat} (h:bd A e e') {bs:Base} {q:List PS} {n:Nat} {t:X.Ty} (hv:∀ s∈aL (.ptr bs q:AV X),s∈A):fD e' bs q n t=fD e bs q n t:=by
 cases bs with
 | box s g=>simp only [fD];rw [h s (hv s (by simp [aL,a8,aP]))]
 | elem s p g i=>simp only [fD];rw [ee h (hv s (by simp [aL,a8,aP]))]
theorem Ov {bs:Base} {q:List PS} {b n:Nat} {t:X.Ty} {off hi:Nat}:aL (.aview bs q b n t off hi:AV X)=aL (.ptr bs q:AV X):=by cases bs<;>rfl
theorem qo {A:List Nat} (h:bd A e e') {v:AV X} (hv:∀ s∈aL v,s∈A):dH e' v=dH e v:=by
 cases v with
 | ref s q g=>exact ee h (hv s (by simp [aL,a8,aP])) q g
 | view s q g off hi=>simp only [dH];rw [ee h (hv s (by simp [aL,a8,aP])) q g]
 | aview bs q b n t off hi=>simp only [dH];rw [O2 h (by rw [←Ov (bs:=bs) (q:=q) (b:=b) (n:=n) (t:=t) (off:=off) (hi:=hi)];exact hv)]
 | val T v o=>cases T<;>first | rfl | (cases o<;>rfl)
 | _=>rfl
theorem yY {A:List Nat} (h:bd A e e') {b:Base} {q:List PS} (hv:∀ s∈aL (.ptr b q:AV X),s∈A):bZ e' b q=bZ e b q:=by
 cases b with
 | box s g=>simp only [bZ];rw [h s (hv s (by simp [aL,a8,aP]))]
 | elem s p g i=>simp only [bZ];rw [ee h (hv s (by simp [aL,a8,aP]))]
theorem aag {A:List Nat} (h:bd A e e') {T:X.Ty} {v:AV X} {d:Option Nat} (hv:∀ s∈aL v,s∈A):ei e' T v d=ei e T v d:=by
 cases v with
 | ptr b q=>
  cases b with
  | box s g=>simp only [ei];rw [h s (hv s (by simp [aL,a8,aP]))]
  | elem s p g i=>simp only [ei];rw [ee h (hv s (by simp [aL,a8,aP]))]
 | _=>rfl
theorem Rk {A:List Nat} (h:bd A e e') {g0:Nat} {T:X.Ty} {x:AV X} {v:X.den T} {o:Own} (hv:∀ s∈aL x,s∈A):storeV e' g0 T x v o=storeV e g0 T x v o:=by
 cases x with
 | ptr b q=>
  cases b with
  | box s g=>simp only [storeV];rw [h s (hv s (by simp [aL,a8,aP]))]
  | elem s p g i=>simp only [storeV];rw [ee h (hv s (by simp [aL,a8,aP])),h s (hv s (by simp [aL,a8,aP]))]
 | _=>rfl
theorem Yo {A:List Nat} (h:bd A e e') {x:AX X} (hx:ct A e x):Go.A2.grab e' x=Go.A2.grab e x:=by
 have key:∀ s,ct A e (.v s)→Go.A2.grab e' (.v s)=Go.A2.grab e (.v s):=fun s hx=>by
  simp only [Go.A2.grab]
  rw [h s (hx.slot s (by simp [bG]))]
  cases hes:e s with
  | ref r q g=>
   have hr:r∈A:=hx.root r (by rw [(zq hes).1];simp [aL,a8,aP])
   simp only []
   rw [ee h hr,Iv h hr]
  | val T v o=>cases T<;>first | rfl | (cases o<;>rfl)
  | _=>rfl
 cases x with
 | c y=>cases y<;>first | rfl | (rename_i T v o;cases T<;>first | rfl | (cases o<;>rfl))
 | t s=>exact key s hx
 | v s=>exact key s hx
theorem ia {α β:Type} {f g:α→Option β}:∀ {l:List α},(∀ x∈l,f x=g x)→aW f l=aW g l
 | [],_=>rfl
 | x :: l,h=>by
  simp only [aW]
  rw [h x (by simp),ia fun y hy=>h y (by simp [hy])]
theorem P9 {l:List (AV X)} {x:AV X} (hx:x∈l):∀ s∈aP x,s∈gw l:=by
 induction l with
 | nil=>cases hx
 | cons y l ih=>
  intro s hs
  simp only [gw]
  rcases List.mem_cons.1 hx with rfl | hx
  ·exact List.mem_append_left _ hs
  ·exact List.mem_append_right _ (ih hx s hs)
theorem gu {l:List (AV X)} {x:AV X} (hx:x∈l):∀ s∈a8 x,s∈eu l:=by
 induction l with
 | nil=>cases hx
 | cons y l ih=>
  intro s hs
  simp only [eu]
  rcases List.mem_cons.1 hx with rfl | hx
  ·exact List.mem_append_left _ hs
  ·exact List.mem_append_right _ (ih hx s hs)
theorem iX {A:List Nat} (h:bd A e e') {v:AV X} (hv:∀ s∈a8 v,s∈A):capArg e' v=capArg e v:=by
 cases v with
 | ptr b q=>
  cases b with
  | box s g=>simp only [capArg];rw [h s (hv s (by simp [a8,aP]))]
  | elem s p g i=>rfl
 | _=>rfl
theorem G4 {f:Nat} {as bs:List (AV X)} {a:Arg X} (h:lendB e f as bs=some a):∃ s g T v o,as=[]∧bs=[.ptr (.box s g) []]∧a=⟨.fnb f 0 T v o,some s,[],[]⟩:=by
 unfold lendB at h
 split at h
 ·rename_i s g
  split at h
  ·split at h
   ·cases h;exact ⟨s,g,_,_,_,rfl,rfl,rfl⟩
   ·cases h
  ·cases h
 ·cases h
theorem aac {A:List Nat} (h:bd A e e') {f:Nat} {as bs:List (AV X)} (hv:∀ s∈eu bs,s∈A):lendB e' f as bs=lendB e f as bs:=by
 unfold lendB
 split
 ·rename_i s g
  rw [h s (hv s (by simp [eu,a8,aP]))]
 ·rfl
theorem yc {A:List Nat} (h:bd A e e') {v:AV X} (hv:∀ s∈aL v,s∈A):argV e' v=argV e v:=by
 cases v with
 | ref s q g=>simp only [argV];rw [ee h (hv s (by simp [aL,a8,aP]))]
 | ptr b q=>
  cases b with
  | box s g=>
   cases q with
   | nil=>simp only [argV];rw [h s (hv s (by simp [aL,a8,aP]))]
   | cons=>rfl
  | elem s p g i=>rfl
 | fn f as bs=>
  simp only [argV]
  have hr:∀ s,s∈eu as++eu bs→s∈A:=fun s hs=>hv s hs
  rw [ia (f:=capArg e') (g:=capArg e) (l:=as) fun x hx=>iX h fun s hs=>hr s (List.mem_append_left _ (gu hx s hs)),
   ia (f:=capArg e') (g:=capArg e) (l:=bs) fun x hx=>iX h fun s hs=>hr s (List.mem_append_right _ (gu hx s hs)),aac h fun s hs=>hr s (List.mem_append_right _ hs)]
 | aview bs q b n t off hi=>
  cases bs with
  | box s g=>
   simp only [argV]
   rw [h s (hv s (by simp [aL,a8,aP])),qo h hv]
  | elem=>rfl
 | fref s g=>simp only [argV];rw [h s (hv s (by simp [aL,a8,aP]))]
 | _=>rfl
theorem SG {A:List Nat} (h:bd A e e') {f:Nat} {v:AV X} (hv:∀ s∈a8 v,s∈A):eb e' f v=eb e f v:=by
 unfold eb
 split
 ·cases v with
  | ptr b q=>
   cases b with
   | box s g=>
    cases q with
    | nil=>exact yc (v:=.ptr (.box s g) []) h hv
    | cons=>exact iX h hv
   | elem s p g i=>exact iX h hv
  | rfn f a b=>rfl
  | _=>exact iX h hv
 ·exact iX h hv
def dE:AV X→List Nat
 | .rfn _ a b=>gw a++gw b
 | _=>[]
theorem Pg {A:List Nat} (h:bd A e e') {bk:List (Option Nat)} {v:AV X} (hv:∀ s∈aP v,s∈A):je e' bk v=je e bk v:=by
 cases v with
 | ptr b q=>
  cases b with
  | box s g=>
   cases q with
   | nil=>simp only [je];rw [h s (hv s (by simp [aP]))]
   | cons=>rfl
  | elem s p g i=>rfl
 | _=>rfl
theorem GJ {A:List Nat} (h:bd A e e') {as:List (Arg X)} (ha:∀ a∈as,∀ s∈dE a.a,s∈A):eG e' as=eG e as:=by
 unfold eG
 refine List.map_congr_left fun a hm=>?_
 have:=ha a hm
 unfold k9
 congr 1
 generalize a.a=x at this
 cases x with
 | rfn f as bs=>
  simp only [ga]
  have hr:∀ s,s∈gw as++gw bs→s∈A:=fun s hs=>this s hs
  rw [List.map_congr_left fun x hx=>Pg h fun s hs=>hr s (List.mem_append_left _ (P9 hx s hs)),List.map_congr_left (l:=bs) fun x hx=>Pg h fun s hs=>hr s (List.mem_append_right _ (P9 hx s hs))]
 | _=>rfl
theorem Gp {f:Nat} {v:AV X} {a:Arg X} (h:capArg e v=some a):dE a.a=[]:=by
 cases v with
 | ptr b q=>
  cases b with
  | box s g=>
   simp only [capArg] at h
   split at h
   ·split at h
    ·split at h
     ·cases h;rfl
     ·cases h
    ·cases h
   ·cases h
  | elem s p g i=>simp [capArg] at h
 | val T v o=>
  simp only [capArg] at h
  split at h
  ·cases h;rfl
  ·cases h
 | rptr T v=>simp only [capArg,Option.some.injEq] at h;subst h;rfl
 | _=>simp [capArg] at h
theorem yd {v:AV X} {a:Arg X} (h:argV e v=some a):∀ s∈dE a.a,s∈aL v:=by
 cases v with
 | ref s q g=>
  simp only [argV] at h
  split at h
  ·cases h;simp [dE]
  ·cases h
 | ptr b q=>
  cases b with
  | box s g=>
   cases q with
   | nil=>
    simp only [argV] at h
    split at h
    ·split at h
     ·cases h;simp [dE]
     ·cases h
    ·cases h
   | cons=>simp [argV] at h
  | elem s p g i=>simp [argV] at h
 | val T v o=>
  simp only [argV] at h
  split at h
  ·cases h;simp [dE]
  ·cases h
 | rptr T v=>simp only [argV,Option.some.injEq] at h;subst h;simp [dE]
 | rfn f as bs=>simp only [argV,Option.some.injEq] at h;subst h;exact fun s hs=>hs
 | fn f as bs=>
  simp only [argV] at h
  split at h
  ·obtain ⟨s,g,T,v,o,_,_,rfl⟩:=G4 h;simp [dE]
  ·split at h
   ·cases h;simp [dE]
   ·cases h
 | aview bs q b n t off hi=>
  cases bs with
  | box s g=>
   simp only [argV] at h
   split at h
   ·split at h
    ·cases h;simp [dE]
    ·cases h
   ·cases h
  | elem=>simp [argV] at h
 | fref s g=>
  simp only [argV] at h
  split at h
  ·split at h
   ·cases h;simp [dE]
   ·cases h
  ·cases h
 | _=>simp [argV] at h
theorem SH {f:Nat} {v:AV X} {a:Arg X} (h:eb e f v=some a):∀ s∈dE a.a,s∈a8 v:=by
 unfold eb at h
 split at h
 ·unfold yk at h
  split at h
  ·exact yd h
  ·exact yd h
  ·rw [Gp (f:=f) h];simp
 ·rw [Gp (f:=f) h];simp
theorem G6 (e:Env X) (v:AV X):(∃ s g,v=.ref s [] g∧lendV e v=lendR e s g)∨(∃ T x,lendV e v=some ⟨.val T x .full,none,[],[]⟩)∨lendV e v=argV e v:=by
 cases v with
 | ref s q g=>
  cases q with
  | nil=>exact .inl ⟨s,g,rfl,rfl⟩
  | cons=>exact .inr (.inr rfl)
 | val T x o=>
  cases o with
  | full=>exact .inr (.inl ⟨T,x,rfl⟩)
  | _=>exact .inr (.inr rfl)
 | _=>exact .inr (.inr rfl)
theorem aad {A:List Nat} (h:bd A e e') {v:AV X} (hv:∀ s∈aL v,s∈A):lendV e' v=lendV e v:=by
 cases v with
 | ref s q g=>
  cases q with
  | nil=>
   show lendR e' s g=lendR e s g
   unfold lendR
   rw [h s (hv s (by simp [aL,a8,aP]))]
  | cons=>exact yc (v:=.ref s _ g) h hv
 | val T x o=>cases o<;>rfl
 | _=>exact yc h hv
theorem G5 {s g:Nat} {a:Arg X} (h:lendR e s g=some a):dE a.a=[]∧a.back=some s∧a.roots=[]∧a.caps=[]:=by
 unfold lendR at h
 split at h
 ·split at h
  ·cases h;exact ⟨rfl,rfl,rfl,rfl⟩
  ·cases h
 ·cases h
theorem R4 {A:List Nat} (h:bd A e e') {f:Nat} {x:AX X} (hx:ct A e x):argF e' f x=argF e f x:=by
 unfold argF
 rw [eM h hx.slot]
 split
 ·exact aad h hx.root
 ·exact yc h hx.root
theorem Gb {f:Nat} {x:AX X} {a:Arg X} (h:argF e f x=some a):∀ s∈dE a.a,s∈aL (Go.A2.rd e x):=by
 unfold argF at h
 split at h
 ·rcases G6 e (Go.A2.rd e x) with ⟨s,g,h1,h2⟩ | ⟨T,y,h1⟩ | h1
  ·rw [h2] at h
   rw [(G5 h).1];simp
  ·rw [h1] at h;cases h;simp [dE]
  ·rw [h1] at h;exact yd h
 ·exact yd h
def vL (e e1:Env X):Prop:=∀ s,e1 s=e s∨e1 s=.undef∨∃ m,e1 s=dj (e s) m∧(bq (e s)).isSome=true
theorem IE {s:Nat} {v:AV X} (h:v=.undef∨∃ m,v=dj (e s) m∧(bq (e s)).isSome=true):vL e (applyU e [(s,v)]):=fun t=>by
 show Go.A2.upd e s v t=e t∨_
 by_cases ht:t=s
 ·subst ht
  rcases h with rfl | ⟨m,rfl,hm⟩
  ·exact .inr (.inl (bz e t _))
  ·exact .inr (.inr ⟨m,bz e t _,hm⟩)
 ·exact .inl (bm e v ht)
theorem Ro {x:AX X} {T:X.Ty} {v:X.den T} {o:Own} {u:Ups X} (h:Go.A2.take e x=some ⟨T,v,o,u⟩):vL e (applyU e u):=by
 have ref:∀ {r q g},ew e r q g=some ⟨T,v,o,u⟩→vL e (applyU e u):=fun {r q g} h=>by
  unfold ew at h
  split at h
  ·rename_i hc hm
   cases h
   obtain ⟨T,v,o0,m,k1,k2,rfl⟩:=lF hm
   exact IE (.inr ⟨m,rfl,by rw [k1];rfl⟩)
  ·cases h
 cases x with
 | c y=>
  cases y with
  | val T' v' o'=>
   simp only [Go.A2.take] at h
   split at h
   ·cases h;exact fun s=>.inl rfl
   ·cases h
  | _=>simp [Go.A2.take] at h
 | t s=>
  simp only [Go.A2.take] at h
  split at h
  ·rename_i T' v' o' hes
   split at h
   ·cases h;exact fun s=>.inl rfl
   ·cases h;exact IE (.inl rfl)
  ·exact ref h
  ·cases h
 | v s=>
  simp only [Go.A2.take] at h
  split at h
  ·rename_i T' v' o' hes
   split at h
   ·cases h;exact fun s=>.inl rfl
   ·split at h
    ·cases h;exact IE (.inr ⟨.no,by rw [hes];rfl,by rw [hes];rfl⟩)
    ·cases h
  ·exact ref h
  ·cases h
theorem ct.soft {A:List Nat} {e1:Env X} (hs:vL e e1) {x:AX X} (h:ct A e x):ct A e1 x:=fun t ht=>by
 rcases List.mem_append.1 ht with ht | ht
 ·exact h.slot t ht
 ·have key:∀ s,ct A e (.v s)→t∈aL (Go.A2.rd e1 (.v s))→t∈A:=fun s h ht=>by
   rcases hs s with h1 | h1 | ⟨m,h1,h2⟩
   ·refine h.root t ?_
    simp only [Go.A2.rd] at ht ⊢
    rw [h1] at ht;exact ht
   ·simp only [Go.A2.rd,h1] at ht;simp [aL,a8,aP] at ht
   ·have hts:t=s:=by
     cases hes:e s with
     | val T v o=>
      rw [hes] at h1
      simp only [dj] at h1
      simp only [Go.A2.rd,h1] at ht
      cases T with
      | slice b t'=>cases m<;>simp [aL,a8,aP] at ht<;>exact ht
      | map k t'=>cases m<;>simp [aL,a8,aP] at ht<;>exact ht
      | _=>simp [aL,a8,aP] at ht
     | box g T v o=>
      rw [hes] at h1
      simp only [dj] at h1
      simp only [Go.A2.rd,h1] at ht
      simpa [aL,a8,aP] using ht
     | _=>rw [hes] at h2;cases h2
    subst hts
    exact h.slot t (by simp [bG])
  cases x with
  | c y=>exact h.root t ht
  | t s=>exact key s h ht
  | v s=>exact key s h ht
theorem zK {A:List Nat}:∀ {l:List (Nat×AX X)} {e e':Env X},bd A e e'→(∀ q∈l,ct A e q.2)→Go.A2.takeAll e' l=Go.A2.takeAll e l
 | [],_,_,_,_=>rfl
 | (j,x) :: l,e,e',h,hl=>by
  simp only [Go.A2.takeAll]
  rw [zM h (hl (j,x) (by simp))]
  cases ht:Go.A2.take e x with
  | none=>rfl
  | some y=>
   obtain ⟨T,v,o,u⟩:=y
   simp only []
   rw [zK (h.applyU u) fun q hq=>(hl q (by simp [hq])).soft (Ro ht)]
theorem Po {A:List Nat}:∀ {l:List (Nat×List PS)} {e e':Env X},bd A e e'→(∀ q∈l,q.1∈A)→Go.A2.freezeAll e' l=Go.A2.freezeAll e l
 | [],_,_,_,_=>rfl
 | (s,q) :: l,e,e',h,hl=>by
  simp only [Go.A2.freezeAll]
  rw [Iv h (hl (s,q) (by simp))]
  cases eN e s q .no with
  | none=>rfl
  | some u=>simp only [];rw [Po (h.applyU u) fun q hq=>hl q (by simp [hq])]
theorem Py {A:List Nat} (h:bd A e e') {g:Nat}:∀ {as:List (Arg X)} {os:List (AV X)},(∀ a∈as,∀ s,a.back=some s→s∈A)→cX e' g as os=cX e g as os
 | [],[],_=>rfl
 | [],_ :: _,_=>rfl
 | _ :: _,[],_=>rfl
 | a :: as,o :: os,ha=>by
  simp only [cX]
  rw [Py h fun a' ha'=>ha a' (by simp [ha'])]
  cases hb:a.back with
  | none=>rfl
  | some s=>
   have hs:=h s (ha a (by simp) s hb)
   simp only [hs]
theorem F8 {A:List Nat} (h:bd A e e') {f:Nat} {l:List (AX X)} (hl:∀ x∈l,ct A e x):aW (argF e' f) l=aW (argF e f) l:=ia fun x hx=>R4 h (hl x hx)
theorem OA {A:List Nat} (h:bd A e e') {op:AOp X} (hop:∀ x∈op.xs,ct A e x):aX e' op=aX e op:=by
 cases op with
 | call f args=>
  simp only [aX]
  rw [F8 (l:=args) h hop]
  cases has:aW (argF e f) args with
  | none=>rfl
  | some as=>
   simp only []
   rw [GJ h fun a ha s hs=>by
    obtain ⟨i,hi,rfl⟩:=List.mem_iff_getElem.1 ha
    obtain ⟨x,hx,hax⟩:=bE has (List.getElem?_eq_getElem hi)
    exact (hop x (List.mem_of_getElem? hx)).root s (Gb hax s hs)]
 | callv x args=>
  have hx:=hop x (by simp [AOp.xs])
  simp only [aX]
  rw [eM h hx.slot]
  cases hr:Go.A2.rd e x with
  | fn f first caps=>
   simp only []
   have hroot:∀ s,s∈eu first++eu caps→s∈A:=fun s hs=>hx.root s (by rw [hr];exact hs)
   rw [F8 h fun y hy=>hop y (by simp [AOp.xs,hy]),ia (f:=capArg e') (g:=capArg e) (l:=first) fun y hy=>iX h fun s hs=>hroot s (List.mem_append_left _ (gu hy s hs)),
    ia (f:=eb e' f) (g:=eb e f) (l:=caps) fun y hy=>SG h fun s hs=>hroot s (List.mem_append_right _ (gu hy s hs))]
   cases h1:aW (argF e f) args with
   | none=>rfl
   | some as=>
    cases h2:aW (capArg e) first with
    | none=>rfl
    | some fs=>
     cases h3:aW (eb e f) caps with
     | none=>rfl
     | some cs=>
      simp only []
      rw [GJ h fun a ha s hs=>by
       rcases List.mem_append.1 ha with ha | ha
       ·rcases List.mem_append.1 ha with ha | ha
        ·obtain ⟨i,hi,rfl⟩:=List.mem_iff_getElem.1 ha
         obtain ⟨x,hx,hax⟩:=bE h2 (List.getElem?_eq_getElem hi)
         rw [Gp (f:=f) hax] at hs;cases hs
        ·obtain ⟨i,hi,rfl⟩:=List.mem_iff_getElem.1 ha
         obtain ⟨x,hx,hax⟩:=bE h1 (List.getElem?_eq_getElem hi)
         exact (hop x (by simp [AOp.xs,List.mem_of_getElem? hx])).root s (Gb hax s hs)
       ·obtain ⟨i,hi,rfl⟩:=List.mem_iff_getElem.1 ha
        obtain ⟨x,hx,hax⟩:=bE h3 (List.getElem?_eq_getElem hi)
        exact hroot s (List.mem_append_right _ (gu (List.mem_of_getElem? hx) s (SH hax s hs)))]
  | fref s g=>
   simp only []
   rw [h s (hx.root s (by rw [hr];simp [aL,a8,aP]))]
   split
   ·rename_i f g' T v o hes
    rw [F8 (l:=args) h fun y hy=>hop y (by simp [AOp.xs,hy])]
    split
    ·cases h1:aW (argF e f) args with
     | none=>rfl
     | some as=>
      simp only []
      rw [GJ h fun a ha s hs=>by
       rcases List.mem_append.1 ha with ha | ha
       ·obtain ⟨i,hi,rfl⟩:=List.mem_iff_getElem.1 ha
        obtain ⟨x,hx,hax⟩:=bE h1 (List.getElem?_eq_getElem hi)
        exact (hop x (by simp [AOp.xs,List.mem_of_getElem? hx])).root s (Gb hax s hs)
       ·simp at ha;subst ha;cases hs]
    ·rfl
   ·rfl
  | _=>rfl
 | _=>rfl
theorem On {v:AV X} {a:Arg X} (h:argV e v=some a):(∀ s,a.back=some s→s∈aL v)∧∀ r∈a.roots,r.1∈aL v:=by
 cases v with
 | ref s q g=>
  simp only [argV] at h
  split at h
  ·cases h;exact ⟨by simp,by simp [aL,a8,aP]⟩
  ·cases h
 | ptr b q=>
  cases b with
  | box s g=>
   cases q with
   | nil=>
    simp only [argV] at h
    split at h
    ·split at h
     ·cases h;exact ⟨by simp [aL,a8,aP],by simp⟩
     ·cases h
    ·cases h
   | cons=>simp [argV] at h
  | elem s p g i=>simp [argV] at h
 | val T v o=>
  simp only [argV] at h
  split at h
  ·cases h;exact ⟨by simp,by simp⟩
  ·cases h
 | rptr T v=>simp only [argV,Option.some.injEq] at h;subst h;exact ⟨by simp,by simp⟩
 | rfn f as bs=>simp only [argV,Option.some.injEq] at h;subst h;exact ⟨by simp,by simp⟩
 | fn f as bs=>
  simp only [argV] at h
  split at h
  ·obtain ⟨s,g,T,v,o,rfl,rfl,rfl⟩:=G4 h
   exact ⟨by simp [aL,eu,a8,aP],by simp⟩
  ·split at h
   ·cases h;exact ⟨by simp,by simp⟩
   ·cases h
 | aview bs q b n t off hi=>
  cases bs with
  | box s g=>
   simp only [argV] at h
   split at h
   ·split at h
    ·cases h;exact ⟨by simp,by simp⟩
    ·cases h
   ·cases h
  | elem=>simp [argV] at h
 | fref s g=>
  simp only [argV] at h
  split at h
  ·split at h
   ·cases h;exact ⟨by simp [aL,a8,aP],by simp⟩
   ·cases h
  ·cases h
 | _=>simp [argV] at h
theorem yb {f:Nat} {x:AX X} {a:Arg X} (h:argF e f x=some a):(∀ s,a.back=some s→s∈aL (Go.A2.rd e x))∧∀ r∈a.roots,r.1∈aL (Go.A2.rd e x):=by
 unfold argF at h
 split at h
 ·rcases G6 e (Go.A2.rd e x) with ⟨s,g,h1,h2⟩ | ⟨T,y,h1⟩ | h1
  ·rw [h2] at h
   obtain ⟨_,k1,k2,_⟩:=G5 h
   rw [k1,k2,h1]
   exact ⟨fun s' hs=>by cases hs;simp [aL,a8,aP],by simp⟩
  ·rw [h1] at h;cases h;simp
  ·rw [h1] at h;exact On h
 ·exact On h
theorem OD {v:AV X} {a:Arg X} (h:capArg e v=some a):∀ s∈a.caps,s∈a8 v:=by
 cases v with
 | ptr b q=>
  cases b with
  | box s g=>
   simp only [capArg] at h
   split at h
   ·split at h
    ·split at h
     ·cases h;simp [a8,aP]
     ·cases h
    ·cases h
   ·cases h
  | elem s p g i=>simp [capArg] at h
 | val T v o=>
  simp only [capArg] at h
  split at h
  ·cases h;simp
  ·cases h
 | rptr T v=>simp only [capArg,Option.some.injEq] at h;subst h;simp
 | _=>simp [capArg] at h
theorem Om {v:AV X} {a:Arg X} (h:argV e v=some a):∀ s∈a.caps,s∈aL v:=by
 cases v with
 | ref s q g=>
  simp only [argV] at h
  split at h
  ·cases h;simp
  ·cases h
 | ptr b q=>
  cases b with
  | box s g=>
   cases q with
   | nil=>
    simp only [argV] at h
    split at h
    ·split at h
     ·cases h;simp
     ·cases h
    ·cases h
   | cons=>simp [argV] at h
  | elem s p g i=>simp [argV] at h
 | val T v o=>
  simp only [argV] at h
  split at h
  ·cases h;simp
  ·cases h
 | rptr T v=>simp only [argV,Option.some.injEq] at h;subst h;simp
 | rfn f as bs=>simp only [argV,Option.some.injEq] at h;subst h;simp
 | fn f as bs=>
  simp only [argV] at h
  split at h
  ·obtain ⟨s,g,T,v,o,rfl,rfl,rfl⟩:=G4 h;simp
  ·split at h
   ·rename_i fs cs h1 h2
    cases h
    intro s hs
    obtain ⟨C,hC,hsC⟩:=List.mem_flatMap.1 hs
    rcases List.mem_append.1 hC with hC | hC
    ·obtain ⟨i,hi,rfl⟩:=List.mem_iff_getElem.1 hC
     obtain ⟨y,hy,hcy⟩:=bE h1 (List.getElem?_eq_getElem hi)
     exact List.mem_append_left _ (gu (List.mem_of_getElem? hy) s (OD hcy s hsC))
    ·obtain ⟨i,hi,rfl⟩:=List.mem_iff_getElem.1 hC
     obtain ⟨y,hy,hcy⟩:=bE h2 (List.getElem?_eq_getElem hi)
     exact List.mem_append_right _ (gu (List.mem_of_getElem? hy) s (OD hcy s hsC))
   ·cases h
 | aview bs q b n t off hi=>
  cases bs with
  | box s g=>
   simp only [argV] at h
   split at h
   ·split at h
    ·cases h;simp [aL,a8,aP]
    ·cases h
   ·cases h
  | elem=>simp [argV] at h
 | fref s g=>
  simp only [argV] at h
  split at h
  ·split at h
   ·cases h;simp
   ·cases h
  ·cases h
 | _=>simp [argV] at h
theorem R5 {f:Nat} {x:AX X} {a:Arg X} (h:argF e f x=some a):∀ s∈a.caps,s∈aL (Go.A2.rd e x):=by
 unfold argF at h
 split at h
 ·rcases G6 e (Go.A2.rd e x) with ⟨s,g,h1,h2⟩ | ⟨T,y,h1⟩ | h1
  ·rw [h2] at h
   rw [(G5 h).2.2.2];simp
  ·rw [h1] at h;cases h;simp
  ·rw [h1] at h;exact Om h
 ·exact Om h
theorem yi {v:AV X} {a:Arg X} (h:capArg e v=some a):a.back=none∧a.roots=[]:=by
 cases v with
 | ptr b q=>
  cases b with
  | box s g=>
   simp only [capArg] at h
   split at h
   ·split at h
    ·split at h
     ·cases h;exact ⟨rfl,rfl⟩
     ·cases h
    ·cases h
   ·cases h
  | elem s p g i=>simp [capArg] at h
 | val T v o=>
  simp only [capArg] at h
  split at h
  ·cases h;exact ⟨rfl,rfl⟩
  ·cases h
 | rptr T v=>simp only [capArg,Option.some.injEq] at h;subst h;exact ⟨rfl,rfl⟩
 | _=>simp [capArg] at h
theorem OC {f:Nat} {v:AV X} {a:Arg X} (h:eb e f v=some a):(∀ s,a.back=some s→s∈a8 v∧yC X f=true)∧a.roots=[]:=by
 unfold eb at h
 split at h
 ·rename_i hlf
  unfold yk at h
  split at h
  ·simp only [argV,Option.some.injEq] at h;subst h;exact ⟨by simp,rfl⟩
  ·simp only [argV] at h
   split at h
   ·split at h
    ·cases h;exact ⟨fun s hs=>by cases hs;exact ⟨by simp [a8,aP],hlf⟩,rfl⟩
    ·cases h
   ·cases h
  ·obtain ⟨h1,h2⟩:=yi h
   rw [h1];exact ⟨by simp,h2⟩
 ·obtain ⟨h1,h2⟩:=yi h
  rw [h1];exact ⟨by simp,h2⟩
theorem jd {as:List (Arg X)} {a:Arg X} (h:a∈eG e as):∃ a0∈as,a.back=a0.back∧a.roots=a0.roots∧a.caps=a0.caps:=by
 unfold eG at h
 obtain ⟨a0,h1,rfl⟩:=List.mem_map.1 h
 exact ⟨a0,h1,rfl,rfl,rfl⟩
theorem RR {A:List Nat} (h:bd A e e') {cp:Bool} {g:Nat} {as:List (Arg X)} (ha:∀ a∈as,(∀ s,a.back=some s→s∈A)∧∀ r∈a.roots,r.1∈A) {d:Option Nat} {r:Ret X}:ea cp e' g as d r=ea cp e g as d r:=by
 unfold ea
 simp only []
 rw [Py h fun a hm=>(ha a hm).1,Po (l:=as.flatMap (·.roots)) h fun q hq=>by
  obtain ⟨a,hm,hq⟩:=List.mem_flatMap.1 hq
  exact (ha a hm).2 q hq]
theorem jH {A:List Nat} (h:bd A e e') {x:Option (AX X)} (hx:∀ y,x=some y→ct A e y):cL e' x=cL e x:=by
 cases x with
 | none=>rfl
 | some y=>simp only [cL];rw [eM h (hx y rfl).slot]
theorem SD {A:List Nat} {op:AOp X} (hop:∀ x∈op.xs,ct A e x) {f:Nat} {as:List (Arg X)} (h:aX e op=some (f,as)):∀ a∈as,(∀ s,a.back=some s→s∈A)∧∀ r∈a.roots,r.1∈A:=by
 have args:∀ {f:Nat} {l:List (AX X)} {as:List (Arg X)},(∀ x∈l,ct A e x)→aW (argF e f) l=some as→∀ a∈as,(∀ s,a.back=some s→s∈A)∧∀ r∈a.roots,r.1∈A:=fun {f l as} hl h a ha=>by
  obtain ⟨i,hi,rfl⟩:=List.mem_iff_getElem.1 ha
  obtain ⟨x,hx,hax⟩:=bE h (List.getElem?_eq_getElem hi)
  have hs:=hl x (List.mem_of_getElem? hx)
  obtain ⟨h1,h2⟩:=yb hax
  exact ⟨fun s h=>hs.root s (h1 s h),fun r h=>hs.root r.1 (h2 r h)⟩
 have caps:∀ {l:List (AV X)} {as:List (Arg X)},aW (capArg e) l=some as→∀ a∈as,(∀ s,a.back=some s→s∈A)∧∀ r∈a.roots,r.1∈A:=fun {l as} h a ha=>by
  obtain ⟨i,hi,rfl⟩:=List.mem_iff_getElem.1 ha
  obtain ⟨x,hx,hax⟩:=bE h (List.getElem?_eq_getElem hi)
  obtain ⟨h1,h2⟩:=yi hax
  rw [h1,h2];simp
 cases op with
 | call f' l=>
  simp only [aX] at h
  split at h
  ·rename_i as' h1
   simp only [Option.some.injEq,Prod.mk.injEq] at h
   obtain ⟨_,rfl⟩:=h
   intro a ha
   obtain ⟨a0,q1,q2,q3,_⟩:=jd ha
   rw [q2,q3]
   exact args hop h1 a0 q1
  ·cases h
 | callv x l=>
  simp only [aX] at h
  split at h
  ·rename_i f' first cps hrd
   split at h
   ·rename_i as' fs cs h1 h2 h3
    simp only [Option.some.injEq,Prod.mk.injEq] at h
    obtain ⟨_,rfl⟩:=h
    intro a ha
    obtain ⟨a0,ha,q2,q3,_⟩:=jd ha
    rw [q2,q3]
    rcases List.mem_append.1 ha with ha | ha
    ·rcases List.mem_append.1 ha with ha | ha
     ·exact caps h2 a0 ha
     ·exact args (fun y hy=>hop y (by simp [AOp.xs,hy])) h1 a0 ha
    ·obtain ⟨i,hi,rfl⟩:=List.mem_iff_getElem.1 ha
     obtain ⟨y,hy,hay⟩:=bE h3 (List.getElem?_eq_getElem hi)
     obtain ⟨k1,k2⟩:=OC hay
     rw [k2]
     exact ⟨fun s hs=>(hop x (by simp [AOp.xs])).root s (by rw [hrd];exact List.mem_append_right _ (gu (List.mem_of_getElem? hy) s (k1 s hs).1)),by simp⟩
   ·cases h
  ·rename_i s g hrd
   split at h
   ·split at h
    ·split at h
     ·rename_i as' h1
      simp only [Option.some.injEq,Prod.mk.injEq] at h
      obtain ⟨_,rfl⟩:=h
      intro a ha
      obtain ⟨a0,ha,q2,q3,_⟩:=jd ha
      rw [q2,q3]
      rcases List.mem_append.1 ha with ha | ha
      ·exact args (fun y hy=>hop y (by simp [AOp.xs,hy])) h1 a0 ha
      ·simp at ha;subst ha
       exact ⟨fun s' hs=>by cases hs;exact (hop x (by simp [AOp.xs])).root s (by rw [hrd];simp [aL,a8,aP]),by simp⟩
     ·cases h
    ·cases h
   ·cases h
  ·cases h
 | _=>simp [aX] at h
theorem G9 {A:List Nat} (h:bd A e e') {k t:X.Ty} {y:AV X} (hr:∀ s∈aL y,s∈A):Go.A2.mapAt e' k t y=Go.A2.mapAt e k t y:=by
 cases y with
 | mref s g=>simp only [Go.A2.mapAt];rw [h s (hr s (by simp [aL,a8,aP]))]
 | _=>rfl
theorem P4 {A:List Nat} (h:bd A e e') {k t:X.Ty} {y:AV X} (hr:∀ s∈aL y,s∈A):gr e' k t y=gr e k t y:=by
 cases y with
 | mref s g=>simp only [gr];rw [G9 h hr]
 | _=>rfl
theorem Wz {A:List Nat} (h:bd A e e') {ans:Ret X} {g:Nat} {d:Option Nat} {op:AOp X} (hop:∀ x∈op.xs,ct A e x):eff ans g e' d op=eff ans g e d op:=by
 have rdx:∀ x∈op.xs,Go.A2.rd e' x=Go.A2.rd e x:=fun x hx=>eM h (hop x hx).slot
 have call:∀ cp op,(∀ x∈op.xs,ct A e x)→(match aX e' op with | some (_,as)=>ea cp e' g as d ans | none=>none)=(match aX e op with | some (_,as)=>ea cp e g as d ans | none=>none):=fun cp op hop=>by
  rw [OA h hop]
  cases hc:aX e op with
  | none=>rfl
  | some q=>obtain ⟨f,as⟩:=q;exact RR h (SD hop hc)
 cases op with
 | move x=>
  have hx:=hop x (by simp [AOp.xs])
  have hr:=rdx x (by simp [AOp.xs])
  cases x with
  | c y=>rfl
  | t s=>
   simp only [eff];rw [h s (hx.slot s (by simp [bG])),hr]
   cases hes:e s with
   | ref r q g'=>
    have hm:r∈A:=hx.root r (by rw [(zq hes).2];simp [aL,a8,aP])
    have:ql e' d r q g'=ql e d r q g':=by unfold ql;rw [h r hm]
    simp only [this]
   | _=>rfl
  | v s=>simp only [eff];rw [h s (hx.slot s (by simp [bG])),hr]
 | pick c a b=>simp only [eff];rw [rdx c (by simp [AOp.xs]),rdx a (by simp [AOp.xs]),rdx b (by simp [AOp.xs])]
 | alloc T=>rfl
 | box T x=>simp only [eff];rw [zM h (hop x (by simp [AOp.xs]))]
 | load T x=>simp only [eff];rw [rdx x (by simp [AOp.xs])];exact aag h (hop x (by simp [AOp.xs])).root
 | store T x v=>
  simp only [eff]
  rw [zM h (hop v (by simp [AOp.xs]))]
  cases ht:Go.A2.take e v with
  | none=>rfl
  | some y=>
   obtain ⟨T',v',o,u⟩:=y
   simp only []
   have hx:=(hop x (by simp [AOp.xs])).soft (Ro ht)
   rw [eM (h.applyU u) hx.slot]
   cases aR v' T with
   | none=>rfl
   | some v2=>simp only [];rw [Rk (h.applyU u) hx.root]
 | fld i j x=>
  simp only [eff];rw [rdx x (by simp [AOp.xs])]
  cases hr:Go.A2.rd e x with
  | ptr b q=>simp only [];rw [yY h (by rw [←hr];exact (hop x (by simp [AOp.xs])).root)]
  | _=>rfl
 | nilCheck x=>
  simp only [eff];rw [rdx x (by simp [AOp.xs])]
  cases hr:Go.A2.rd e x with
  | ptr b q=>simp only [];rw [yY h (by rw [←hr];exact (hop x (by simp [AOp.xs])).root)]
  | _=>rfl
 | extract x i=>
  have hx:=hop x (by simp [AOp.xs])
  cases x with
  | t s=>simp only [eff];rw [h s (hx.slot s (by simp [bG]))]
  | _=>rfl
 | call f args=>simp only [eff];exact call _ _ hop
 | callv x args=>simp only [eff];exact call _ _ hop
 | len b x=>cases b<;>simp only [eff]<;>rw [rdx x (by simp [AOp.xs])];rw [qo h (hop x (by simp [AOp.xs])).root]
 | bad=>rfl
 | isNil n x=>rfl
 | idxA n t x i=>
  simp only [eff];rw [rdx x (by simp [AOp.xs]),rdx i (by simp [AOp.xs])]
  have hroot:=(hop x (by simp [AOp.xs])).root
  generalize Go.A2.rd e x=y at hroot
  generalize Go.A2.rd e i=z
  cases y with
  | ptr b q=>
   cases z with
   | val T v o=>
    cases T with
    | int k=>exact congrArg (fun z=>if z=some (.arr n t) then (aI n (v:W k)).bind fun j=>some (aU d (.ptr b (q++[.idx j]))) else none) (yY h hroot)
    | _=>rfl
   | _=>rfl
  | rptr T v=>cases z with
   | val T v o=>cases T<;>rfl
   | _=>rfl
  | _=>rfl
 | idxS b t x i=>
  simp only [eff];rw [rdx x (by simp [AOp.xs]),rdx i (by simp [AOp.xs])]
  have hroot:=(hop x (by simp [AOp.xs])).root
  generalize Go.A2.rd e x=y at hroot
  generalize Go.A2.rd e i=z
  cases y with
  | ref s q g'=>
   cases z with
   | val T v o=>
    cases T with
    | int k=>
     have hc:aJ e' s q g'=aJ e s q g':=ee h (hroot s (by simp [aL,a8,aP])) q g'
     show (match aJ e' s q g' with | some ⟨b',t',l⟩=>if b=b'∧t=t' then (aI l.l.length (v:W k)).bind fun j=>some (aU d (.ptr (.elem s q g' j) [])) else none | none=>none)=(match aJ e s q g' with | some ⟨b',t',l⟩=>if b=b'∧t=t' then (aI l.l.length (v:W k)).bind fun j=>some (aU d (.ptr (.elem s q g' j) [])) else none | none=>none)
     rw [hc]
    | _=>rfl
   | _=>rfl
  | val T v o=>cases z with
   | val T v o=>cases T<;>rfl
   | _=>rfl
  | _=>rfl
 | view b t x lo hi=>
  simp only [eff]
  rw [rdx x (by simp [AOp.xs]),jH (x:=lo) h fun y hy=>hop y (by subst hy;simp [AOp.xs]),jH (x:=hi) h fun y hy=>hop y (by subst hy;simp [AOp.xs])]
  have hroot:=(hop x (by simp [AOp.xs])).root
  generalize Go.A2.rd e x=y at hroot
  generalize cL e lo=lo
  generalize cL e hi=hi
  cases lo<;>cases hi<;>try rfl
  cases y with
  | ref s q g'=>
   have hc:aJ e' s q g'=aJ e s q g':=ee h (hroot s (by simp [aL,a8,aP])) q g'
   simp only []
   rw [hc]
  | _=>rfl
 | copy b t x y=>
  simp only [eff];rw [rdx x (by simp [AOp.xs]),rdx y (by simp [AOp.xs]),qo h (hop y (by simp [AOp.xs])).root]
  have hroot:=(hop x (by simp [AOp.xs])).root
  generalize Go.A2.rd e x=z at hroot
  cases z with
  | view s q g' off hi=>
   have hm:s∈A:=hroot s (by simp [aL,a8,aP])
   have hc:aJ e' s q g'=aJ e s q g':=ee h hm q g'
   cases hi with
   | none=>simp only [lK];rw [hc,h s hm]
   | some _=>rfl
  | ref s q g'=>
   have hm:s∈A:=hroot s (by simp [aL,a8,aP])
   have hc:aJ e' s q g'=aJ e s q g':=ee h hm q g'
   simp only [lK];rw [hc,h s hm]
  | aview bs q b' n t' off hi=>
   rw [Ov] at hroot
   have key:∀ (V:X.den (.arr n t)) (W:Ups X),(match storeV e' g (.arr n t) (.ptr bs q) V .no with | some u=>(some W).map (u++·) | none=>none)=(match storeV e g (.arr n t) (.ptr bs q) V .no with | some u=>(some W).map (u++·) | none=>none):=fun V W=>by rw [Rk h hroot]
   simp only [lK]
   rw [O2 h hroot]
   split
   ·split
    ·split
     ·exact key _ _
     ·rfl
    ·rfl
   ·rfl
  | _=>rfl
 | makeMap k t=>rfl
 | allocF=>rfl
 | storeF x v=>
  have hs:=(hop x (by simp [AOp.xs])).slot
  have hv:=rdx v (by simp [AOp.xs])
  cases x with
  | c y=>rfl
  | t s=>
   simp only [eff];rw [hv]
   cases Go.A2.rd e v<;>first | rfl | (simp only [];rw [h s (hs s (by simp [bG]))])
  | v s=>
   simp only [eff];rw [hv]
   cases Go.A2.rd e v<;>first | rfl | (simp only [];rw [h s (hs s (by simp [bG]))])
 | loadM T x=>
  simp only [eff]
  rw [rdx x (by simp [AOp.xs])]
  have hroot:=(hop x (by simp [AOp.xs])).root
  generalize Go.A2.rd e x=y at hroot
  cases y with
  | ptr B q=>
   cases B with
   | box s g'=>
    cases q with
    | nil=>
     have:e' s=e s:=h s (hroot s (by simp [aL,a8,aP]))
     simp only [this]
    | cons=>rfl
   | elem=>rfl
  | _=>rfl
 | loadF x=>simp only [eff];rw [rdx x (by simp [AOp.xs])]
 | mlook k t ok x i=>simp only [eff];rw [rdx x (by simp [AOp.xs]),rdx i (by simp [AOp.xs]),P4 h (hop x (by simp [AOp.xs])).root]
 | mset k t x i v=>simp only [eff];rw [rdx x (by simp [AOp.xs]),rdx i (by simp [AOp.xs]),rdx v (by simp [AOp.xs]),G9 h (hop x (by simp [AOp.xs])).root]
 | mdel k t x i=>simp only [eff];rw [rdx x (by simp [AOp.xs]),rdx i (by simp [AOp.xs]),G9 h (hop x (by simp [AOp.xs])).root]
 | mlen k t x=>simp only [eff];rw [rdx x (by simp [AOp.xs]),P4 h (hop x (by simp [AOp.xs])).root]
 | idxStr x i=>simp only [eff];rw [rdx x (by simp [AOp.xs]),rdx i (by simp [AOp.xs])]
 | part i j x=>simp only [eff];rw [rdx x (by simp [AOp.xs])]
 | idxV n t x i=>simp only [eff];rw [rdx x (by simp [AOp.xs]),rdx i (by simp [AOp.xs])]
 | cat x y=>simp only [eff];rw [rdx x (by simp [AOp.xs]),rdx y (by simp [AOp.xs])]
 | bin o x y=>simp only [eff];rw [rdx x (by simp [AOp.xs]),rdx y (by simp [AOp.xs])]
 | eq T n x y=>simp only [eff];rw [rdx x (by simp [AOp.xs]),rdx y (by simp [AOp.xs])]
 | un o x=>simp only [eff];rw [rdx x (by simp [AOp.xs])]
 | conv k x=>simp only [eff];rw [rdx x (by simp [AOp.xs])]
 | strB x=>simp only [eff];rw [rdx x (by simp [AOp.xs]),qo h (hop x (by simp [AOp.xs])).root]
 | build i ps=>simp only [eff];rw [zK (l:=ps) h fun q hq=>hop q.2 (List.mem_map.2 ⟨q,hq,rfl⟩)]
 | buildA n t ps=>simp only [eff];rw [zK (l:=ps) h fun q hq=>hop q.2 (List.mem_map.2 ⟨q,hq,rfl⟩)]
 | buildSlice b t n ps=>simp only [eff];rw [zK (l:=ps) h fun q hq=>hop q.2 (List.mem_map.2 ⟨q,hq,rfl⟩)]
 | mm m args=>
  simp only [eff]
  rw [show args.map (Go.A2.rd e')=args.map (Go.A2.rd e) from List.map_congr_left fun x hx=>rdx x hx]
 | append b t x y=>
  simp only [eff]
  rw [Yo h (hop x (by simp [AOp.xs])),rdx y (by simp [AOp.xs]),qo h (hop y (by simp [AOp.xs])).root]
 | arrS b n t x lo hi=>
  simp only [eff]
  rw [rdx x (by simp [AOp.xs]),jH (x:=lo) h fun y hy=>hop y (by subst hy;simp [AOp.xs]),jH (x:=hi) h fun y hy=>hop y (by subst hy;simp [AOp.xs])]
  have hroot:=(hop x (by simp [AOp.xs])).root
  generalize Go.A2.rd e x=y at hroot
  generalize cL e lo=lo
  generalize cL e hi=hi
  cases lo<;>try rfl
  cases hi<;>try rfl
  cases y with
  | ptr B q=>simp only [];rw [yY h hroot]
  | _=>rfl
 | makeSlice b t x y=>simp only [eff];rw [rdx x (by simp [AOp.xs]),rdx y (by simp [AOp.xs])]
 | slice T x lo hi mx=>
  simp only [eff]
  rw [zM h (hop x (by simp [AOp.xs])),jH (x:=lo) h fun y hy=>hop y (by subst hy;simp [AOp.xs]),jH (x:=hi) h fun y hy=>hop y (by subst hy;simp [AOp.xs]),
   jH (x:=mx) h fun y hy=>hop y (by subst hy;simp [AOp.xs])]
 | makeFunc f a b=>
  simp only [eff]
  rw [ia (f:=fun x=>ec (Go.A2.rd e' x)) (g:=fun x=>ec (Go.A2.rd e x)) (l:=a) fun x hx=>by rw [rdx x (List.mem_append_left _ hx)],
   ia (f:=fun x=>ec (Go.A2.rd e' x)) (g:=fun x=>ec (Go.A2.rd e x)) (l:=b) fun x hx=>by rw [rdx x (List.mem_append_right _ hx)]]
end
end Go.A2
namespace Go.A2
section
variable {X:Tab} {e e':Env X}
theorem jB {d:Option Nat} {v:AV X} {q:Nat×AV X} (h:q∈aU d v):q.1∈d.toList:=by
 cases d with
 | none=>simp [aU] at h
 | some k=>simp [aU] at h;subst h;simp
theorem Iw {s:Nat} {q:List PS} {o:Own} {u:Ups X} (h:eN e s q o=some u):∀ y∈u,y.1=s:=by
 obtain ⟨T,v,o0,m,_,_,rfl⟩:=lF h
 intro y hy;simp at hy;subst hy;rfl
theorem Rn {r:Nat} {q:List PS} {g:Nat} {T:X.Ty} {v:X.den T} {o:Own} {u:Ups X} (h:ew e r q g=some ⟨T,v,o,u⟩):∀ y∈u,y.1=r:=by
 unfold ew at h
 split at h
 ·rename_i hm
  cases h
  exact Iw hm
 ·cases h
theorem qy {x:AX X} {T:X.Ty} {v:X.den T} {o:Own} {u:Ups X} (h:Go.A2.take e x=some ⟨T,v,o,u⟩):∀ y∈u,y.1∈tk e x:=by
 cases x with
 | c y=>
  cases y with
  | val T' v' o'=>
   simp only [Go.A2.take] at h
   split at h
   ·cases h;simp
   ·cases h
  | _=>simp [Go.A2.take] at h
 | t s=>
  simp only [Go.A2.take] at h
  simp only [tk]
  split at h
  ·rename_i T' v' o' hes
   rw [hes]
   split at h
   ·cases h;simp
   ·rename_i hp;cases h;simp [hp]
  ·rename_i r q g hes
   rw [hes]
   intro y hy;simp [Rn h y hy]
  ·cases h
 | v s=>
  simp only [Go.A2.take] at h
  simp only [tk]
  split at h
  ·rename_i T' v' o' hes
   rw [hes]
   split at h
   ·cases h;simp
   ·rename_i hp
    split at h
    ·cases h;simp [hp]
    ·cases h
  ·rename_i r q g hes
   rw [hes]
   intro y hy;simp [Rn h y hy]
  ·cases h
theorem aah {T:X.Ty} {x:AV X} {d:Option Nat} {u:Ups X} (h:ei e T x d=some u):∀ y∈u,y.1∈d.toList++pR e x:=fun y hy=>by
 have out:∀ {v:AV X},aU d v=u→y.1∈d.toList++pR e x:=fun {v} hv=>by subst hv;exact List.mem_append_left _ (jB hy)
 have outM:∀ {T':X.Ty} {o:Option (X.den T')} {f:X.den T'→AV X},o.map (fun v=>aU d (f v))=some u→y.1∈d.toList++pR e x:=fun {T' o f} hv=>by
  cases o with
  | none=>cases hv
  | some z=>exact out (by simpa using hv)
 cases x with
 | rptr T' v=>
  simp only [ei] at h
  cases hc:aR v T with
  | none=>rw [hc] at h;cases h
  | some z=>rw [hc] at h;exact out (v:=.val T z .no) (Option.some.inj h)
 | ptr b q=>
  cases b with
  | box s g=>
   simp only [ei] at h
   split at h
   ·rename_i g' T0 v0 o0 hes
    split at h
    ·split at h
     ·split at h
      ·split at h
       ·exact out (Option.some.inj h)
       ·exact out (Option.some.inj h)
       ·split at h
        ·exact out (Option.some.inj h)
        ·cases h
       ·cases h
       ·rename_i l hown
        split at h
        ·exact out (Option.some.inj h)
        ·rename_i hp
         split at h
         ·obtain ⟨m,hm,h⟩:=Option.map_eq_some_iff.1 h
          subst h
          rcases List.mem_cons.1 hy with rfl | hy
          ·refine List.mem_append_right _ ?_
           simp [pR,hes,hown,hp]
          ·exact List.mem_append_left _ (jB hy)
         ·cases h
      ·cases h
     ·cases h
    ·cases h
   ·cases h
  | elem s p g i=>
   simp only [ei] at h
   split at h
   ·split at h
    ·rename_i T1 v1 _
     cases hc:aR v1 T with
     | none=>rw [hc] at h;cases h
     | some z=>rw [hc] at h;exact out (v:=.val T z .no) (Option.some.inj h)
    ·cases h
   ·cases h
 | _=>simp [ei] at h
theorem Rl {g0:Nat} {T:X.Ty} {x:AV X} {v:X.den T} {o:Own} {u:Ups X} (h:storeV e g0 T x v o=some u):∀ y∈u,y.1∈aP x:=fun y hy=>by
 cases x with
 | ptr b q=>
  cases b with
  | box s g=>
   simp only [storeV] at h
   split at h
   ·split at h
    ·split at h
     ·cases h;simp at hy;subst hy;simp [aP]
     ·cases h
    ·cases h
   ·cases h
  | elem s p g i=>
   simp only [storeV] at h
   split at h
   ·split at h
    ·split at h
     ·obtain ⟨z,_,h⟩:=Option.map_eq_some_iff.1 h
      subst h;simp at hy;subst hy;simp [aP]
     ·obtain ⟨z,_,h⟩:=Option.map_eq_some_iff.1 h
      subst h;simp at hy;subst hy;simp [aP]
     ·cases h
    ·cases h
   ·cases h
 | _=>simp [storeV] at h
theorem Pz {x:AX X} {b:Nat} {t:X.Ty} {l:Sl b (X.den t)} {u:Ups X} {z:Bool} (h:Go.A2.grab e x=some ⟨b,t,l,u,z⟩):∀ y∈u,y.1∈lj e x:=fun y hy=>by
 have key:∀ s,Go.A2.grab e (.v s)=some ⟨b,t,l,u,z⟩→y.1∈lj e (.v s):=fun s h=>by
  simp only [Go.A2.grab] at h
  simp only [lj]
  split at h
  ·cases h;cases hy
  ·rename_i hes;cases h;rw [hes];simp at hy ⊢;subst hy;rfl
  ·rename_i r q g hes
   rw [hes]
   split at h
   ·rename_i hm
    cases h
    split at hm
    ·cases hm;simp at hy ⊢;subst hy;rfl
    ·simp [Iw hm y hy]
   ·cases h
  ·cases h
 cases x with
 | c w=>
  cases w with
  | val T v o=>
   cases T with
   | slice b' t'=>
    cases o with
    | full=>
     simp only [Go.A2.grab] at h
     split at h
     ·cases h;cases hy
     ·cases h
    | _=>simp [Go.A2.grab] at h
   | _=>simp [Go.A2.grab] at h
  | _=>simp [Go.A2.grab] at h
 | t s=>exact key s h
 | v s=>exact key s h
theorem Hk:∀ {l:List Own} {j:Nat} {b:Own},Own.pureL l=true→b.pure=true→Own.pureL (bC l j b)=true
 | [],0,b,_,hb=>by simp [bC,Own.pureL,hb]
 | [],j+1,b,_,hb=>by simp only [bC,Own.pureL,Bool.and_eq_true];exact ⟨rfl,Hk rfl hb⟩
 | o :: l,0,b,h,hb=>by simp only [Own.pureL,Bool.and_eq_true] at h;simp [bC,Own.pureL,hb,h.2]
 | o :: l,j+1,b,h,hb=>by
  simp only [Own.pureL,Bool.and_eq_true] at h
  simp only [bC,Own.pureL,Bool.and_eq_true]
  exact ⟨h.1,Hk h.2 hb⟩
theorem Q7:∀ {q:List PS} {o m:Own},a9 o q .no=some m→o.pure=true→m.pure=true
 | [],o,m,h,_=>by simp only [a9,Option.some.injEq] at h;subst h;rfl
 | .fld j :: q,o,m,h,hp=>by
  have hd:o ≠ .dead:=fun hd=>by subst hd;cases hp
  have:a9 o (.fld j :: q) .no=match a9 (o.fldD j) q .no with
    | some b=>if (o.fldD j).isNo&&b.isNo then some o else some (if (bC o.list j b).all Own.isNo then .no else .st (bC o.list j b))
    | none=>none:=by cases o<;>first | rfl | exact absurd rfl hd
  rw [this] at h
  have hfld:(o.fldD j).pure=true:=by
   cases o with
   | st l=>exact Hj hp j
   | dead=>exact absurd rfl hd
   | _=>rfl
  have hlist:Own.pureL o.list=true:=by
   cases o with
   | st l=>exact hp
   | _=>rfl
  split at h
  ·rename_i b hb
   have hbp:=Q7 hb hfld
   split at h
   ·simp only [Option.some.injEq] at h;subst h;exact hp
   ·simp only [Option.some.injEq] at h;subst h
    split
    ·rfl
    ·exact Hk hlist hbp
  ·cases h
 | .idx j :: q,o,m,h,hp=>by
  cases o with
  | dead=>cases hp
  | _=>simp only [a9] at h;split at h<;>first | (cases h;rfl) | cases h
def vM (e e1:Env X):Prop:=∀ s,e1 s=e s∨e1 s=.undef∨∃ T v o m,bq (e s)=some ⟨T,v,o⟩∧e1 s=dj (e s) m∧(o.pure=true→m.pure=true)
theorem IC {s:Nat} {y:AV X} (h:y=.undef∨∃ T v o m,bq (e s)=some ⟨T,v,o⟩∧y=dj (e s) m∧(o.pure=true→m.pure=true)):vM e (applyU e [(s,y)]):=fun t=>by
 show Go.A2.upd e s y t=e t∨_
 by_cases ht:t=s
 ·subst ht
  rcases h with rfl | ⟨T,v,o,m,h1,rfl,h2⟩
  ·exact .inr (.inl (bz e t _))
  ·exact .inr (.inr ⟨T,v,o,m,h1,bz e t _,h2⟩)
 ·exact .inl (bm e y ht)
theorem Rq {x:AX X} {T:X.Ty} {v:X.den T} {o:Own} {u:Ups X} (h:Go.A2.take e x=some ⟨T,v,o,u⟩):vM e (applyU e u):=by
 have ref:∀ {r q g},ew e r q g=some ⟨T,v,o,u⟩→vM e (applyU e u):=fun {r q g} h=>by
  unfold ew at h
  split at h
  ·rename_i hc hm
   cases h
   obtain ⟨T,v,o0,m,k1,k2,rfl⟩:=lF hm
   exact IC (.inr ⟨T,v,o0,m,k1,rfl,Q7 k2⟩)
  ·cases h
 cases x with
 | c y=>
  cases y with
  | val T' v' o'=>
   simp only [Go.A2.take] at h
   split at h
   ·cases h;exact fun s=>.inl rfl
   ·cases h
  | _=>simp [Go.A2.take] at h
 | t s=>
  simp only [Go.A2.take] at h
  split at h
  ·rename_i T' v' o' hes
   split at h
   ·cases h;exact fun s=>.inl rfl
   ·cases h;exact IC (.inl rfl)
  ·exact ref h
  ·cases h
 | v s=>
  simp only [Go.A2.take] at h
  split at h
  ·rename_i T' v' o' hes
   split at h
   ·cases h;exact fun s=>.inl rfl
   ·split at h
    ·cases h;exact IC (.inr ⟨_,_,_,.no,by rw [hes];rfl,by rw [hes];rfl,fun _=>rfl⟩)
    ·cases h
  ·exact ref h
  ·cases h
theorem ahe {e1:Env X} (h:vM e e1) {x:AX X}:∀ t∈tk e1 x,t∈tk e x:=fun t ht=>by
 have key:∀ s,t∈tk e1 (.v s)→t∈tk e (.v s):=fun s ht=>by
  rcases h s with h1 | h1 | ⟨T,v,o,m,h1,h2,h3⟩
  ·simp only [tk] at ht ⊢;rw [h1] at ht;exact ht
  ·simp only [tk,h1] at ht;cases ht
  ·rcases fO h1 with hes | ⟨g,hes⟩
   ·rw [hes] at h2
    simp only [dj] at h2
    simp only [tk,h2,hes] at ht ⊢
    split at ht
    ·cases ht
    ·rename_i hm
     rw [if_neg fun hp=>hm (h3 hp)];exact ht
   ·rw [hes] at h2
    simp only [dj] at h2
    simp only [tk,h2] at ht;cases ht
 cases x with
 | c y=>cases ht
 | t s=>exact key s ht
 | v s=>exact key s ht
theorem zL:∀ {l:List (Nat×AX X)} {e:Env X} {vs:List (Nat×(T:X.Ty)×X.den T×Own)} {u:Ups X},Go.A2.takeAll e l=some (vs,u)→∀ y∈u,y.1∈l.flatMap fun q=>tk e q.2
 | [],e,vs,u,h=>by simp [Go.A2.takeAll] at h;obtain ⟨_,rfl⟩:=h;simp
 | (j,x) :: l,e,vs,u,h=>by
  simp only [Go.A2.takeAll] at h
  split at h
  ·rename_i T v o u1 h1
   split at h
   ·rename_i vs' us' h2
    simp only [Option.some.injEq,Prod.mk.injEq] at h
    obtain ⟨_,rfl⟩:=h
    intro y hy
    rw [List.flatMap_cons]
    rcases List.mem_append.1 hy with hy | hy
    ·exact List.mem_append_left _ (qy h1 y hy)
    ·obtain ⟨q,hq,hk⟩:=List.mem_flatMap.1 (zL h2 y hy)
     exact List.mem_append_right _ (List.mem_flatMap.2 ⟨q,hq,ahe (Rq h1) _ hk⟩)
   ·cases h
  ·cases h
theorem Pp:∀ {l:List (Nat×List PS)} {e:Env X} {u:Ups X},Go.A2.freezeAll e l=some u→∀ y∈u,∃ q∈l,y.1=q.1
 | [],e,u,h=>by simp [Go.A2.freezeAll] at h;subst h;simp
 | (s,q) :: l,e,u,h=>by
  simp only [Go.A2.freezeAll] at h
  split at h
  ·rename_i u1 h1
   obtain ⟨u2,h2,rfl⟩:=Option.map_eq_some_iff.1 h
   intro y hy
   rcases List.mem_append.1 hy with hy | hy
   ·exact ⟨(s,q),by simp,Iw h1 y hy⟩
   ·obtain ⟨q',hq,hk⟩:=Pp h2 y hy
    exact ⟨q',by simp [hq],hk⟩
  ·cases h
theorem GS {g:Nat}:∀ {as:List (Arg X)} {os:List (AV X)} {u:Ups X},cX e g as os=some u→∀ y∈u,∃ a∈as,a.back=some y.1
 | [],[],u,h=>by simp [cX] at h;subst h;simp
 | [],_ :: _,u,h=>by simp [cX] at h
 | _ :: _,[],u,h=>by simp [cX] at h
 | a :: as,o :: os,u,h=>by
  simp only [cX] at h
  split at h
  ·rename_i s hb
   split at h
   ·obtain ⟨u',h',rfl⟩:=Option.map_eq_some_iff.1 h
    intro y hy
    rcases List.mem_cons.1 hy with rfl | hy
    ·exact ⟨a,by simp,hb⟩
    ·obtain ⟨a',ha,hk⟩:=GS h' y hy
     exact ⟨a',by simp [ha],hk⟩
   ·cases h
  ·intro y hy
   obtain ⟨a',ha,hk⟩:=GS h y hy
   exact ⟨a',by simp [ha],hk⟩
theorem Oi {cp:Bool} {g:Nat} {as:List (Arg X)} {d:Option Nat} {r:Ret X} {u:Ups X} {Rs:List Nat} (ha:∀ a∈as,(∀ s,a.back=some s→s∈Rs)∧∀ q∈a.roots,q.1∈Rs) (hcp:cp=true→∀ a∈as,∀ s∈a.caps,s∈Rs) (h:ea cp e g as d r=some u):∀ y∈u,y.1∈d.toList++Rs:=by
 unfold ea at h
 simp only [] at h
 split at h
 ·split at h
  ·rename_i u1 u2 h1 h2
   simp only [Option.some.injEq] at h;subst h
   intro y hy
   rcases List.mem_append.1 hy with hy | hy
   ·split at h1
    ·cases h1;cases hy
    ·split at h1
     ·rename_i hce
      obtain ⟨u0,h0,rfl⟩:=Option.map_eq_some_iff.1 h1
      rcases List.mem_append.1 hy with hy | hy
      ·obtain ⟨q,hq,hk⟩:=Pp h0 y hy
       obtain ⟨a,hm,hq⟩:=List.mem_flatMap.1 hq
       exact List.mem_append_right _ (hk ▸ (ha a hm).2 q hq)
      ·obtain ⟨s,hs,rfl⟩:=List.mem_map.1 hy
       simp only [Bool.or_eq_true,Bool.and_eq_true] at hce
       rcases hce with hce | ⟨hce,_⟩
       ·rw [List.isEmpty_iff] at hce;rw [hce] at hs;cases hs
       ·obtain ⟨a,hm,hs⟩:=List.mem_flatMap.1 hs
        exact List.mem_append_right _ (hcp hce a hm s hs)
     ·cases h1
   ·rcases List.mem_append.1 hy with hy | hy
    ·obtain ⟨a,hm,hk⟩:=GS h2 y hy
     exact List.mem_append_right _ ((ha a hm).1 _ hk)
    ·exact List.mem_append_left _ (jB hy)
  ·cases h
 ·cases h
end
end Go.A2
namespace Go.A2
section
variable {X:Tab} {e e':Env X}
theorem WB {ans:Ret X} {g:Nat} {d:Option Nat} {op:AOp X} {u:Ups X} (h:eff ans g e d op=some u):∀ y∈u,y.1∈jy e d op:=fun y hy=>by
 have out:∀ {v:AV X},some (aU d v)=some u→y.1∈jy e d op:=fun {v} hv=>by
  cases hv;exact List.mem_append_left _ (jB hy)
 have outB:∀ {α:Type} {o:Option α} {f:α→AV X},(o.bind fun z=>some (aU d (f z)))=some u→y.1∈jy e d op:=fun {α o f} hv=>by
  obtain ⟨z,_,hz⟩:=Option.bind_eq_some_iff.1 hv
  exact out hz
 have app:∀ {u1:Ups X} {v:AV X} {ks:List Nat},u1++aU d v=u→(∀ y∈u1,y.1∈ks)→jy e d op=d.toList++ks→y.1∈jy e d op:=fun {u1 v ks} hu hk hko=>by
  subst hu
  rw [hko]
  rcases List.mem_append.1 hy with hy | hy
  ·exact List.mem_append_right _ (hk y hy)
  ·exact List.mem_append_left _ (jB hy)
 cases op with
 | move x=>
  cases x with
  | c z=>exact out (v:=z) (by simpa only [eff] using h)
  | t s=>
   simp only [eff] at h
   split at h
   ·rename_i T v o hes
    split at h
    ·exact out h
    ·rename_i hp
     exact app (u1:=[(s,.undef)]) (ks:=mvK e (.t s)) (Option.some.inj h) (fun z hz=>by simp only [List.mem_singleton] at hz;subst hz;simp [mvK,hes,hp]) rfl
   ·rename_i l hes
    exact app (u1:=[(s,.undef)]) (ks:=mvK e (.t s)) (Option.some.inj h) (fun z hz=>by simp only [List.mem_singleton] at hz;subst hz;simp [mvK,hes]) rfl
   ·split at h
    ·cases h;cases hy
    ·exact out h
   ·cases h
   ·exact out h
  | v s=>
   simp only [eff] at h
   split at h
   ·cases h
   ·exact out h
   ·exact out h
   ·rename_i T v o hn hn' hes
    split at h
    ·exact out h
    ·rename_i hp
     split at h
     ·refine app (u1:=[(s,.val T v .no)]) (ks:=mvK e (.v s)) (Option.some.inj h) (fun z hz=>?_) rfl
      simp only [List.mem_singleton] at hz;subst hz
      show s∈mvK e (.v s)
      simp only [mvK,hes]
      rw [if_neg hp];simp
     ·cases h
   ·cases h
   ·exact out h
 | load T x=>exact aah (by simpa only [eff] using h) y hy
 | store T x v=>
  simp only [eff] at h
  split at h
  ·rename_i T' v' o u1 ht
   split at h
   ·obtain ⟨u2,h2,rfl⟩:=Option.map_eq_some_iff.1 h
    rcases List.mem_append.1 hy with hy | hy
    ·exact List.mem_append_right _ (List.mem_append_left _ (qy ht y hy))
    ·refine List.mem_append_right _ (List.mem_append_right _ ?_)
     have hk:=Rl h2 y hy
     have hsoft:=Rq ht
     have key:∀ s,(∃ b q,Go.A2.rd (applyU e u1) (.v s)=.ptr b q)→Go.A2.rd (applyU e u1) (.v s)=Go.A2.rd e (.v s):=fun s hp=>by
      rcases hsoft s with h1 | h1 | ⟨T,v,o,m,h1,h3,_⟩
      ·simp only [Go.A2.rd];rw [h1]
      ·obtain ⟨b,q,hp⟩:=hp
       simp only [Go.A2.rd,h1] at hp;cases hp
      ·rcases fO h1 with hes | ⟨g',hes⟩
       ·rw [hes] at h3
        simp only [dj] at h3
        obtain ⟨b,q,hp⟩:=hp
        simp only [Go.A2.rd,h3] at hp
        exfalso
        cases T<;>first | cases hp | (cases m<;>cases hp)
       ·rw [hes] at h3
        simp only [dj] at h3
        simp only [Go.A2.rd,h3,hes]
     have hptr:∃ b q,Go.A2.rd (applyU e u1) x=.ptr b q:=by
      cases hr:Go.A2.rd (applyU e u1) x with
      | ptr b q=>exact ⟨b,q,rfl⟩
      | _=>rw [hr] at h2;simp [storeV] at h2
     have hrd:Go.A2.rd (applyU e u1) x=Go.A2.rd e x:=by
      cases x with
      | c z=>rfl
      | t s=>exact key s hptr
      | v s=>exact key s hptr
     rw [hrd] at hk;exact hk
   ·cases h
  ·cases h
 | box T x=>
  simp only [eff] at h
  split at h
  ·rename_i T' v o u1 ht
   split at h
   ·exact app (u1:=u1) (ks:=tk e x) (Option.some.inj h) (qy ht) rfl
   ·cases h
  ·cases h
 | alloc T=>exact out (by simpa only [eff] using h)
 | bin o a b=>simp only [eff] at h;exact outB (f:=id) h
 | un o a=>simp only [eff] at h;exact outB (f:=id) h
 | bad=>cases h
 | isNil n x=>cases h
 | build i ps=>
  simp only [eff] at h
  split at h
  ·rename_i vs u1 ht
   split at h
   ·exact app (u1:=u1) (ks:=ps.flatMap fun q=>tk e q.2) (Option.some.inj h) (zL ht) rfl
   ·cases h
  ·cases h
 | buildA n t ps=>
  simp only [eff] at h
  split at h
  ·rename_i vs u1 ht
   split at h
   ·split at h
    ·exact app (u1:=u1) (ks:=ps.flatMap fun q=>tk e q.2) (Option.some.inj h) (zL ht) rfl
    ·cases h
   ·cases h
  ·cases h
 | buildSlice b t n ps=>
  simp only [eff] at h
  split at h
  ·rename_i vs u1 ht
   split at h
   ·split at h
    ·obtain ⟨l,_,h⟩:=Option.bind_eq_some_iff.1 h
     exact app (u1:=u1) (ks:=ps.flatMap fun q=>tk e q.2) (Option.some.inj h) (zL ht) rfl
    ·cases h
   ·cases h
  ·cases h
 | append b t x z=>
  simp only [eff] at h
  split at h
  ·rename_i b1 t1 l1 u1 zf hg
   split at h
   ·split at h
    ·split at h
     ·obtain ⟨l,_,h⟩:=Option.bind_eq_some_iff.1 h
      exact app (u1:=u1) (ks:=lj e x) (Option.some.inj h) (Pz hg) rfl
     ·exact app (u1:=u1) (ks:=lj e x) (Option.some.inj h) (Pz hg) rfl
    ·cases h
   ·cases h
  ·cases h
 | slice T x lo hi mx=>
  simp only [eff] at h
  split at h
  ·rename_i T' v o u1 lo' hi' mx' ht _ _ _
   split at h
   ·split at h
    ·obtain ⟨l,_,h⟩:=Option.bind_eq_some_iff.1 h
     exact app (u1:=u1) (ks:=tk e x) (Option.some.inj h) (qy ht) rfl
    ·cases h
   ·cases h
  ·cases h
 | call f args=>
  simp only [eff] at h
  split at h
  ·rename_i f' as hc
   exact Oi (Rs:=args.flatMap fun x=>aL (Go.A2.rd e x)) (fun a ha=>by
    simp only [aX] at hc
    split at hc
    ·rename_i as' h1
     simp only [Option.some.injEq,Prod.mk.injEq] at hc
     obtain ⟨_,rfl⟩:=hc
     obtain ⟨a0,ha,z1,z2,_⟩:=jd ha
     rw [z1,z2]
     obtain ⟨i,hi,rfl⟩:=List.mem_iff_getElem.1 ha
     obtain ⟨x,hx,hax⟩:=bE h1 (List.getElem?_eq_getElem hi)
     obtain ⟨q1,q2⟩:=yb hax
     have hm:=List.mem_of_getElem? hx
     exact ⟨fun s hs=>List.mem_flatMap.2 ⟨x,hm,q1 s hs⟩,fun r hr=>List.mem_flatMap.2 ⟨x,hm,q2 r hr⟩⟩
    ·cases hc) (fun _ a ha=>by
    simp only [aX] at hc
    split at hc
    ·rename_i as' h1
     simp only [Option.some.injEq,Prod.mk.injEq] at hc
     obtain ⟨_,rfl⟩:=hc
     obtain ⟨a0,ha,_,_,z3⟩:=jd ha
     rw [z3]
     obtain ⟨i,hi,rfl⟩:=List.mem_iff_getElem.1 ha
     obtain ⟨x,hx,hax⟩:=bE h1 (List.getElem?_eq_getElem hi)
     exact fun s hs=>List.mem_flatMap.2 ⟨x,List.mem_of_getElem? hx,R5 hax s hs⟩
    ·cases hc) h y hy
  ·cases h
 | callv x args=>
  simp only [eff] at h
  split at h
  ·rename_i f' as hc
   exact Oi (Rs:=yl e x++args.flatMap fun x=>aL (Go.A2.rd e x)) (fun a ha=>by
    simp only [aX] at hc
    split at hc
    ·rename_i f'' first cps hrd
     split at hc
     ·rename_i as' fs cs h1 h2 h3
      simp only [Option.some.injEq,Prod.mk.injEq] at hc
      obtain ⟨_,rfl⟩:=hc
      obtain ⟨a0,ha,z1,z2,_⟩:=jd ha
      rw [z1,z2]
      rcases List.mem_append.1 ha with ha | ha
      ·rcases List.mem_append.1 ha with ha | ha
       ·obtain ⟨i,hi,rfl⟩:=List.mem_iff_getElem.1 ha
        obtain ⟨x,hx,hax⟩:=bE h2 (List.getElem?_eq_getElem hi)
        obtain ⟨q1,q2⟩:=yi hax
        rw [q1,q2];simp
       ·obtain ⟨i,hi,rfl⟩:=List.mem_iff_getElem.1 ha
        obtain ⟨x,hx,hax⟩:=bE h1 (List.getElem?_eq_getElem hi)
        obtain ⟨q1,q2⟩:=yb hax
        have hm:=List.mem_of_getElem? hx
        exact ⟨fun s hs=>List.mem_append_right _ (List.mem_flatMap.2 ⟨x,hm,q1 s hs⟩),fun r hr=>List.mem_append_right _ (List.mem_flatMap.2 ⟨x,hm,q2 r hr⟩)⟩
      ·obtain ⟨i,hi,rfl⟩:=List.mem_iff_getElem.1 ha
       obtain ⟨y,hy,hay⟩:=bE h3 (List.getElem?_eq_getElem hi)
       obtain ⟨k1,k2⟩:=OC hay
       rw [k2]
       refine ⟨fun s hs=>List.mem_append_left _ ?_,by simp⟩
       obtain ⟨k3,k4⟩:=k1 s hs
       unfold yl
       rw [hrd]
       simp only [k4,if_true]
       exact gu (List.mem_of_getElem? hy) s k3
     ·cases hc
    ·rename_i s0 g0 hrd
     split at hc
     ·split at hc
      ·split at hc
       ·rename_i as' h1
        simp only [Option.some.injEq,Prod.mk.injEq] at hc
        obtain ⟨_,rfl⟩:=hc
        obtain ⟨a0,ha,z1,z2,_⟩:=jd ha
        rw [z1,z2]
        rcases List.mem_append.1 ha with ha | ha
        ·obtain ⟨i,hi,rfl⟩:=List.mem_iff_getElem.1 ha
         obtain ⟨x,hx,hax⟩:=bE h1 (List.getElem?_eq_getElem hi)
         obtain ⟨q1,q2⟩:=yb hax
         have hm:=List.mem_of_getElem? hx
         exact ⟨fun s hs=>List.mem_append_right _ (List.mem_flatMap.2 ⟨x,hm,q1 s hs⟩),fun r hr=>List.mem_append_right _ (List.mem_flatMap.2 ⟨x,hm,q2 r hr⟩)⟩
        ·simp at ha;subst ha
         refine ⟨fun s hs=>List.mem_append_left _ ?_,by simp⟩
         cases hs
         unfold yl
         rw [hrd];simp
       ·cases hc
      ·cases hc
     ·cases hc
    ·cases hc) (fun hcp=>by cases hcp) h y hy
  ·cases h
 | allocF=>exact out (v:=.fnew g) (by simpa only [eff] using h)
 | loadM T x=>
  simp only [eff] at h
  split at h
  ·rename_i s g' hr
   split at h
   ·split at h
    ·split at h
     ·refine app (u1:=[(s,.undef)]) (ks:=[s]) (Option.some.inj h) (fun y hy=>?_) ?_
      ·simp at hy;subst hy;simp
      ·simp only [jy,hr,aP]
     ·cases h
    ·cases h
   ·cases h
  ·cases h
 | loadF x=>
  simp only [eff] at h
  split at h
  ·exact out h
  ·cases h
 | storeF x v=>
  simp only [eff] at h
  split at h
  ·split at h
   ·split at h
    ·cases h
     simp only [List.mem_singleton] at hy;subst hy
     exact List.mem_append_right _ (by simp [bG])
    ·cases h
   ·cases h
  ·split at h
   ·split at h
    ·cases h
     simp only [List.mem_singleton] at hy;subst hy
     exact List.mem_append_right _ (by simp [bG])
    ·cases h
   ·cases h
  ·cases h
 | makeMap k t=>exact out (v:=.val (.map k t) ([]:List (X.den k×X.den t)) (.yes g)) (by simpa only [eff] using h)
 | mlook k t ok x i=>
  simp only [eff] at h
  split at h
  ·split at h
   ·exact out h
   ·exact out h
  ·cases h
 | mset k t x i v=>
  simp only [eff] at h
  split at h
  ·rename_i s g' l z w hm _ _
   split at h
   ·cases h
    simp only [List.mem_singleton] at hy;subst hy
    refine List.mem_append_right _ ?_
    show s∈aP (Go.A2.rd e x)
    unfold mapAt at hm
    split at hm
    ·rename_i s' g1 hr
     split at hm
     ·split at hm
      ·obtain ⟨q,_,hq⟩:=Option.map_eq_some_iff.1 hm
       cases hq
       rw [hr];simp [aP]
      ·cases hm
     ·cases hm
    ·cases hm
   ·cases h
  ·cases h
 | mdel k t x i=>
  simp only [eff] at h
  split at h
  ·rename_i s g' l z hm _
   refine app (u1:=[(s,_)]) (ks:=aP (Go.A2.rd e x)) (Option.some.inj h) (fun z hz=>?_) rfl
   simp only [List.mem_singleton] at hz;subst hz
   unfold mapAt at hm
   split at hm
   ·rename_i s' g1 hr
    split at hm
    ·split at hm
     ·obtain ⟨q,_,hq⟩:=Option.map_eq_some_iff.1 hm
      cases hq
      rw [hr];simp [aP]
     ·cases hm
    ·cases hm
   ·cases hm
  ·cases h
 | mlen k t x=>
  simp only [eff] at h
  obtain ⟨l,_,h⟩:=Option.bind_eq_some_iff.1 h
  exact outB h
 | conv k x=>simp only [eff] at h;split at h<;>first | exact out h | cases h
 | strB x=>
  simp only [eff] at h
  repeat' split at h
  all_goals first | exact out h | cases h
 | part i j x=>
  simp only [eff] at h;repeat' split at h
  all_goals first | exact out h | cases h
 | fld i j x=>
  simp only [eff] at h;repeat' split at h
  all_goals first | exact out h | cases h
 | nilCheck x=>
  simp only [eff] at h;repeat' split at h
  all_goals first | exact out h | cases h
 | eq T n a b=>
  simp only [eff] at h;repeat' split at h
  all_goals first | exact out h | cases h
 | makeFunc f a b=>simp only [eff] at h;split at h<;>first | exact out h | cases h
 | cat x i=>simp only [eff] at h;split at h<;>first | exact outB h | cases h
 | idxStr x i=>simp only [eff] at h;split at h<;>first | exact outB h | cases h
 | arrS b n t x lo hi=>
  simp only [eff] at h
  split at h
  ·split at h
   ·split at h
    ·exact outB h
    ·cases h
   ·split at h
    ·split at h
     ·exact outB h
     ·cases h
    ·cases h
   ·cases h
  ·cases h
 | makeSlice b t l c=>simp only [eff] at h;split at h<;>first | exact outB h | cases h
 | mm m args=>simp only [eff] at h;split at h<;>first | exact outB h | cases h
 | pick c a b=>simp only [eff] at h;split at h<;>first | exact outB h | cases h
 | idxV n t x i=>
  simp only [eff] at h;repeat' split at h
  all_goals first | exact outB h | cases h
 | idxA n t x i=>
  simp only [eff] at h;repeat' split at h
  all_goals first | exact outB h | cases h
 | idxS b t x i=>
  simp only [eff] at h;repeat' split at h
  all_goals first | exact outB h | cases h
 | view b t x lo hi=>
  simp only [eff] at h
  repeat' split at h
  all_goals first | exact outB h | cases h
 | copy b t x z=>
  simp only [eff] at h
  split at h
  ·rename_i s q g' off hr
   have hro:aP (Go.A2.rd e x)=[s]:=by
    unfold lK at hr
    split at hr
    ·rename_i hx;cases hr;rw [hx];rfl
    ·rename_i hx;cases hr;rw [hx];rfl
    ·cases hr
   split at h
   ·split at h
    ·split at h
     ·rename_i v1 _
      refine app (ks:=aP (Go.A2.rd e x)) (Option.some.inj h) (fun z' hz=>?_) rfl
      simp only [List.mem_singleton] at hz;subst hz
      rw [hro];simp
     ·cases h
    ·cases h
   ·cases h
  ·split at h
   ·rename_i bs q b' n t' off hi hr
    split at h
    ·split at h
     ·split at h
      ·split at h
       ·rename_i u hst
        refine app (ks:=aP (Go.A2.rd e x)) (Option.some.inj h) (fun z' hz=>?_) rfl
        have:=Rl hst z' hz
        rw [hr]
        cases bs<;>exact this
       ·cases h
      ·cases h
     ·cases h
    ·cases h
   ·cases h
 | len b x=>
  cases b with
  | true=>simp only [eff] at h;split at h<;>first | exact out h | cases h
  | false=>
   simp only [eff] at h
   obtain ⟨⟨b',t',l⟩,_,h⟩:=Option.bind_eq_some_iff.1 h
   exact out h
 | extract x i=>
  simp only [eff] at h
  split at h
  ·rename_i s
   split at h
   ·rename_i l hes
    split at h
    ·rename_i T v o hl
     split at h
     ·exact out h
     ·rename_i hp
      exact app (u1:=[(s,.tup (l.set i .undef))]) (ks:=exK e i (.t s)) (Option.some.inj h) (fun z hz=>by simp only [List.mem_singleton] at hz;subst hz;simp [exK,hes,hl,hp]) rfl
    ·exact out h
    ·cases h
   ·cases h
  ·cases h
end
end Go.A2
namespace Go.A2
theorem P5 {acc:List Nat}:∀ (l:List Edge) (s k:Nat),(l.foldl (fun s e=>if Region.binds .any e then s ||| 2 ^ e.on ||| acc.getD e.on 0 else s) s).testBit k=true→
  s.testBit k=true∨∃ e∈l,Region.binds .any e=true∧(k=e.on∨(acc.getD e.on 0).testBit k=true)
 | [],s,k,h=>.inl h
 | e :: l,s,k,h=>by
  simp only [List.foldl_cons] at h
  rcases P5 l _ k h with h1 | ⟨e',he,hb,hk⟩
  ·split at h1
   ·rename_i hb
    rw [Nat.testBit_or,Nat.testBit_or,Bool.or_eq_true,Bool.or_eq_true,Nat.testBit_two_pow] at h1
    rcases h1 with (h1 | h1) | h1
    ·exact .inl h1
    ·exact .inr ⟨e,by simp,hb,.inl (of_decide_eq_true h1).symm⟩
    ·exact .inr ⟨e,by simp,hb,.inr h1⟩
   ·exact .inl h1
  ·exact .inr ⟨e',by simp [he],hb,hk⟩
def vj (acc:List Nat) (pre:List Oper):Prop:=acc.length=pre.length ∧
 ∀ (i:Nat) o,pre[i]?=some o→∀ k,(acc.getD i 0).testBit k=true→∃ e∈o.after,Region.binds .any e=true∧(k=e.on∨(e.on < i∧(acc.getD e.on 0).testBit k=true))
theorem P6:∀ (l:List Oper) (acc:List Nat) (pre:List Oper),vj acc pre→vj (pU acc l) (pre++l)
 | [],acc,pre,h=>by simpa [pU] using h
 | o :: l,acc,pre,h=>by
  have h1:vj (acc++[iv acc o]) (pre++[o]):=by
   refine ⟨by simp [h.1],fun i q hq k hk=>?_⟩
   rcases Nat.lt_trichotomy i pre.length with hi | hi | hi
   ·rw [List.getElem?_append_left hi] at hq
    have hg:(acc++[iv acc o]).getD i 0=acc.getD i 0:=by
     simp [List.getD_eq_getElem?_getD,List.getElem?_append,h.1,hi]
    rw [hg] at hk
    obtain ⟨e,he,hb,hkk⟩:=h.2 i q hq k hk
    refine ⟨e,he,hb,hkk.imp id fun ⟨h2,h3⟩=>⟨h2,?_⟩⟩
    rw [show (acc++[iv acc o]).getD e.on 0=acc.getD e.on 0 by
     simp [List.getD_eq_getElem?_getD,List.getElem?_append,h.1,Nat.lt_trans h2 hi]]
    exact h3
   ·subst hi
    have hqo:q=o:=by simpa using hq.symm
    subst hqo
    have hg:(acc++[iv acc q]).getD pre.length 0=iv acc q:=by
     simp [List.getD_eq_getElem?_getD,←h.1]
    rw [hg] at hk
    unfold iv at hk
    rcases P5 _ _ _ hk with h2 | ⟨e,he,hb,hkk⟩
    ·simp at h2
    ·refine ⟨e,by simpa using he,hb,hkk.imp id fun h2=>?_⟩
     have hlt:e.on < pre.length:=by
      rcases Nat.lt_or_ge e.on pre.length with h3 | h3
      ·exact h3
      ·have hlen:=h.1
       rw [List.getD_eq_getElem?_getD,List.getElem?_eq_none (by omega)] at h2
       simp at h2
     refine ⟨hlt,?_⟩
     rw [show (acc++[iv acc q]).getD e.on 0=acc.getD e.on 0 by
      simp [List.getD_eq_getElem?_getD,List.getElem?_append,h.1,hlt]]
     exact h2
   ·rw [List.getElem?_eq_none (by simp;omega)] at hq;cases hq
  have:=P6 l _ _ h1
  simpa [pU] using this
theorem P7 (ops:List Oper):vj (jA ops) ops:=by
 have:=P6 ops [] [] ⟨rfl,by simp⟩
 simpa [jA] using this
def AD (ops:Array Oper) (listed:Array Bool):Prop:=∀ (j:Nat) o,listed.getD j false=true→ops[j]?=some o→∀ e∈o.after,Region.binds .any e=true→listed.getD e.on false=true
theorem SP {ops:Array Oper} {listed:Array Bool} (hcl:AD ops listed):∀ (i:Nat) o,ops[i]?=some o→(∀ e∈o.after,Region.binds .any e=true→listed.getD e.on false=true)→
  ∀ k,((jA ops.toList).getD i 0).testBit k=true→listed.getD k false=true:=by
 intro i
 induction i using Nat.strongRecOn with
 | _ i ih=>
  intro o ho hr k hk
  obtain ⟨e,he,hb,hkk⟩:=(P7 ops.toList).2 i o (by simpa using ho) k hk
  rcases hkk with rfl | ⟨hlt,hbit⟩
  ·exact hr e he hb
  ·have hle:=hr e he hb
   cases hoe:ops[e.on]? with
   | none=>
    have:=(P7 ops.toList).1
    rw [List.getD_eq_getElem?_getD,List.getElem?_eq_none (by
     rw [this]
     have:=Array.getElem?_eq_none_iff.1 hoe
     simpa using this)] at hbit
    simp at hbit
   | some oe=>exact ih e.on hlt oe hoe (hcl e.on oe hle hoe) k hbit
def rem (listed:Array Bool) (m:Nat):List Nat:=(List.range m).filter fun j=>!listed.getD j true
theorem QA {listed:Array Bool} {m i:Nat} (hi:i < m) (hl:listed.getD i true=false):∃ p q,rem listed m=p++i :: q∧(∀ k∈p,k < i∧listed.getD k true=false)∧rem (listed.setIfInBounds i true) m=p++q:=by
 have hsz:i < listed.size:=by
  rcases Nat.lt_or_ge i listed.size with h | h
  ·exact h
  ·simp [Array.getD_eq_getD_getElem?,Array.getElem?_eq_none h] at hl
 have hset:∀ j,(listed.setIfInBounds i true).getD j true=if j=i then true else listed.getD j true:=fun j=>by
  by_cases hj:j=i
  ·subst hj;simp [Array.getD_eq_getD_getElem?,hsz]
  ·rw [if_neg hj];simp [Array.getD_eq_getD_getElem?,Array.getElem?_setIfInBounds_ne (Ne.symm hj)]
 have hr:List.range m=List.range i++i :: (List.range' (i+1) (m - i - 1)):=by
  rw [List.range_eq_range',List.range_eq_range']
  have h1:List.range' 0 m=List.range' 0 i++List.range' (0+i) (m - i):=by
   rw [List.range'_append_1];congr 1;omega
  rw [h1]
  congr 1
  rw [show m - i=(m - i - 1)+1 by omega,List.range'_succ]
  simp
 refine ⟨(List.range i).filter fun j=>!listed.getD j true,(List.range' (i+1) (m - i - 1)).filter fun j=>!listed.getD j true,?_,?_,?_⟩
 ·unfold rem
  rw [hr,List.filter_append,List.filter_cons]
  simp [hl]
 ·intro k hk
  obtain ⟨h1,h2⟩:=List.mem_filter.1 hk
  exact ⟨List.mem_range.1 h1,by simpa using h2⟩
 ·unfold rem
  rw [hr,List.filter_append,List.filter_cons]
  rw [hset i]
  simp only [if_true,Bool.not_true,Bool.false_eq_true,if_false]
  congr 1
  ·refine List.filter_congr fun j hj=>?_
   have:j ≠ i:=by have:=List.mem_range.1 hj;omega
   rw [hset,if_neg this]
  ·refine List.filter_congr fun j hj=>?_
   have:j ≠ i:=by have:=List.mem_range'_1.1 hj;omega
   rw [hset,if_neg this]
theorem Pu {listed:Array Bool} {j:Nat} (h:listed.getD j true=false):listed.getD j false=false:=by
 rcases Nat.lt_or_ge j listed.size with hs | hs
 ·simp [Array.getD_eq_getD_getElem?,hs] at h ⊢;exact h
 ·simp [Array.getD_eq_getD_getElem?,Array.getElem?_eq_none hs]
section
variable {X:Tab}
theorem ic {s:Nat}:∀ {u:Ups X} {e:Env X},(∀ y∈u,y.1 ≠ s)→applyU e u s=e s
 | [],e,_=>rfl
 | (t,v) :: u,e,h=>by
  simp only [applyU]
  rw [ic fun y hy=>h y (List.mem_cons_of_mem _ hy),bm]
  exact fun hs=>h (t,v) (List.mem_cons_self ..) hs.symm
theorem ya {s:Nat}:∀ {u:Ups X} {e e':Env X},e s=e' s→applyU e u s=applyU e' u s
 | [],e,e',h=>h
 | (t,v) :: u,e,e',h=>by
  simp only [applyU]
  refine ya ?_
  unfold upd;split
  ·rfl
  ·exact h
theorem R3 {u v:Ups X} {e:Env X} (h:∀ y∈u,∀ z∈v,y.1 ≠ z.1):applyU (applyU e u) v=applyU (applyU e v) u:=by
 funext s
 by_cases hu:∃ y∈u,y.1=s
 ·obtain ⟨y,hy,rfl⟩:=hu
  rw [ic fun z hz=>(h y hy z hz).symm]
  exact ya (ic fun z hz=>(h y hy z hz).symm).symm
 ·rw [ic (u:=u) (e:=applyU e v) fun y hy hs=>hu ⟨y,hy,hs⟩]
  exact ya (ic fun y hy hs=>hu ⟨y,hy,hs⟩)
theorem Tw {a b:List Nat} (h:eD a b=true):∀ x∈a,∀ y∈b,x ≠ y:=fun x hx y hy he=>by
 have:=List.all_eq_true.1 (List.all_eq_true.1 h x hx) y hy
 subst he;simp at this
theorem ahh {e e':Env X} {x:AX X} (h:bd (cD e x) e e'):cD e' x=cD e x:=by
 unfold cD
 rw [eM h fun s hs=>List.mem_append_left _ hs]
theorem Rr {e e':Env X} {o:AOpr X} (h:bd (fP e o) e e'):fP e' o=fP e o:=by
 unfold fP
 congr 1
 have:∀ {l:List (AX X)},(∀ x∈l,bd (cD e x) e e')→l.flatMap (cD e')=l.flatMap (cD e):=fun {l} hl=>by
  induction l with
  | nil=>rfl
  | cons x l ih=>
   simp only [List.flatMap_cons]
   rw [ahh (hl x (List.mem_cons_self ..)),ih fun y hy=>hl y (List.mem_cons_of_mem _ hy)]
 exact this fun x hx=>h.sub fun s hs=>List.mem_append_right _ (List.mem_flatMap.2 ⟨x,hx,hs⟩)
end
section
variable {P:Program} {Γ:Cx}
theorem Pq {e e':Env Γ.X}:∀ {l:List (AX Γ.X)},(∀ x∈l,∀ s∈bG x,e' s=e s)→cP e' l=cP e l
 | [],_=>rfl
 | x :: l,h=>by
  simp only [cP]
  have hx:iU e' x=iU e x:=by
   cases x with
   | c _=>rfl
   | t s=>
    have hs:=h (.t s) (List.mem_cons_self ..) s (by simp [bG])
    simp only [iU,hs]
   | v s=>
    have hs:=h (.v s) (List.mem_cons_self ..) s (by simp [bG])
    simp only [iU,hs]
  rw [hx,Pq fun y hy=>h y (List.mem_cons_of_mem _ hy)]
theorem R7 {op:AOp Γ.X}:∀ x∈op.args,x∈op.xs:=fun x hx=>by
 cases op with
 | call f l=>exact hx
 | callv y l=>exact List.mem_cons_of_mem _ hx
 | part i j y=>exact hx
 | _=>cases hx
theorem agq {e:Env Γ.X} {o:AOpr Γ.X} {x:AX Γ.X} (hx:x∈o.op.xs):∀ s∈bG x,s∈fP e o:=fun s hs=>List.mem_append_right _ (List.mem_flatMap.2 ⟨x,hx,List.mem_append_left _ hs⟩)
theorem Qp {e e':Env Γ.X} {o:AOpr Γ.X} (ha:bd (dW e o) e e'):cP e' o.op.args=cP e o.op.args∧bd (fP (pre e o.op) o) (pre e o.op) (pre e' o.op):=by
 have h1:cP e' o.op.args=cP e o.op.args:=Pq fun x hx s hs=>ha s (List.mem_append_left _ (agq (R7 x hx) s hs))
 refine ⟨h1,?_⟩
 unfold pre
 rw [h1]
 exact (ha.sub fun s hs=>List.mem_append_right _ hs).applyU _
theorem ahg {e e':Env Γ.X} {o:AOpr Γ.X} (ha:bd (dW e o) e e'):dW e' o=dW e o:=by
 unfold dW
 rw [Rr (ha.sub fun s hs=>List.mem_append_left _ hs),Rr (Qp ha).2]
theorem Ran.agree {e e':Env Γ.X} {g:Nat} {o:AOpr Γ.X} {us:Ups Γ.X} (h:Ran P e g o us) (ha:bd (dW e o) e e'):Ran P e' g o us:=by
 obtain ⟨ans,us1,h0,h1,h2⟩:=h
 obtain ⟨g1,g2⟩:=Qp ha
 have hs:∀ x∈o.op.xs,ct (fP (pre e o.op) o) (pre e o.op) x:=fun x hx s hs=>List.mem_append_right _ (List.mem_flatMap.2 ⟨x,hx,hs⟩)
 refine ⟨ans,us1,by rw [g1];exact h0,by rw [Wz g2 hs];exact h1,?_⟩
 rw [OA g2 hs]
 exact h2
theorem cu.agree {e e':Env Γ.X} {g:Nat} {o:AOpr Γ.X} {us:Ups Γ.X} (h:cu P e g o us) (ha:bd (dW e o) e e'):cu P e' g o us:=by
 unfold cu at *
 cases hg:o.guard with
 | none=>rw [hg] at h;exact h.agree ha
 | some q=>
  obtain ⟨s,want⟩:=q
  rw [hg] at h
  have hs:=ha s (List.mem_append_left _ (List.mem_append_left _ (by rw [hg];simp)))
  rcases h with ⟨b,ov,h1,h2⟩ | ⟨h1,h2⟩
  ·exact .inl ⟨b,ov,hs.trans h1,h2.imp_left fun h=>⟨h.1,h.2.agree ha⟩⟩
  ·exact .inr ⟨hs.trans h1,h2⟩
theorem Ran.key {e:Env Γ.X} {g:Nat} {o:AOpr Γ.X} {us:Ups Γ.X} (h:Ran P e g o us):∀ y∈us,y.1∈yG e o:=by
 obtain ⟨ans,us1,h0,h1,_⟩:=h
 subst h0
 intro y hy
 rcases List.mem_append.1 hy with hy | hy
 ·exact List.mem_append_left _ (List.mem_map.2 ⟨y,hy,rfl⟩)
 ·exact List.mem_append_right _ (WB h1 y hy)
theorem cu.key {e:Env Γ.X} {g:Nat} {o:AOpr Γ.X} {us:Ups Γ.X} (h:cu P e g o us):∀ y∈us,y.1∈yG e o:=by
 unfold cu at h
 cases hg:o.guard with
 | none=>rw [hg] at h;exact h.key
 | some q=>
  obtain ⟨s,want⟩:=q
  rw [hg] at h
  rcases h with ⟨b,ov,_,h2⟩ | ⟨_,rfl⟩
  ·rcases h2 with ⟨_,h2⟩ | ⟨_,rfl⟩
   ·exact h2.key
   ·intro y hy
    exact List.mem_append_right _ (List.mem_append_left _ (jB hy))
  ·intro y hy
   exact List.mem_append_right _ (List.mem_append_left _ (jB hy))
def dz {X:Tab} (x y:AV X):Prop:=x=y∨(∃ T v v' o,x=.val T v o∧y=.val T v' o)∨∃ g T v v' o,x=.box g T v o∧y=.box g T v' o
theorem dz.symm {X:Tab} {x y:AV X} (h:dz x y):dz y x:=by
 rcases h with rfl | ⟨T,v,v',o,rfl,rfl⟩ | ⟨g,T,v,v',o,rfl,rfl⟩
 ·exact .inl rfl
 ·exact .inr (.inl ⟨T,v',v,o,rfl,rfl⟩)
 ·exact .inr (.inr ⟨g,T,v',v,o,rfl,rfl⟩)
theorem I5 {l m:List Nat} {s:Nat} (h:s∈l) (hm:s ∉ m):s∈iH l m:=by
 refine List.mem_filter.2 ⟨h,?_⟩
 rw [Bool.not_eq_true',Bool.eq_false_iff]
 intro hh
 obtain ⟨x,hx,he⟩:=List.any_eq_true.1 hh
 exact hm ((beq_iff_eq.1 he) ▸ hx)
theorem ahx {l:List Nat}:iH l []=l:=by simp [iH]
theorem lB {e e':Env Γ.X} {x:AX Γ.X} (h:∀ s∈bG x,dz (e s) (e' s)) {b:Base} {q:List PS} (hr:Go.A2.rd e x=.ptr b q):Go.A2.rd e' x=.ptr b q:=by
 have key:∀ n,dz (e n) (e' n)→Go.A2.rd e (.v n)=.ptr b q→Go.A2.rd e' (.v n)=.ptr b q:=fun n hs hr=>by
  simp only [Go.A2.rd] at hr ⊢
  rcases hs with hs | ⟨T,v,v',o,h1,h2⟩ | ⟨g,T,v,v',o,h1,h2⟩
  ·rw [←hs];exact hr
  ·rw [h1] at hr
   cases T<;>cases o<;>cases hr
  ·rw [h1] at hr;rw [h2];exact hr
 cases x with
 | c y=>exact hr
 | t n=>exact key n (h n (by simp [bG])) hr
 | v n=>exact key n (h n (by simp [bG])) hr
theorem adq {e e':Env Γ.X} {n:Nat} (h:dz (e n) (e' n)) {s g:Nat} {q:List PS} (hr:Go.A2.rd e (.v n)=.ref s q g):Go.A2.rd e' (.v n)=.ref s q g:=by
 simp only [Go.A2.rd] at hr ⊢
 rcases h with hs | ⟨T,v,v',o,h1,h2⟩ | ⟨g,T,v,v',o,h1,h2⟩
 ·rw [←hs];exact hr
 ·rw [h1] at hr
  rw [h2]
  cases T<;>cases o<;>first | exact hr | cases hr
 ·rw [h1] at hr;cases hr
theorem og {v:AV Γ.X} {s:Nat} (h:s∈ik v):∃ g q,v=.ptr (.box s g) q:=by
 unfold ik at h
 split at h
 ·rename_i s' g q
  simp only [List.mem_singleton] at h;subst h
  exact ⟨g,q,rfl⟩
 ·cases h
inductive FormOp (e:Env Γ.X) (s:Nat):AOp Γ.X→Prop where
 | fld (i:Γ.X.ι) (j:Nat) (x:AX Γ.X) (g:Nat) (q:List PS) (hr:Go.A2.rd e x=.ptr (.box s g) q):FormOp e s (.fld i j x)
 | load (T:Γ.X.Ty) (x:AX Γ.X) (g:Nat) (q:List PS) (g':Nat) (T0:Γ.X.Ty) (v0:Γ.X.den T0) (o0:Own) (g2:Nat) (hr:Go.A2.rd e x=.ptr (.box s g) q) (hes:e s=.box g' T0 v0 o0) (ho:bf o0 q=.yes g2) (hq:bj q=true):FormOp e s (.load T x)
 | move (x:AX Γ.X) (g:Nat) (q:List PS) (hr:Go.A2.rd e x=.ptr (.box s g) q):FormOp e s (.move x)
 | moveR (n:Nat) (g:Nat) (q:List PS) (hr:Go.A2.rd e (.v n)=.ref s q g):FormOp e s (.move (.v n))
 | nilCheck (x:AX Γ.X) (g:Nat) (q:List PS) (hr:Go.A2.rd e x=.ptr (.box s g) q):FormOp e s (.nilCheck x)
 | idxA (n:Nat) (t:Γ.X.Ty) (x i:AX Γ.X) (g:Nat) (q:List PS) (hr:Go.A2.rd e x=.ptr (.box s g) q):FormOp e s (.idxA n t x i)
 | arrS (b n:Nat) (t:Γ.X.Ty) (x:AX Γ.X) (g:Nat) (q:List PS) (hr:Go.A2.rd e x=.ptr (.box s g) q):FormOp e s (.arrS b n t x none none)
theorem gf {e:Env Γ.X} {op:AOp Γ.X} {s:Nat} (h:s∈cA e op):FormOp e s op:=by
 unfold cA at h
 split at h
 ·rename_i x
  unfold lb at h
  split at h
  ·split at h
   ·rename_i s' q g hr
    simp only [List.mem_singleton] at h;subst h
    exact .moveR _ g q hr
   ·obtain ⟨g,q,hr⟩:=og h;exact .move _ g q hr
  ·obtain ⟨g,q,hr⟩:=og h;exact .move _ g q hr
 ·obtain ⟨g,q,hr⟩:=og h;exact .nilCheck _ g q hr
 ·obtain ⟨g,q,hr⟩:=og h;exact .idxA _ _ _ _ g q hr
 ·obtain ⟨g,q,hr⟩:=og h;exact .arrS _ _ _ _ g q hr
 ·rename_i i j x
  split at h
  ·rename_i s' g q hr
   simp only [List.mem_singleton] at h;subst h
   exact .fld i j x g q hr
  ·cases h
 ·rename_i T x
  split at h
  ·rename_i s' g q hr
   split at h
   ·rename_i g' T0 v0 o0 hes
    split at h
    ·rename_i g2 ho
     split at h
     ·rename_i hq
      simp only [List.mem_singleton] at h;subst h
      exact .load T x g q g' T0 v0 o0 g2 hr hes ho hq
     ·cases h
    ·cases h
   ·cases h
  ·cases h
 ·cases h
theorem WS {e:Env Γ.X} {op:AOp Γ.X} {s t:Nat} (h:s∈cA e op) (h':t∈cA e op):t=s:=by
 cases gf h with
 | fld i j x g q hr=>cases gf h' with
  | fld _ _ _ g' q' hr'=>rw [hr] at hr';cases hr';rfl
 | load T x g q g' T0 v0 o0 g2 hr hes ho hq=>cases gf h' with
  | load _ _ g1 q1 g1' T1 v1 o1 g3 hr'=>rw [hr] at hr';cases hr';rfl
 | move x g q hr=>cases gf h' with
  | move _ g' q' hr'=>rw [hr] at hr';cases hr';rfl
  | moveR _ g' q' hr'=>rw [hr] at hr';cases hr'
 | moveR n g q hr=>cases gf h' with
  | move _ g' q' hr'=>rw [hr] at hr';cases hr'
  | moveR _ g' q' hr'=>rw [hr] at hr';cases hr';rfl
 | nilCheck x g q hr=>cases gf h' with
  | nilCheck _ g' q' hr'=>rw [hr] at hr';cases hr';rfl
 | idxA n t x i g q hr=>cases gf h' with
  | idxA _ _ _ _ g' q' hr'=>rw [hr] at hr';cases hr';rfl
 | arrS b n t x g q hr=>cases gf h' with
  | arrS _ _ _ _ g' q' hr'=>rw [hr] at hr';cases hr';rfl
theorem yZ {e e':Env Γ.X} {s g:Nat} {q:List PS} (h:dz (e s) (e' s)):bZ e' (.box s g) q=bZ e (.box s g) q:=by
 simp only [bZ]
 rcases h with hs | ⟨T,v,v',o,h1,h2⟩ | ⟨g,T,v,v',o,h1,h2⟩
 ·rw [hs]
 ·rw [h1,h2]
 ·rw [h1,h2]
theorem WA {e e':Env Γ.X} {op:AOp Γ.X} {s:Nat} (hs:s∈cA e op) (ha:∀ t∈op.xs.flatMap (cD e),t ≠ s→e' t=e t) (hsoft:dz (e s) (e' s)):
  (∀ ans g d us,eff ans g e d op=some us→eff ans g e' d op=some us)∧cA e' op=cA e op∧op.xs.flatMap (cD e')=op.xs.flatMap (cD e)∧op.args=[]∧∀ e,aX e op=none:=by
 have hn:∀ x∈op.xs,∀ n∈bG x,dz (e n) (e' n):=fun x hx n hnx=>by
  by_cases hns:n=s
  ·subst hns;exact hsoft
  ·exact .inl (ha n (List.mem_flatMap.2 ⟨x,hx,List.mem_append_left _ hnx⟩) hns).symm
 cases gf hs with
 | move x g1 q hr=>
  have hr':=lB (hn x (by simp [AOp.xs])) hr
  have fm:∀ e:Env Γ.X,Go.A2.rd e x=.ptr (.box s g1) q→cA e (.move x)=[s]:=fun e hr=>by
   cases x<;>simp only [cA,lb,hr,ik]
  refine ⟨fun ans g d us h=>?_,by rw [fm e hr,fm e' hr'],by simp [AOp.xs,cD,hr,hr'],rfl,fun _=>rfl⟩
  have mv:∀ e:Env Γ.X,Go.A2.rd e x=.ptr (.box s g1) q→eff ans g e d (.move x)=some (aU d (.ptr (.box s g1) q)):=fun e hr=>by
   cases x with
   | c y=>simp only [Go.A2.rd] at hr;subst hr;rfl
   | t n=>
    simp only [eff]
    have hr0:=hr
    simp only [Go.A2.rd] at hr
    cases hen:e n with
    | val T v o=>rw [hen] at hr;cases T<;>cases o<;>cases hr
    | tup l=>rw [hen] at hr;cases hr
    | ref=>rw [hen] at hr;cases hr
    | fnew=>rw [hen] at hr;cases hr
    | _=>simp only [hr0]
   | v n=>
    simp only [eff]
    have hr0:=hr
    simp only [Go.A2.rd] at hr
    cases hen:e n with
    | val T v o=>rw [hen] at hr;cases T<;>cases o<;>cases hr
    | tup l=>rw [hen] at hr;cases hr
    | fnew=>rw [hen] at hr;cases hr
    | _=>simp only [hr0]
  rw [mv e hr] at h
  rw [mv e' hr'];exact h
 | moveR n g1 q hr=>
  have hr':=adq (hn (.v n) (by simp [AOp.xs]) n (by simp [bG])) hr
  refine ⟨fun ans g d us h=>?_,by simp only [cA,lb,hr,hr'],by simp [AOp.xs,cD,hr,hr'],rfl,fun _=>rfl⟩
  have mv:∀ e:Env Γ.X,Go.A2.rd e (.v n)=.ref s q g1→eff ans g e d (.move (.v n))=some (aU d (.ref s q g1)):=fun e hr=>by
   simp only [eff]
   have hr0:=hr
   simp only [Go.A2.rd] at hr
   cases hen:e n with
   | val T v o=>rw [hen] at hr;cases T<;>cases o<;>first | (cases hr;done) | (simp only [AV.ref.injEq] at hr;obtain ⟨rfl,rfl,rfl⟩:=hr;rfl)
   | tup l=>rw [hen] at hr;cases hr
   | fnew=>rw [hen] at hr;cases hr
   | _=>simp only [hr0]
  rw [mv e hr] at h
  rw [mv e' hr'];exact h
 | nilCheck x g1 q hr=>
  have hr':=lB (hn x (by simp [AOp.xs])) hr
  refine ⟨fun ans g d us h=>?_,by simp only [cA,hr,hr'],by simp [AOp.xs,cD,hr,hr'],rfl,fun _=>rfl⟩
  simp only [eff,hr] at h
  simp only [eff,hr']
  rw [yZ hsoft]
  exact h
 | arrS b n t x g1 q hr=>
  have hr':=lB (hn x (by simp [AOp.xs])) hr
  refine ⟨fun ans g d us h=>?_,by simp only [cA,hr,hr'],by simp [AOp.xs,cD,hr,hr'],rfl,fun _=>rfl⟩
  simp only [eff,cL,hr] at h
  simp only [eff,cL,hr']
  rw [yZ hsoft]
  exact h
 | idxA n t x i g1 q hr=>
  have hr':=lB (hn x (by simp [AOp.xs])) hr
  have hi:∀ (hp:bZ e (.box s g1) q=some (.arr n t)),Go.A2.rd e' i=Go.A2.rd e i:=fun hp=>by
   have hbox:∃ g' T v o,e s=.box g' T v o:=by
    simp only [bZ] at hp
    split at hp
    ·rename_i g' T v o hes;exact ⟨g',T,v,o,hes⟩
    ·cases hp
   obtain ⟨g',T,v,o,hes⟩:=hbox
   obtain ⟨v',hes'⟩:∃ v',e' s=.box g' T v' o:=by
    rcases hsoft with h | ⟨T1,v1,v1',o1,h1,h2⟩ | ⟨g3,T1,v1,v1',o1,h1,h2⟩
    ·exact ⟨v,by rw [←h,hes]⟩
    ·rw [hes] at h1;cases h1
    ·rw [hes] at h1;cases h1;exact ⟨v1',h2⟩
   have key:∀ m,(m ≠ s→e' m=e m)→Go.A2.rd e' (.v m)=Go.A2.rd e (.v m):=fun m hm=>by
    by_cases hms:m=s
    ·subst hms;simp only [Go.A2.rd,hes,hes']
    ·simp only [Go.A2.rd,hm hms]
   cases i with
   | c y=>rfl
   | t m=>exact key m fun hm=>ha m (List.mem_flatMap.2 ⟨.t m,by simp [AOp.xs],List.mem_append_left _ (by simp [bG])⟩) hm
   | v m=>exact key m fun hm=>ha m (List.mem_flatMap.2 ⟨.v m,by simp [AOp.xs],List.mem_append_left _ (by simp [bG])⟩) hm
  have hfo:cA e' (.idxA n t x i)=cA e (.idxA n t x i):=by simp only [cA,hr,hr']
  have hro:aL (Go.A2.rd e' i)=aL (Go.A2.rd e i):=by
   have key:∀ m,dz (e m) (e' m)→aL (Go.A2.rd e' (.v m))=aL (Go.A2.rd e (.v m)):=fun m hm=>by
    rcases hm with hm | ⟨T,v,v',o,h1,h2⟩ | ⟨g,T,v,v',o,h1,h2⟩
    ·simp only [Go.A2.rd,hm]
    ·simp only [Go.A2.rd,h1,h2]
     cases T<;>cases o<;>rfl
    ·simp only [Go.A2.rd,h1,h2]
   cases i with
   | c y=>rfl
   | t m=>exact key m (hn (.t m) (by simp [AOp.xs]) m (by simp [bG]))
   | v m=>exact key m (hn (.v m) (by simp [AOp.xs]) m (by simp [bG]))
  refine ⟨fun ans g d us h=>?_,hfo,by simp [AOp.xs,cD,hr,hr',hro],rfl,fun _=>rfl⟩
  by_cases hp:bZ e (.box s g1) q=some (.arr n t)
  ·have hri':=hi hp
   cases hri:Go.A2.rd e i with
   | val T v o=>cases T with
    | int k=>
     simp only [eff,hr,hri,hp,if_true] at h
     simp only [eff,hr',hri',hri,yZ hsoft,hp,if_true]
     exact h
    | _=>simp only [eff,hr,hri] at h;cases h
   | _=>simp only [eff,hr,hri] at h;cases h
  ·exfalso
   simp only [eff,hr] at h
   split at h
   ·rename_i h1 h2
    cases h1
    rw [if_neg hp] at h;cases h
   ·rename_i h1 h2;cases h1
   ·cases h
 | fld i j x g1 q hr=>
  have hr':=lB (hn x (by simp [AOp.xs])) hr
  refine ⟨fun ans g d us h=>?_,by simp only [cA,hr,hr'],by simp [AOp.xs,cD,hr,hr'],rfl,fun _=>rfl⟩
  simp only [eff,hr] at h
  simp only [eff,hr']
  rw [yZ hsoft]
  exact h
 | load T x g1 q g' T0 v0 o0 g2 hr hes ho hq=>
  have hr':=lB (hn x (by simp [AOp.xs])) hr
  obtain ⟨v0',hes'⟩:∃ v0',e' s=.box g' T0 v0' o0:=by
   rcases hsoft with h | ⟨T,v,v',o,h1,h2⟩ | ⟨g,T,v,v',o,h1,h2⟩
   ·exact ⟨v0,by rw [←h,hes]⟩
   ·rw [hes] at h1;cases h1
   ·rw [hes] at h1;cases h1;exact ⟨v',h2⟩
  refine ⟨fun ans g d us h=>?_,by simp only [cA,hr,hr',hes,hes'],by simp [AOp.xs,cD,hr,hr'],rfl,fun _=>rfl⟩
  simp only [eff,hr,ei,hes] at h
  simp only [eff,hr',ei,hes']
  split at h
  ·rename_i hg
   rw [if_pos hg]
   split at h
   ·rename_i T1 x1 hgq
    obtain ⟨x2,hx2⟩:=fF v0' (dw hq hgq)
    rw [hx2]
    simp only []
    split at h
    ·rename_i y hy
     obtain ⟨hT,_⟩:=bl hy
     cases hT
     rw [iY]
     simp only [ho] at h ⊢
     rw [if_pos hq]
     exact h
    ·cases h
   ·cases h
  ·cases h
theorem cu.soft {e e':Env Γ.X} {g:Nat} {o:AOpr Γ.X} {us:Ups Γ.X} (h:cu P e g o us) (ha:∀ s∈iH (dW e o) (dQ e o),e' s=e s) (hs:∀ s∈dQ e o,dz (e s) (e' s)):
  cu P e' g o us∧dQ e' o=dQ e o∧dW e' o=dW e o:=by
 by_cases hf:dQ e o=[]
 ·have hag:bd (dW e o) e e':=fun s hs=>ha s (by rw [hf,ahx];exact hs)
  refine ⟨h.agree hag,?_,ahg hag⟩
  have hx:∀ x∈o.op.xs,bd (cD e x) e e':=fun x hx s hs=>hag s (List.mem_append_left _ (List.mem_append_right _ (List.mem_flatMap.2 ⟨x,hx,hs⟩)))
  unfold dQ
  split
  ·unfold cA
   split
   ·rename_i x hop
    have hxx:=hx x (by rw [hop];simp [AOp.xs])
    have hrx:Go.A2.rd e' x=Go.A2.rd e x:=eM hxx fun s hs=>List.mem_append_left _ hs
    cases x with
    | c y=>rfl
    | t n=>simp only [lb];rw [hrx]
    | v n=>simp only [lb];rw [hrx]
   ·rename_i x hop
    have hxx:=hx x (by rw [hop];simp [AOp.xs])
    rw [eM hxx fun s hs=>List.mem_append_left _ hs]
   ·rename_i n t x i hop
    have hxx:=hx x (by rw [hop];simp [AOp.xs])
    rw [eM hxx fun s hs=>List.mem_append_left _ hs]
   ·rename_i b n t x hop
    have hxx:=hx x (by rw [hop];simp [AOp.xs])
    rw [eM hxx fun s hs=>List.mem_append_left _ hs]
   ·rename_i i j x hop
    have hxx:=hx x (by rw [hop];simp [AOp.xs])
    rw [eM hxx fun s hs=>List.mem_append_left _ hs]
   ·rename_i T x hop
    have hxx:=hx x (by rw [hop];simp [AOp.xs])
    rw [eM hxx fun s hs=>List.mem_append_left _ hs]
    split
    ·rename_i s g1 q hr
     rw [hxx s (List.mem_append_right _ (by rw [hr];simp [aL,a8,aP]))]
    ·rfl
   ·rfl
  ·rfl
 ·have hgn:o.guard=none:=by
   cases hg:o.guard with
   | none=>rfl
   | some q=>exact absurd (by simp [dQ,hg]) hf
  have hfo:dQ e o=cA e o.op:=by simp [dQ,hgn]
  rw [hfo] at ha hs hf
  obtain ⟨s,hsf⟩:=List.exists_mem_of_ne_nil _ hf
  have hone:∀ t∈cA e o.op,t=s:=fun t ht=>WS hsf ht
  have hagx:∀ t∈o.op.xs.flatMap (cD e),t ≠ s→e' t=e t:=fun t ht hts=>ha t (I5 (List.mem_append_left _ (List.mem_append_right _ ht)) fun hm=>hts (hone t hm))
  obtain ⟨k1,k2,k3,k4,k5⟩:=WA hsf hagx (hs s hsf)
  have hpre:∀ e:Env Γ.X,pre e o.op=e:=fun e=>by simp [pre,k4,cP,applyU]
  refine ⟨?_,?_,?_⟩
  ·unfold cu at h ⊢
   rw [hgn] at h ⊢
   obtain ⟨ans,us1,q0,q1,q2⟩:=h
   rw [hpre] at q1
   exact ⟨ans,us1,by rw [k4] at q0 ⊢;exact q0,by rw [hpre];exact k1 _ _ _ _ q1,fun f as hc=>by rw [k5] at hc;cases hc⟩
  ·simp only [dQ,hgn];exact k2
  ·unfold dW
   rw [hpre,hpre]
   unfold fP
   rw [k3]
theorem cu.softW {e:Env Γ.X} {g:Nat} {o:AOpr Γ.X} {us:Ups Γ.X} (h:cu P e g o us):∀ s,s ∉ iH (yG e o) (jN e o)→dz (e s) (applyU e us s):=fun s hs=>by
 by_cases hsw:s∈jN e o
 ·
  have hgn:o.guard=none:=by
   cases hg:o.guard with
   | none=>rfl
   | some q=>simp [jN,hg] at hsw
  have hsw:s∈Go.A2.softW e o.op:=by simpa [jN,hgn] using hsw
  have hop:∃ T x v,o.op=.store T x v∧tk e v=[]∧((∃ q g1 i r,Go.A2.rd e x=.ptr (.elem s q g1 i) r)∨∃ g1 r,Go.A2.rd e x=.ptr (.box s g1) r∧yN e v=true∧G1 (e s) r=true):=by
   unfold Go.A2.softW at hsw
   split at hsw
   ·rename_i T x v hop
    split at hsw
    ·rename_i htk
     split at hsw
     ·rename_i s' q g1 i r hr
      simp only [List.mem_singleton] at hsw;subst hsw
      exact ⟨T,x,v,hop,htk,.inl ⟨q,g1,i,r,hr⟩⟩
     ·rename_i s' g1 r hr
      split at hsw
      ·rename_i hm
       rw [Bool.and_eq_true] at hm
       simp only [List.mem_singleton] at hsw;subst hsw
       exact ⟨T,x,v,hop,htk,.inr ⟨g1,r,hr,hm⟩⟩
      ·cases hsw
     ·cases hsw
    ·cases hsw
   ·cases hsw
  obtain ⟨T,x,v,hop,htk,hkind⟩:=hop
  have hran:Ran P e g o us→dz (e s) (applyU e us s):=fun ⟨ans,us1,q0,q1,_⟩=>by
   have hp:pre e o.op=e:=by simp [pre,hop,AOp.args,cP,applyU]
   rw [hop] at q0 q1
   simp only [AOp.args,cP,List.nil_append] at q0
   subst q0
   rw [show pre e (.store T x v)=e by rw [←hop];exact hp] at q1
   simp only [eff] at q1
   split at q1
   ·rename_i T' v' m u ht
    have hu:u=[]:=by
     have:=qy ht
     rw [htk] at this
     cases u with
     | nil=>rfl
     | cons y u=>exact absurd (this y (List.mem_cons_self ..)) (by simp)
    subst hu
    split at q1
    ·rename_i v1 hv1
     obtain ⟨us2,h2,rfl⟩:=Option.map_eq_some_iff.1 q1
     simp only [applyU,List.nil_append] at h2 ⊢
     rcases hkind with ⟨q,g1,i,r,hr⟩ | ⟨g1,r,hr,hmn,hkm⟩
     rotate_left
     ·have hm:m=.no:=by
       cases v with
       | c y=>cases y with
        | val T2 v2 o2=>
         cases o2<;>first | cases hmn | skip
         simp only [take,Own.pure,if_true,Option.some.injEq,Taken.mk.injEq] at ht
         exact ht.2.2.1.symm
        | _=>cases hmn
       | t n=>
        simp only [yN] at hmn
        cases hen:e n with
        | val T2 v2 o2=>
         rw [hen] at hmn
         simp only [take,hen] at ht
         cases o2<;>first | cases hmn | skip
         cases ht;rfl
        | _=>rw [hen] at hmn;cases hmn
       | v n=>
        simp only [yN] at hmn
        cases hen:e n with
        | val T2 v2 o2=>
         rw [hen] at hmn
         simp only [take,hen] at ht
         cases o2<;>first | cases hmn | skip
         cases ht;rfl
        | _=>rw [hen] at hmn;cases hmn
      subst hm
      rw [hr] at h2
      simp only [storeV] at h2
      split at h2
      ·rename_i g' T0 v0 o0 hes
       split at h2
       ·split at h2
        ·rename_i v1' o1 _ hO
         cases h2
         have:o1=o0:=by
          unfold G1 at hkm
          rw [hes] at hkm
          simp only [] at hkm
          rw [show a9 o0 r .no=some o1 from hO] at hkm
          exact Own.eqb_eq hkm
         subst this
         exact .inr (.inr ⟨g',T0,v0,v1',o1,hes,by simp [applyU,upd]⟩)
        ·cases h2
       ·cases h2
      ·cases h2
     rw [hr] at h2
     simp only [storeV] at h2
     split at h2
     ·split at h2
      ·split at h2
       ·rename_i _ T0 v0 o0 _ hes
        obtain ⟨z,_,rfl⟩:=Option.map_eq_some_iff.1 h2
        exact .inr (.inl ⟨T0,v0,z,o0,hes,by simp [applyU,upd]⟩)
       ·rename_i _ g' T0 v0 o0 _ hes
        obtain ⟨z,_,rfl⟩:=Option.map_eq_some_iff.1 h2
        exact .inr (.inr ⟨g',T0,v0,z,o0,hes,by simp [applyU,upd]⟩)
       ·cases h2
      ·cases h2
     ·cases h2
    ·cases q1
   ·cases q1
  unfold cu at h
  rw [hgn] at h
  exact hran h
 ·refine .inl (ic fun y hy hys=>hs ?_).symm
  exact I5 (hys ▸ h.key y hy) hsw
structure Reads (e:Env Γ.X) (o:AOpr Γ.X) (f:Foot):Prop where
 r:∀ s∈iH (dW e o) (dQ e o),s∈f.rs
 h:∀ s∈dQ e o,s∈f.hs
structure Writes (e:Env Γ.X) (us:Ups Γ.X) (f:Foot):Prop where
 w:∀ y∈us,y.1∈f.ws∨y.1∈f.es
 s:∀ s,s ∉ f.ws→dz (e s) (applyU e us s)
def fi (P:Program) (al:List (AOpr Γ.X)) (us:Nat→Ups Γ.X) (ft:Nat→Foot):List Nat→Env Γ.X→Prop
 | [],_=>True
 | i :: l,e=>∃ o,al[i]?=some o∧cu P e (i+1) o (us i)∧Reads e o (ft i)∧Writes e (us i) (ft i)∧fi P al us ft l (applyU e (us i))
def fin (us:Nat→Ups Γ.X):List Nat→Env Γ.X→Env Γ.X
 | [],e=>e
 | i :: l,e=>fin us l (applyU e (us i))
theorem fi.congr {al:List (AOpr Γ.X)} {us us':Nat→Ups Γ.X} {ft ft':Nat→Foot}:∀ {l:List Nat} {e:Env Γ.X},(∀ i∈l,us' i=us i∧ft' i=ft i)→fi P al us ft l e→fi P al us' ft' l e
 | [],e,_,_=>trivial
 | i :: l,e,h,⟨o,h1,h2,h3,h4,h5⟩=>by
  obtain ⟨g1,g2⟩:=h i (List.mem_cons_self ..)
  refine ⟨o,h1,by rw [g1];exact h2,by rw [g2];exact h3,by rw [g1,g2];exact h4,?_⟩
  rw [g1]
  exact fi.congr (fun j hj=>h j (List.mem_cons_of_mem _ hj)) h5
theorem Pc {us us':Nat→Ups Γ.X}:∀ {l:List Nat} {e:Env Γ.X},(∀ i∈l,us' i=us i)→fin us' l e=fin us l e
 | [],e,_=>rfl
 | i :: l,e,h=>by
  simp only [fin]
  rw [h i (List.mem_cons_self ..),Pc fun j hj=>h j (List.mem_cons_of_mem _ hj)]
theorem O5 {C:CK Γ.X} (hC:eS P C) {al:List (AOpr Γ.X)} {ms:List Nat} {k:Env Γ.X→Option (Ret Γ.X)} {r:Ret Γ.X}:∀ {l pre:List (AOpr Γ.X)} {fs:List Foot} {e:Env Γ.X},al=pre++l→fs.length=pre.length→
  fZ C (pre.length+1) l (ms.drop pre.length) fs e k=some r→∃ (us:Nat→Ups Γ.X) (ft:Nat→Foot),(∀ (i:Nat) f,fs[i]?=some f→ft i=f)∧fi P al us ft (List.range' pre.length l.length) e ∧
   (∀ i,pre.length≤i→i < al.length→∀ j,j < i→(ms.getD i 0).testBit j=true∨apart (ft j) (ft i)=true)∧k (fin us (List.range' pre.length l.length) e)=some r
 | [],pre,fs,e,hal,hfs,h=>by
  refine ⟨fun _=>[],fun i=>(fs[i]?).getD ⟨[],[],[],[]⟩,fun i f hf=>by simp [hf],trivial,fun i hi hl=>?_,h⟩
  rw [hal] at hl;simp at hl;omega
 | o :: l,pre,fs,e,hal,hfs,h=>by
  simp only [fZ] at h
  split at h
  ·rename_i hap
   obtain ⟨u,h1,h2⟩:=Rh hC h
   rw [List.tail_drop] at h2
   obtain ⟨us,ft,k1,k2,k3,k4⟩:=O5 hC (al:=al) (ms:=ms) (l:=l) (pre:=pre++[o]) (fs:=fs++[GL e o]) (e:=applyU e u) (by rw [hal];simp) (by simp [hfs]) (by simpa using h2)
   have hfto:ft pre.length=GL e o:=k1 pre.length _ (by simp [←hfs])
   have hon:al[pre.length]?=some o:=by rw [hal];simp
   have hlen:(pre++[o]).length=pre.length+1:=by simp
   rw [hlen] at k2 k3 k4
   have hc:∀ i∈List.range' (pre.length+1) l.length,(if i=pre.length then u else us i)=us i:=fun i hi=>by
    have:=List.mem_range'_1.1 hi
    rw [if_neg (by omega)]
   refine ⟨fun i=>if i=pre.length then u else us i,ft,fun i f hf=>k1 i f ?_,?_,?_,?_⟩
   ·rw [List.getElem?_append_left (List.getElem?_eq_some_iff.1 hf).1];exact hf
   ·rw [List.length_cons,List.range'_succ]
    refine ⟨o,hon,?_,?_,?_,?_⟩
    ·simpa using h1
    ·rw [hfto];exact ⟨fun s hs=>hs,fun s hs=>hs⟩
    ·rw [hfto]
     simp only [if_true]
     refine ⟨fun y hy=>?_,fun s hs=>h1.softW s hs⟩
     by_cases hsw:y.1∈jN e o
     ·exact .inr hsw
     ·exact .inl (I5 (h1.key y hy) hsw)
    ·simp only [if_true]
     exact fi.congr (fun i hi=>⟨hc i hi,rfl⟩) k2
   ·intro i hi hl j hj
    by_cases hip:i=pre.length
    ·subst hip
     obtain ⟨fj,hfj⟩:∃ fj,fs[j]?=some fj:=⟨_,List.getElem?_eq_getElem (by omega)⟩
     have:=List.all_eq_true.1 hap (fj,j) (List.mem_zipIdx_iff_getElem?.2 hfj)
     rw [hfto,k1 j fj (by rw [List.getElem?_append_left (List.getElem?_eq_some_iff.1 hfj).1];exact hfj)]
     have hm:(ms.drop pre.length).headD 0=ms.getD pre.length 0:=by
      rw [List.headD_eq_head?_getD,List.head?_drop,List.getD_eq_getElem?_getD]
     rw [hm] at this
     exact Bool.or_eq_true_iff.1 this
    ·exact k3 i (by omega) hl j hj
   ·rw [List.length_cons,List.range'_succ]
    simp only [fin,if_true]
    rw [Pc hc]
    exact k4
  ·cases h
theorem RZ {a b:Foot} (h:apart a b=true):(∀ x,x∈a.ws∨x∈a.es→x ∉ b.rs∧x ∉ b.ws∧x ∉ b.es)∧(∀ x∈a.ws,x ∉ b.hs)∧(∀ x,x∈b.ws∨x∈b.es→x ∉ a.rs∧x ∉ a.ws∧x ∉ a.es)∧∀ x∈b.ws,x ∉ a.hs:=by
 unfold apart at h
 simp only [Bool.and_eq_true] at h
 obtain ⟨h1,h2,h3,h4,h5,h6,h7,h8,h9,h10⟩:=h
 have d:∀ {a b:List Nat},eD a b=true→∀ x∈a,x ∉ b:=fun h x hx hb=>Tw h x hx x hb rfl
 refine ⟨fun x hx=>?_,d h2,fun x hx=>?_,d h5⟩
 ·rcases hx with hx | hx
  ·exact ⟨d h1 x hx,d h7 x hx,d h8 x hx⟩
  ·exact ⟨d h3 x hx,d h9 x hx,d h10 x hx⟩
 ·rcases hx with hx | hx
  ·exact ⟨d h4 x hx,fun hh=>d h7 x hh hx,fun hh=>d h9 x hh hx⟩
  ·exact ⟨d h6 x hx,fun hh=>d h8 x hh hx,fun hh=>d h10 x hh hx⟩
theorem Qb {e e':Env Γ.X} {i:Nat} {o:AOpr Γ.X} {us:Ups Γ.X} {f:Foot} (ht:cu P e i o us) (hr:Reads e o f) (hw:Writes e us f) (h1:∀ s,s∈f.rs∨s∈f.ws∨s∈f.es→e' s=e s) (h2:∀ s∈f.hs,dz (e s) (e' s)):
  cu P e' i o us∧Reads e' o f∧Writes e' us f:=by
 obtain ⟨k1,k2,k3⟩:=ht.soft (e':=e') (fun s hs=>h1 s (.inl (hr.r s hs))) fun s hs=>h2 s (hr.h s hs)
 refine ⟨k1,⟨by rw [k2,k3];exact hr.r,by rw [k2];exact hr.h⟩,hw.w,fun s hs=>?_⟩
 by_cases hes:s∈f.es
 ·have:=hw.s s hs
  rw [ya (u:=us) (e:=e) (e':=e') (h1 s (.inr (.inr hes))).symm] at this
  rw [h1 s (.inr (.inr hes))]
  exact this
 ·refine .inl (ic fun y hy hys=>?_).symm
  rcases hw.w y hy with h | h
  ·exact hs (hys ▸ h)
  ·exact hes (hys ▸ h)
theorem Writes.off {e:Env Γ.X} {us:Ups Γ.X} {f:Foot} (h:Writes e us f) {s:Nat} (h1:s ∉ f.ws) (h2:s ∉ f.es):applyU e us s=e s:=
 ic fun y hy hys=>by
  rcases h.w y hy with h | h
  ·exact h1 (hys ▸ h)
  ·exact h2 (hys ▸ h)
theorem Oy {al:List (AOpr Γ.X)} {us:Nat→Ups Γ.X} {ft:Nat→Foot} {i:Nat} (q:List Nat):∀ (p:List Nat) {e:Env Γ.X},(∀ k∈p,apart (ft k) (ft i)=true)→fi P al us ft (p++i :: q) e→
  (∃ o,al[i]?=some o∧cu P e (i+1) o (us i)∧Reads e o (ft i)∧Writes e (us i) (ft i))∧fi P al us ft (p++q) (applyU e (us i))∧fin us (p++q) (applyU e (us i))=fin us (p++i :: q) e
 | [],e,_,⟨o,h1,h2,h3,h4,h5⟩=>⟨⟨o,h1,h2,h3,h4⟩,h5,rfl⟩
 | k :: p,e,ha,⟨ok,h1,h2,h3,h4,h5⟩=>by
  obtain ⟨⟨oi,g1,g2,g3,g4⟩,g5,g6⟩:=Oy q p (fun j hj=>ha j (List.mem_cons_of_mem _ hj)) h5
  obtain ⟨a1,a2,a3,a4⟩:=RZ (ha k (List.mem_cons_self ..))
  have offk:∀ s,s∈(ft i).rs∨s∈(ft i).ws∨s∈(ft i).es→applyU e (us k) s=e s:=fun s hs=>by
   have hn:s ∉ (ft k).ws∧s ∉ (ft k).es:=⟨fun hh=>by obtain ⟨b1,b2,b3⟩:=a1 s (.inl hh);rcases hs with h | h | h<;>contradiction,fun hh=>by obtain ⟨b1,b2,b3⟩:=a1 s (.inr hh);rcases hs with h | h | h<;>contradiction⟩
   exact h4.off hn.1 hn.2
  obtain ⟨m1,m2,m3⟩:=Qb (e':=e) g2 g3 g4 (fun s hs=>(offk s hs).symm) fun s hs=>(h4.s s fun hh=>a2 s hh hs).symm
  have offi:∀ s,s∈(ft k).rs∨s∈(ft k).ws∨s∈(ft k).es→applyU e (us i) s=e s:=fun s hs=>by
   have hn:s ∉ (ft i).ws∧s ∉ (ft i).es:=⟨fun hh=>by obtain ⟨b1,b2,b3⟩:=a3 s (.inl hh);rcases hs with h | h | h<;>contradiction,fun hh=>by obtain ⟨b1,b2,b3⟩:=a3 s (.inr hh);rcases hs with h | h | h<;>contradiction⟩
   exact m3.off hn.1 hn.2
  obtain ⟨n1,n2,n3⟩:=Qb (e':=applyU e (us i)) h2 h3 h4 offi fun s hs=>m3.s s fun hh=>a4 s hh hs
  have hcomm:applyU (applyU e (us k)) (us i)=applyU (applyU e (us i)) (us k):=R3 fun y hy z hz hyz=>by
   have hy':=h4.w y hy
   have hz':=g4.w z hz
   rw [hyz] at hy'
   obtain ⟨_,b2,b3⟩:=a1 z.1 hy'
   rcases hz' with h | h
   ·exact b2 h
   ·exact b3 h
  refine ⟨⟨oi,g1,m1,m2,m3⟩,⟨ok,h1,n1,n2,n3,?_⟩,?_⟩
  ·rw [←hcomm];exact g5
  ·simp only [List.cons_append,fin]
   rw [←hcomm];exact g6
end
end Go.A2
namespace Go.A2
section
variable {P:Program} {Γ:Cx}
section
variable {K:List Nat} {N:Slots} {F0 B U:Nat→Prop} {w0:World} {e:Env Γ.X} {a:Act} {w:World} {C:CK Γ.X}
def I1 (listed:Array Bool) (g:Nat):Prop:=g < 1∨∃ i,g=i+1∧listed.getD i false=true
theorem Sim.any (hX:TabOk Γ.X) {n:Nat} {lent:List Nat} (hN:N.fits n lent) {ops:Array Oper} {al:List (AOpr Γ.X)} (hal:aW (cN P Γ K n lent ops) ops.toList=some al) (hok:F7 ops=true) {us:Nat→Ups Γ.X} {ft:Nat→Foot}
  (hpair:∀ i,i < ops.size→∀ j,j < i→((jA ops.toList).getD i 0).testBit j=true∨apart (ft j) (ft i)=true) {Q:Exit→Act→World→Prop} {e':Env Γ.X}:
  ∀ (aa:Nat) (listed:Array Bool) {e:Env Γ.X} {a:Act} {w:World},listed.size=ops.size→(rem listed ops.size).length=aa→AD ops listed→Sim N F0 B (I1 listed) w0 e a w→fi P al us ft (rem listed ops.size) e→fin us (rem listed ops.size) e=e'→
  (∀ U a' w',(∀ g,U g→g < ops.size+1)→Sim N F0 B U w0 e' a' w'→Q .normal a' w')→wpAny P .any ops Q aa listed a w:=by
 have hback:∀ (j:Nat) o,ops[j]?=some o→∀ e∈o.after,Region.binds .any e=true→e.on < j:=fun j o hj ed he hb=>by
  have:=List.all_eq_true.1 hok (o,j) (by rw [List.mem_zipIdx_iff_getElem?];simpa using hj)
  have:=Array.all_eq_true_iff_forall_mem.1 this ed he
  simpa [hb] using this
 have hused:∀ {listed:Array Bool},listed.size=ops.size→∀ g,I1 listed g→g < ops.size+1:=fun {listed} hsz g hg=>by
  rcases hg with hg | ⟨i,rfl,hi⟩
  ·omega
  ·rcases Nat.lt_or_ge i listed.size with h | h
   ·omega
   ·simp [Array.getD_eq_getD_getElem?,Array.getElem?_eq_none h] at hi
 intro aa
 induction aa with
 | zero=>
  intro listed e a w hsz hrem hcl h hch hr hQ
  have hnil:rem listed ops.size=[]:=List.eq_nil_of_length_eq_zero hrem
  rw [hnil] at hr
  simp only [fin] at hr;subst hr
  refine ⟨?_,hQ _ _ _ (hused hsz) h⟩
  cases hrd:Region.ready .any ops listed with
  | nil=>rfl
  | cons j l=>
   have hj:=mem_ready.1 (show j∈Region.ready .any ops listed by rw [hrd];simp)
   obtain ⟨h1,o,ho,_⟩:=hj
   have:j∈rem listed ops.size:=List.mem_filter.2 ⟨List.mem_range.2 (Array.getElem?_eq_some_iff.1 ho).1,by rw [h1];rfl⟩
   rw [hnil] at this;cases this
 | succ aa ih=>
  intro listed e a w hsz hrem hcl h hch hr hQ
  have ready_of:∀ i,i∈Region.ready .any ops listed→i < ops.size∧listed.getD i true=false∧∃ o,ops[i]?=some o∧∀ ed∈o.after,Region.binds .any ed=true→listed.getD ed.on false=true:=fun i hi=>by
   obtain ⟨h1,o,ho,h2⟩:=mem_ready.1 hi
   exact ⟨(Array.getElem?_eq_some_iff.1 ho).1,h1,o,ho,h2⟩
  refine ⟨fun hnil=>?_,fun i hi=>?_⟩
  ·exfalso
   cases hrm:rem listed ops.size with
   | nil=>rw [hrm] at hrem;cases hrem
   | cons j l=>
    have hj:j∈rem listed ops.size:=by rw [hrm];simp
    obtain ⟨hj1,hj2⟩:=List.mem_filter.1 hj
    have hjl:listed.getD j true=false:=by simpa using hj2
    have hjs:=List.mem_range.1 hj1
    have least:∀ k,k < j→listed.getD k false=true:=fun k hk=>by
     obtain ⟨p,q,h1,h2,_⟩:=QA hjs hjl
     cases hp:p with
     | nil=>
      cases hkl:listed.getD k false with
      | true=>rfl
      | false=>
       exfalso
       have hk':listed.getD k true=false:=by
        have:k < listed.size:=by omega
        simp [Array.getD_eq_getD_getElem?,this] at hkl ⊢;exact hkl
       have:k∈rem listed ops.size:=List.mem_filter.2 ⟨List.mem_range.2 (by omega),by rw [hk'];rfl⟩
       rw [h1,hp] at this
       have hpw:(rem listed ops.size).Pairwise (· < ·):=List.Pairwise.filter _ (List.pairwise_lt_range)
       rw [h1,hp] at hpw
       simp only [List.nil_append,List.mem_cons] at this
       rcases this with h3 | h3
       ·omega
       ·have:=(List.pairwise_cons.1 hpw).1 k h3;omega
     | cons x p'=>
      exfalso
      rw [hrm] at h1
      rw [hp] at h1 h2
      simp only [List.cons_append,List.cons.injEq] at h1
      have:=(h2 x (by simp)).1
      omega
    have:j∈Region.ready .any ops listed:=mem_ready.2 ⟨hjl,ops[j],Array.getElem?_eq_getElem hjs,fun ed he hb=>least _ (hback j _ (Array.getElem?_eq_getElem hjs) ed he hb)⟩
    rw [hnil] at this;cases this
  ·obtain ⟨his,hil,o,ho,hedges⟩:=ready_of i hi
   obtain ⟨p,q,h1,h2,h3⟩:=QA his hil
   rw [h1] at hr hch
   have hap:∀ k∈p,apart (ft k) (ft i)=true:=fun k hk=>by
    obtain ⟨hki,hkl⟩:=h2 k hk
    rcases hpair i his k hki with hbit | hin
    ·have:=SP hcl i o ho hedges k hbit
     rw [Pu hkl] at this;cases this
    ·exact hin
   obtain ⟨⟨oi,hoi,htook,_,_⟩,hch1,hfin⟩:=Oy q p hap hch
   have hco:cN P Γ K n lent ops o=some oi:=by
    obtain ⟨hl1,hl2⟩:=cI hal
    obtain ⟨oi1,g2,g1⟩:=hl2 i o (by simpa using ho)
    rw [hoi] at g2;cases g2;exact g1
   have hset:∀ j,(listed.setIfInBounds i true).getD j false=if j=i then true else listed.getD j false:=fun j=>by
    by_cases hj:j=i
    ·subst hj;simp [Array.getD_eq_getD_getElem?,hsz,his]
    ·rw [if_neg hj];simp [Array.getD_eq_getD_getElem?,Array.getElem?_setIfInBounds_ne (Ne.symm hj)]
   have hcl':AD ops (listed.setIfInBounds i true):=fun j oj hj hoj ed he hb=>by
    rw [hset]
    split
    ·rfl
    ·rw [hset] at hj
     split at hj
     ·rename_i hji;subst hji
      rw [ho] at hoj;cases hoj
      exact hedges ed he hb
     ·exact hcl j oj hj hoj ed he hb
   have hlen':(rem (listed.setIfInBounds i true) ops.size).length=aa:=by
    rw [h3];rw [h1] at hrem;simp at hrem ⊢;omega
   have hg:¬ I1 listed (i+1):=fun hg=>by
    rcases hg with hg | ⟨j,hj,hjl⟩
    ·omega
    ·have:j=i:=by omega
     subst this
     rw [Pu hil] at hjl;cases hjl
   have hstep:=h.took hX hg hN hco htook (next:=wpAny P .any ops Q aa (listed.setIfInBounds i true)) (Q:=Q) fun a' w' h'=>
    ih (listed.setIfInBounds i true) (by simp [hsz]) hlen' hcl' (h'.weakU fun g hg=>by
     rcases hg with (hg | ⟨j,rfl,hj⟩) | hg
     ·exact .inl hg
     ·refine .inr ⟨j,rfl,?_⟩
      rw [hset]
      split
      ·rfl
      ·exact hj
     ·exact .inr ⟨i,hg,by rw [hset,if_pos rfl]⟩) (by rw [h3];exact hch1) (by rw [h3,hfin];exact hr) hQ
   unfold wpOp
   simp only [ho]
   split
   ·rename_i hw
    rw [if_pos hw] at hstep
    exact .inl hstep
   ·rename_i hw
    rw [if_neg hw] at hstep
    exact hstep
end
theorem Tx (hX:TabOk Γ.X) {C:CK Γ.X} (hC:eS P C):AE P Γ C:=by
 intro N F0 B w0 e a w r K n lent hN ops al hal hok k hsim hdraw Q hQ
 obtain ⟨us,ft,h1,h2,h3,h4⟩:=O5 hC (al:=al) (ms:=jA ops.toList) (l:=al) (pre:=[]) (fs:=[]) (e:=e) rfl rfl (by simpa using hdraw)
 have hlen:al.length=ops.size:=by simpa using (cI hal).1
 simp only [List.length_nil] at h2 h4
 have hrem:rem (Array.replicate ops.size false) ops.size=List.range' 0 al.length:=by
  unfold rem
  rw [hlen,←List.range_eq_range']
  refine List.filter_eq_self.2 fun j hj=>?_
  have:=List.mem_range.1 hj
  simp [Array.getD_eq_getD_getElem?,this]
 refine Sim.any (K:=K) hX hN hal hok (us:=us) (ft:=ft) (fun i hi j hj=>h3 i (by simp) (by omega) j hj) ops.size _ (by simp) (by rw [hrem];simp [hlen]) ?_ (hsim.weakU fun g hg=>.inl hg) (by rw [hrem];exact h2) rfl ?_
 ·intro j o hj
  simp only [Array.getD_eq_getD_getElem?,Array.getElem?_replicate] at hj
  split at hj<;>cases hj
 ·intro U a' w' hU h'
  rw [hrem] at h'
  exact hQ (ops.size+1) _ a' w' (h'.weakU hU) h4
end
end Go.A2
namespace Go.A2
section
variable {X:Tab} {C:CK X} {r:Ret X}
theorem bM {α R:Type} {r:R} {o:Option α} {k k':α→Option R} (h:ba o k=some r) (hk:∀ x,k x=some r→k' x=some r):ba o k'=some r:=by
 cases o with
 | none=>cases h
 | some x=>exact hk x h
theorem yo {R:Type} {r:R} {b:Bool} {x y x' y':Option R} (h:cond b x y=some r) (h1:b=true→x=some r→x'=some r) (h2:b=false→y=some r→y'=some r):cond b x' y'=some r:=by
 cases b
 ·exact h2 rfl h
 ·exact h1 rfl h
def eR (C:CK X):Prop:=∀ f args k k' r,C f args k=some r→(∀ x,k x=some r→k' x=some r)→C f args k'=some r
theorem Su {o:BinOp} {x y:AV X} {k k':AV X→Option (Ret X)} (h:iV o x y k=some r) (hk:∀ x,k x=some r→k' x=some r):iV o x y k'=some r:=by
 have key:∀ {ka kb:IntKind} (a:W ka) (b:W kb) (oa ob:Own),iV o (.val (.int ka) a oa) (.val (.int kb) b ob) k=some r→iV o (.val (.int ka) a oa) (.val (.int kb) b ob) k'=some r:=fun {ka kb} a b oa ob h=>by
  have fin:∀ (F:(AV X→Option (Ret X))→W ka→Option (Ret X)),(∀ z,F k z=some r→F k' z=some r)→(match aR (X:=X) (T:=.int kb) b (.int ka) with | some b=>F k b | none=>none)=some r→
    (match aR (X:=X) (T:=.int kb) b (.int ka) with | some b=>F k' b | none=>none)=some r:=fun F hF h=>by
   generalize aR (X:=X) (T:=.int kb) b (.int ka)=c at h ⊢
   cases c with
   | none=>cases h
   | some b'=>exact hF _ h
  have sh:∀ (c:Bool) (x x' y y':Option (Ret X)),(x=some r→x'=some r)→(y=some r→y'=some r)→(if c then x else y)=some r→(if c then x' else y')=some r:=fun c x x' y y' hx hy h=>by
   cases c
   ·exact hy h
   ·exact hx h
  have none_:(none:Option (Ret X))=some r→iV o (.val (.int ka) a oa) (.val (.int kb) b ob) k'=some r:=fun h=>by cases h
  cases o
  case shl=>exact sh kb.signed _ _ _ _ (fun h=>bM h fun _=>hk _) (fun h=>hk _ h) h
  case shr=>exact sh kb.signed _ _ _ _ (fun h=>bM h fun _=>hk _) (fun h=>hk _ h) h
  case quo=>exact fin (fun k z=>ba (W.quo? a z) fun z=>k (.val (.int ka) z .no)) (fun z h=>bM h fun _=>hk _) h
  case rem=>exact fin (fun k z=>ba (W.rem? a z) fun z=>k (.val (.int ka) z .no)) (fun z h=>bM h fun _=>hk _) h
  all_goals exact fin (fun k z=>ba (W.bin (X:=X) _ a z) k) (fun z h=>bM h hk) h
 cases x with
 | val T a oa=>cases T with
  | int ka=>cases y with
   | val T' b ob=>cases T' with
    | int kb=>exact key a b oa ob h
    | _=>cases h
   | _=>cases h
  | _=>cases h
 | _=>cases h
theorem jF {e:Env X} {x:Option (AX X)} {k k':Option Nat→Option (Ret X)} (h:fK e x k=some r) (hk:∀ n,k n=some r→k' n=some r):fK e x k'=some r:=by
 cases x with
 | none=>exact hk _ h
 | some x=>
  have h:yT (Go.A2.rd e x) k=some r:=h
  show yT (Go.A2.rd e x) k'=some r
  generalize Go.A2.rd e x=y at h ⊢
  cases y with
  | val T v o=>cases T with
   | int kk=>exact bM (o:=ek v) h fun _=>hk _
   | _=>cases h
  | _=>cases h
theorem agS {T:X.Ty} {v:X.den T} {o:Own} {lo hi mx:Option Nat} {k k':AV X→Option (Ret X)} (h:zA T v o lo hi mx k=some r) (hk:∀ n,k n=some r→k' n=some r):zA T v o lo hi mx k'=some r:=by
 cases T with
 | str=>
  cases mx with
  | none=>exact bM (o:=Str.sub? v (lo.getD 0) (hi.getD (Str.l v).length)) h fun _=>hk _
  | some _=>cases h
 | slice b t=>
  cases mx with
  | none=>exact bM (o:=Sl.sub? (b:=b) (α:=A2.den X.D t) v (lo.getD 0) (hi.getD (Sl.l (b:=b) (α:=A2.den X.D t) v).length)) h fun _=>hk _
  | some m=>
   cases hi with
   | none=>cases h
   | some hh=>exact bM (o:=Sl.sub3? (b:=b) (α:=A2.den X.D t) v (lo.getD 0) hh m) h fun _=>hk _
 | _=>cases h
theorem yt (hC:eR C) {g:Nat} {e:Env X} {d:Option Nat} {op:AOp X} {k k':Env X→Option (Ret X)} (h:aZ C g e d op k=some r) (hk:∀ e1,k e1=some r→k' e1=some r):aZ C g e d op k'=some r:=by
 cases op with
 | pick c a b=>
  simp only [aZ] at h
  split at h
  ·rename_i z o hc
   simp only [aZ,hc]
   refine yo h (fun _ h=>?_) (fun _ h=>?_)
   ·split at h
    ·rename_i ha;exact hk _ h
    ·cases h
   ·split at h
    ·rename_i ha;exact hk _ h
    ·cases h
  ·cases h
 | idxA n t x i=>
  simp only [aZ] at h
  split at h
  ·rename_i h1 h2
   split at h
   ·rename_i hc;simp only [aZ,h1,h2,if_pos hc];exact bM h fun _=>hk _
   ·cases h
  ·rename_i h1 h2
   split at h
   ·rename_i hc;simp only [aZ,h1,h2,hc];exact bM h fun _=>hk _
   ·cases h
  ·cases h
 | idxS b t x i=>
  simp only [aZ] at h
  split at h
  ·rename_i h1 h2
   split at h
   ·rename_i hc
    split at h
    ·rename_i hq;simp only [aZ,h1,h2,hc,if_pos hq];exact bM h fun _=>hk _
    ·cases h
   ·cases h
  ·rename_i h1 h2
   split at h
   ·rename_i ho
    split at h
    ·rename_i hc;simp only [aZ,h1,h2,if_pos ho,hc];exact bM h fun _=>hk _
    ·cases h
   ·cases h
  ·cases h
 | view b t x lo hi=>
  simp only [aZ] at h ⊢
  refine jF h fun lo h=>jF h fun hi h=>?_
  split at h
  ·split at h
   ·split at h
    ·rename_i h1 _ _ _ _ h2 h3
     simp only [h2,if_pos h3]
     exact bM h fun _=>hk _
    ·cases h
   ·cases h
  ·split at h
   ·rename_i ho
    split at h
    ·rename_i hc
     simp only [if_pos ho,hc]
     exact bM h fun _=>hk _
    ·cases h
   ·cases h
  ·cases h
 | mlen kk t x=>
  simp only [aZ] at h
  split at h
  ·rename_i h1
   simp only [aZ,h1]
   exact bM h fun _=>hk _
  ·cases h
 | cat x y=>
  simp only [aZ] at h
  split at h
  ·rename_i h1 h2
   simp only [aZ,h1,h2]
   exact bM h fun _=>hk _
  ·cases h
 | idxStr x i=>
  simp only [aZ] at h
  split at h
  ·rename_i h1 h2
   simp only [aZ,h1,h2]
   exact bM h fun _=>hk _
  ·cases h
 | idxV n t x i=>
  simp only [aZ] at h
  split at h
  ·rename_i h1 h2
   split at h
   ·rename_i ho
    split at h
    ·rename_i hc;simp only [aZ,h1,h2,if_pos ho,hc];exact bM h fun _=>hk _
    ·cases h
   ·cases h
  ·cases h
 | bin o x y=>
  simp only [aZ] at h ⊢
  exact Su h fun _=>hk _
 | append b t x y=>
  simp only [aZ] at h
  split at h
  ·rename_i b1 t1 l1 u z h1
   split at h
   ·rename_i h2 h3
    split at h
    ·rename_i h4
     simp only [aZ,h1,h2,h3,h4]
     cases z with
     | false=>exact bM h fun _=>hk _
     | true=>exact yo h (fun _ h=>bM h fun _=>hk _) fun _=>hk _
    ·cases h
   ·cases h
  ·cases h
 | arrS b n t x lo hi=>
  simp only [aZ] at h ⊢
  refine jF h fun lo h=>jF h fun hi h=>?_
  split at h
  ·split at h
   ·rename_i hok
    rw [if_pos hok]
    exact bM h fun _=>hk _
   ·cases h
  ·split at h
   ·split at h
    ·rename_i hok
     simp only [dif_pos hok]
     exact bM h fun _=>hk _
    ·cases h
   ·cases h
  ·cases h
 | makeSlice b t l c=>
  simp only [aZ] at h
  split at h
  ·rename_i h1 h2
   simp only [aZ,h1,h2]
   exact bM h fun _=>hk _
  ·cases h
 | slice T x lo hi mx=>
  simp only [aZ] at h
  split at h
  ·rename_i h1
   split at h
   ·rename_i h5
    split at h
    ·rename_i h6;simp only [aZ,h1,h5,if_pos h6];exact jF h fun _ h=>jF h fun _ h=>jF h fun _ h=>agS h fun _=>hk _
    ·cases h
   ·cases h
  ·cases h
 | call f args=>
  simp only [aZ] at h
  split at h
  ·rename_i h1
   simp only [aZ,h1]
   exact hC _ _ _ _ _ h fun _ hx=>bM hx fun _=>hk _
  ·cases h
 | callv x args=>
  simp only [aZ] at h
  split at h
  ·rename_i h1
   simp only [aZ,h1]
   exact hC _ _ _ _ _ h fun _ hx=>bM hx fun _=>hk _
  ·cases h
 | _=>simp only [aZ] at h ⊢;exact bM h fun _=>hk _
theorem Rg (hC:eR C) {g:Nat} {e:Env X} {o:AOpr X} {k k':Env X→Option (Ret X)} (h:stepK C g e o k=some r) (hk:∀ e1,k e1=some r→k' e1=some r):stepK C g e o k'=some r:=by
 obtain ⟨dst,op,guard⟩:=o
 have key:∀ (x:AV X) (A A' B B' D D':Option (Ret X)),(A=some r→A'=some r)→(B=some r→B'=some r)→(D=some r→D'=some r)→(match x with | .val .bool b _=>cond b A B | .tup []=>D | _=>none)=some r→(match x with | .val .bool b _=>cond b A' B' | .tup []=>D' | _=>none)=some r:=fun x A A' B B' D D' hA hB hD h=>by
  cases x with
  | val T v ov=>cases T with
   | bool=>exact yo h (fun _=>hA) fun _=>hB
   | _=>cases h
  | tup l=>cases l with
   | nil=>exact hD h
   | cons _ _=>cases h
  | _=>cases h
 cases guard with
 | none=>exact yt hC h hk
 | some q=>
  obtain ⟨s,want⟩:=q
  cases want with
  | true=>exact key (e s) _ _ _ _ _ _ (fun h=>yt hC h hk) (hk _) (hk _) h
  | false=>exact key (e s) _ _ _ _ _ _ (hk _) (fun h=>yt hC h hk) (hk _) h
theorem QD (hC:eR C):∀ {l:List (AOpr X)} {g:Nat} {e:Env X} {k k':Env X→Option (Ret X)},runK C g l e k=some r→(∀ e1,k e1=some r→k' e1=some r)→runK C g l e k'=some r
 | [],g,e,k,k',h,hk=>hk _ h
 | o :: l,g,e,k,k',h,hk=>by
  simp only [runK] at h ⊢
  exact Rg hC h fun e1 h1=>QD hC h1 hk
theorem O6 (hC:eR C):∀ {l:List (AOpr X)} {g:Nat} {ms:List Nat} {fs:List Foot} {e:Env X} {k k':Env X→Option (Ret X)},fZ C g l ms fs e k=some r→(∀ e1,k e1=some r→k' e1=some r)→fZ C g l ms fs e k'=some r
 | [],g,ms,fs,e,k,k',h,hk=>hk _ h
 | o :: l,g,ms,fs,e,k,k',h,hk=>by
  simp only [fZ] at h ⊢
  split at h
  ·rename_i ha
   rw [if_pos ha]
   exact Rg hC h fun e1 h1=>O6 hC h1 hk
  ·cases h
theorem PI {f f':Env X→Kon X→Option (Ret X)} (hf:∀ e k k',f e k=some r→(∀ x e1,k x e1=some r→k' x e1=some r)→f' e k'=some r):∀ {n:Nat} {e:Env X} {k k':Kon X},eg f n e k=some r→(∀ x e1,k x e1=some r→k' x e1=some r)→eg f' n e k'=some r
 | 0,e,k,k',h,hk=>by simp [eg] at h
 | n+1,e,k,k',h,hk=>by
  simp only [eg] at h ⊢
  refine hf _ _ _ h fun x e1 hx=>?_
  cases x with
  | normal=>exact PI hf hx hk
  | exit id=>exact hk _ _ hx
  | ret=>exact hk _ _ hx
def dZ (C:CK X) (L:LK X) (K:List Nat) (N:Nat):ACode X→Prop
 | .mark i D a=>∀ e k k' r,L i (marked D e) k=some r→(∀ x e1,k x e1=some r→k' x e1=some r)→bI C K N a (marked D e) k'=some r
 | .seq a b=>dZ C L K N a∧dZ C L K N b
 | .cond _ a b=>dZ C L K N a∧dZ C L K N b
 | .block _ a=>dZ C L K N a
 | .loop a=>dZ C L K N a
 | .trim _ a=>dZ C L K N a
 | .dfr _ a=>dZ C L K N a
 | _=>True
theorem yu (hC:eR C) {L:LK X} {K:List Nat} {N:Nat}:∀ {a:ACode X} {e:Env X} {k k':Kon X},dZ C L K N a→dp C L K N a e k=some r→(∀ x e1,k x e1=some r→k' x e1=some r)→bI C K N a e k'=some r:=by
 intro a
 induction a with
 | skip=>intro e k k' _ h hk;exact hk _ _ h
 | region ops=>intro e k k' _ h hk;exact QD hC h fun _=>hk _ _
 | draw ops ms=>intro e k k' _ h hk;exact O6 hC h fun _=>hk _ _
 | seq a b iha ihb=>
  intro e k k' hm h hk
  refine iha hm.1 h fun x e1 hx=>?_
  cases x with
  | normal=>exact ihb hm.2 hx hk
  | exit id=>exact hk _ _ hx
  | ret=>exact hk _ _ hx
 | cond c a b iha ihb=>
  intro e k k' hm h hk
  simp only [dp,bI] at h ⊢
  split at h
  ·rename_i hb;simp only [hb];exact yo h (fun _ h=>iha hm.1 h hk) fun _ h=>ihb hm.2 h hk
  ·cases h
 | block id a ih=>
  intro e k k' hm h hk
  refine ih hm h fun x e1 hx=>?_
  cases x with
  | normal=>exact hk _ _ hx
  | exit j=>
   simp only [] at hx ⊢
   split at hx
   ·rename_i hj;rw [if_pos hj];exact hk _ _ hx
   ·rename_i hj;rw [if_neg hj];exact hk _ _ hx
  | ret=>exact hk _ _ hx
 | loop a ih=>
  intro e k k' hm h hk
  exact PI (f:=dp C L K N a) (f':=bI C K N a) (fun e k k' h hk=>ih hm h hk) h hk
 | exit id=>intro e k k' _ h hk;exact hk _ _ h
 | ret=>intro e k k' _ h hk;exact hk _ _ h
 | mark i D a _=>intro e k k' hm h hk;exact hm e k k' r h hk
 | trim D a ih=>intro e k k' hm h hk;exact ih hm h fun x e1 hx=>hk _ _ hx
 | dfr t a ih=>
  intro e k k' hm h hk
  simp only [dp,bI] at h ⊢
  split at h
  ·rename_i f fs cs hr
   split at h
   ·rename_i hf
    simp only [hr,if_pos hf]
    refine ih hm h fun x e1 hx=>?_
    cases x with
    | normal=>cases hx
    | exit id=>cases hx
    | ret=>exact yt hC hx fun e2=>hk _ _
   ·cases h
  ·cases h
 | bad=>intro e k k' _ h hk;cases h
theorem adR (hC:eR C) {L:LK X} {N:Nat} {af:AFn X} {args:List (AV X)} {k:Ret X→Option (Ret X)} (hm:dZ C L af.keep N af.body) (h:zt C L N af args k=some r):zu C N af args k=some r:=by
 unfold zt at h
 unfold zu
 split at h
 ·rename_i hl
  rw [if_pos hl]
  exact yu hC hm h fun _ _ h=>h
 ·cases h
structure Ans (X:Tab):Type 1 where
 R:Type
 o:Option R
 enc:R→Ret X
def nO (t:Nat→List (AV X)→Option (Ans X)):CK X:=fun f args k=>match t f args with
 | some A=>ba A.o fun x=>k (A.enc x)
 | none=>none
theorem SE (t:Nat→List (AV X)→Option (Ans X)):eR (nO t):=by
 intro f args k k' r h hk
 unfold nO at h ⊢
 split at h
 ·exact bM h fun _=>hk _
 ·cases h
def RO (P:Program) (t:Nat→List (AV X)→Option (Ans X)):Prop:=∀ f args A x,t f args=some A→A.o=some x→dk P f args (A.enc x)
theorem SF {P:Program} {t:Nat→List (AV X)→Option (Ans X)} (ht:RO P t):eS P (nO t):=by
 intro f args k r h
 unfold nO at h
 split at h
 ·rename_i A hA
  obtain ⟨x,h1,h2⟩:=bB h
  exact ⟨_,ht f args A x hA h1,h2⟩
 ·cases h
inductive Rnd (α β:Type) where
 | next (a:α)
 | out (b:β)
def az {α β:Type} (f:α→Option (Rnd α β)) (n:Nat):α→Option β:=
 Nat.rec (fun _=>none) (fun _ ih a=>match f a with
  | some (.next a')=>ih a'
  | some (.out b)=>some b
  | none=>none) n
theorem Z7 {α β:Type} (f:α→Option (Rnd α β)) (a:α):az f 0 a=none:=rfl
theorem dt {α β:Type} (f:α→Option (Rnd α β)) (n:Nat) (a:α):az f (n+1) a=match f a with
  | some (.next a')=>az f n a'
  | some (.out b)=>some b
  | none=>none:=rfl
theorem PK (hC:eR C) {L:LK X} {K:List Nat} {N:Nat} {i:Nat} {D D':List (Nat×Sh)} {b:ACode X} (hm:dZ C L K N b) {α β:Type} {enc:α→Env X} {out:β→AExit×Env X} {f:α→Option (Rnd α β)}
  (hstep:∀ a (kn:Env X→Option (Ret X)) (kx:AExit→Env X→Option (Ret X)),dp C L K N b (enc a) (fun x e1=>match x with | .normal=>kn (marked D e1) | x=>kx x (marked D' e1)) =
   ba (f a) fun q=>match q with | .next a'=>kn (enc a') | .out o=>kx (out o).1 (out o).2):
  ∀ {n:Nat} {e:Env X} {a:α} {k k':Kon X} {o:β},marked D e=enc a→az f n a=some o→k (out o).1 (out o).2=some r→(∀ x e1,k x e1=some r→k' x e1=some r)→
   eg (bI C K N (.mark i D b)) n e (fun x e1=>k' x (marked D' e1))=some r
 | 0,e,a,k,k',o,he,h,hk,hkk=>by rw [Z7] at h;cases h
 | n+1,e,a,k,k',o,he,h,hk,hkk=>by
  rw [dt] at h
  simp only [eg,bI]
  rw [he]
  split at h
  ·rename_i a' hf
   classical
   have:=hstep a (fun e1=>if e1=enc a' then some r else none) (fun _ _=>none)
   rw [hf] at this
   simp only [ba,if_true] at this
   refine yu hC hm this fun x e1 hx=>?_
   cases x with
   | normal=>
    simp only [] at hx ⊢
    split at hx
    ·rename_i hq
     exact PK (i:=i) hC hm hstep hq h hk hkk
    ·cases hx
   | exit id=>cases hx
   | ret=>cases hx
  ·rename_i o' hf
   simp only [Option.some.injEq] at h;subst h
   have:=hstep a (fun _=>none) k
   rw [hf] at this
   simp only [ba] at this
   rw [hk] at this
   refine yu hC hm this fun x e1 hx=>?_
   cases x with
   | normal=>cases hx
   | exit id=>exact hkk _ _ hx
   | ret=>exact hkk _ _ hx
  ·cases h
end
end Go.A2
namespace Go.A2
def nX:List PS→List PS→Bool
 | [],[]=>true
 | .fld j :: q,.fld k :: r=>j==k&&nX q r
 | _,_=>false
theorem GD:∀ {q r:List PS},nX q r=true→q=r
 | [],[],_=>rfl
 | .fld j :: q,.fld k :: r,h=>by
  simp only [nX,Bool.and_eq_true,beq_iff_eq] at h
  rw [h.1,GD h.2]
 | [],.fld _ :: _,h=>by cases h
 | [],.idx _ :: _,h=>by cases h
 | .fld _ :: _,[],h=>by cases h
 | .idx _ :: _,[],h=>by cases h
 | .fld _ :: _,.idx _ :: _,h=>by cases h
 | .idx _ :: _,.fld _ :: _,h=>by cases h
 | .idx _ :: _,.idx _ :: _,h=>by cases h
section
variable {X:Tab}
inductive Sk (X:Tab) where
 | undef
 | val (T:X.Ty) (o:Own)
 | box (T:X.Ty) (o:Own)
 | rptr (T:X.Ty)
 | ref (s:Nat) (q:List PS)
 | ptr (s:Nat) (q:List PS)
 | fn (f:Nat) (a b:List (Sk X))
 | rfn (f:Nat) (a b:List (Sk X))
 | fnb (f:Nat) (T:X.Ty) (o:Own)
mutual
def Sk.D:Sk X→Type
 | .val T _=>X.den T
 | .box T _=>X.den T
 | .rptr T=>X.den T
 | .fn _ a b=>SkA a×SkA b
 | .rfn _ a b=>SkA a×SkA b
 | .fnb _ T _=>X.den T
 | _=>Unit
def SkA:List (Sk X)→Type
 | []=>Unit
 | k :: l=>k.D×SkA l
end
mutual
def Sk.put:(k:Sk X)→k.D→AV X
 | .val T o,v=>.val T v o
 | .box T o,v=>.box 0 T v o
 | .rptr T,v=>.rptr T v
 | .ref s q,_=>.ref s q 0
 | .ptr s q,_=>.ptr (.box s 0) q
 | .fn f a b,v=>.fn f (SkA.put a v.1) (SkA.put b v.2)
 | .rfn f a b,v=>.rfn f (SkA.put a v.1) (SkA.put b v.2)
 | .fnb f T o,v=>.fnb f 0 T v o
 | .undef,_=>.undef
def SkA.put:(l:List (Sk X))→SkA l→List (AV X)
 | [],_=>[]
 | k :: l,v=>k.put v.1 :: SkA.put l v.2
end
def Gj (T:X.Ty) (o:Own):AV X→Option (X.den T)
 | .val _ v o'=>if o.eqb o' then aR v T else none
 | _=>none
def Gf (T:X.Ty) (o:Own):AV X→Option (X.den T)
 | .box g _ v o'=>if g==0&&o.eqb o' then aR v T else none
 | _=>none
def Gg (f:Nat) (T:X.Ty) (o:Own):AV X→Option (X.den T)
 | .fnb f' g _ v o'=>if f==f'&&(g==0&&o.eqb o') then aR v T else none
 | _=>none
def Ot (T:X.Ty):AV X→Option (X.den T)
 | .rptr _ v=>aR v T
 | _=>none
def Gi (s:Nat) (q:List PS):AV X→Option Unit
 | .ref s' q' g=>if g==0&&s==s'&&nX q q' then some () else none
 | _=>none
def Gh (s:Nat) (q:List PS):AV X→Option Unit
 | .ptr (.box s' g) q'=>if g==0&&s==s'&&nX q q' then some () else none
 | _=>none
def ye (f:Nat):AV X→Option (List (AV X)×List (AV X))
 | .fn f' a b=>if f==f' then some (a,b) else none
 | _=>none
def yf (f:Nat):AV X→Option (List (AV X)×List (AV X))
 | .rfn f' a b=>if f==f' then some (a,b) else none
 | _=>none
def Ou:AV X→Option Unit
 | .undef=>some ()
 | _=>none
def both {α β:Type} (x:Option α) (y:Option β):Option (α×β):=
 match x,y with
 | some a,some b=>some (a,b)
 | _,_=>none
theorem Gl {α β:Type} {x:Option α} {y:Option β} {d:α×β} (h:both x y=some d):x=some d.1∧y=some d.2:=by
 cases x with
 | none=>cases h
 | some a=>cases y with
  | none=>cases h
  | some b=>cases h;exact ⟨rfl,rfl⟩
mutual
def Sk.get:(k:Sk X)→AV X→Option k.D
 | .val T o,x=>Gj T o x
 | .box T o,x=>Gf T o x
 | .rptr T,x=>Ot T x
 | .ref s q,x=>Gi s q x
 | .ptr s q,x=>Gh s q x
 | .fn f a b,x=>match ye f x with
  | some y=>both (SkA.get a y.1) (SkA.get b y.2)
  | none=>none
 | .rfn f a b,x=>match yf f x with
  | some y=>both (SkA.get a y.1) (SkA.get b y.2)
  | none=>none
 | .fnb f T o,x=>Gg f T o x
 | .undef,x=>Ou x
def SkA.get:(l:List (Sk X))→List (AV X)→Option (SkA l)
 | [],xs=>match xs with
  | []=>some ()
  | _ :: _=>none
 | k :: l,xs=>match xs with
  | []=>none
  | x :: xs=>both (k.get x) (SkA.get l xs)
end
theorem Sj {T:X.Ty} {o:Own} {x:AV X} {d:X.den T} (h:Gj T o x=some d):x=.val T d o:=by
 cases x with
 | val T' v o'=>
  unfold Gj at h
  simp only [] at h
  split at h
  ·rename_i ho
   obtain ⟨rfl,h2⟩:=bl h
   simp only at h2;subst h2
   rw [Own.eqb_eq ho]
  ·cases h
 | _=>cases h
theorem R8 {T:X.Ty} {o:Own} {x:AV X} {d:X.den T} (h:Gf T o x=some d):x=.box 0 T d o:=by
 cases x with
 | box g T' v o'=>
  unfold Gf at h
  simp only [] at h
  split at h
  ·rename_i ho
   simp only [Bool.and_eq_true,beq_iff_eq] at ho
   obtain ⟨rfl,h2⟩:=bl h
   simp only at h2;subst h2
   rw [ho.1,Own.eqb_eq ho.2]
  ·cases h
 | _=>cases h
theorem Sa {f:Nat} {T:X.Ty} {o:Own} {x:AV X} {d:X.den T} (h:Gg f T o x=some d):x=.fnb f 0 T d o:=by
 cases x with
 | fnb f' g T' v o'=>
  unfold Gg at h
  simp only [] at h
  split at h
  ·rename_i ho
   simp only [Bool.and_eq_true,beq_iff_eq] at ho
   obtain ⟨rfl,h2⟩:=bl h
   simp only at h2;subst h2
   rw [ho.1,ho.2.1,Own.eqb_eq ho.2.2]
  ·cases h
 | _=>cases h
theorem Sf {T:X.Ty} {x:AV X} {d:X.den T} (h:Ot T x=some d):x=.rptr T d:=by
 cases x with
 | rptr T' v=>
  obtain ⟨rfl,h2⟩:=bl (show aR v T=some d from h)
  simp only at h2;subst h2;rfl
 | _=>cases h
theorem Sd {s:Nat} {q:List PS} {x:AV X} {d:Unit} (h:Gi s q x=some d):x=.ref s q 0:=by
 cases x with
 | ref s' q' g=>
  unfold Gi at h
  simp only [] at h
  split at h
  ·rename_i hc
   simp only [Bool.and_eq_true,beq_iff_eq] at hc
   rw [hc.1.1,hc.1.2,GD hc.2]
  ·cases h
 | _=>cases h
theorem Sc {s:Nat} {q:List PS} {x:AV X} {d:Unit} (h:Gh s q x=some d):x=.ptr (.box s 0) q:=by
 cases x with
 | ptr b q'=>
  cases b with
  | box s' g=>
   unfold Gh at h
   simp only [] at h
   split at h
   ·rename_i hc
    simp only [Bool.and_eq_true,beq_iff_eq] at hc
    rw [hc.1.1,hc.1.2,GD hc.2]
   ·cases h
  | elem=>cases h
 | _=>cases h
theorem R9 {f:Nat} {x:AV X} {d:List (AV X)×List (AV X)} (h:ye f x=some d):x=.fn f d.1 d.2:=by
 cases x with
 | fn f' a b=>
  unfold ye at h
  simp only [] at h
  split at h
  ·rename_i hc
   simp only [beq_iff_eq] at hc
   cases h;rw [hc]
  ·cases h
 | _=>cases h
theorem Se {f:Nat} {x:AV X} {d:List (AV X)×List (AV X)} (h:yf f x=some d):x=.rfn f d.1 d.2:=by
 cases x with
 | rfn f' a b=>
  unfold yf at h
  simp only [] at h
  split at h
  ·rename_i hc
   simp only [beq_iff_eq] at hc
   cases h;rw [hc]
  ·cases h
 | _=>cases h
theorem Sg {x:AV X} {d:Unit} (h:Ou x=some d):x=.undef:=by
 cases x with
 | undef=>rfl
 | _=>cases h
mutual
theorem Sk.get_put:∀ {k:Sk X} {x:AV X} {d:k.D},k.get x=some d→x=k.put d
 | .val T o,x,d,h=>Sj h
 | .box T o,x,d,h=>R8 h
 | .rptr T,x,d,h=>Sf h
 | .ref s q,x,d,h=>Sd h
 | .ptr s q,x,d,h=>Sc h
 | .fn f a b,x,d,h=>by
  have h:(match ye f x with
   | some y=>both (SkA.get a y.1) (SkA.get b y.2)
   | none=>none)=some d:=h
  split at h
  ·rename_i y hy
   obtain ⟨h1,h2⟩:=Gl h
   rw [R9 hy,SkA.get_put h1,SkA.get_put h2];rfl
  ·cases h
 | .rfn f a b,x,d,h=>by
  have h:(match yf f x with
   | some y=>both (SkA.get a y.1) (SkA.get b y.2)
   | none=>none)=some d:=h
  split at h
  ·rename_i y hy
   obtain ⟨h1,h2⟩:=Gl h
   rw [Se hy,SkA.get_put h1,SkA.get_put h2];rfl
  ·cases h
 | .fnb f T o,x,d,h=>Sa h
 | .undef,x,d,h=>Sg h
theorem SkA.get_put:∀ {l:List (Sk X)} {xs:List (AV X)} {d:SkA l},SkA.get l xs=some d→xs=SkA.put l d
 | [],xs,d,h=>by
  cases xs with
  | nil=>rfl
  | cons x xs=>cases h
 | k :: l,xs,d,h=>by
  cases xs with
  | nil=>cases h
  | cons x xs=>
   obtain ⟨h1,h2⟩:=Gl (show both (k.get x) (SkA.get l xs)=some d from h)
   rw [Sk.get_put h1,SkA.get_put h2];rfl
end
abbrev SkL (X:Tab):=List (Nat×Sk X)
def SkL.ks (l:SkL X):List (Sk X):=l.map Prod.snd
def SkL.D (l:SkL X):Type:=SkA l.ks
def SkL.env (l:SkL X) (d:l.D):Env X:=mkE ((l.map Prod.fst).zip (SkA.put l.ks d))
def SkL.get (l:SkL X) (e:Env X):Option l.D:=SkA.get l.ks (l.map fun q=>e q.1)
theorem SkL.get_env {l:SkL X} {e e0:Env X} (he:e=mkE (l.map fun q=>(q.1,bL e0 (e0 q.1)))) {d:l.D} (hn:gv (l.map (·.1))=true) (h:l.get e=some d):e=l.env d:=by
 have h1:=SkA.get_put (l:=l.ks) (xs:=l.map fun q:Nat×Sk X=>e q.1) (d:=d) h
 unfold SkL.env
 rw [←h1]
 clear h1
 have gen:∀ (l:SkL X) (f:Nat→AV X),gv (l.map (·.1))=true→∀ (q:Nat×Sk X),q∈l→mkE (l.map fun q=>(q.1,f q.1)) q.1=f q.1:=fun l f=>by
  induction l with
  | nil=>intro _ q hq;cases hq
  | cons x l ih=>
   intro hn q hq
   simp only [List.map_cons,gv,Bool.and_eq_true] at hn
   simp only [List.map_cons,mkE]
   by_cases hx:q.1=x.1
   ·rw [if_pos hx,hx]
   ·rw [if_neg hx]
    rcases List.mem_cons.1 hq with rfl | hq
    ·exact absurd rfl hx
    ·exact ih hn.2 q hq
 have hat:∀ q∈l,e q.1=bL e0 (e0 q.1):=fun q hq=>by
  have:=gen l (fun s=>bL e0 (e0 s)) hn q hq
  rw [←he] at this;exact this
 have hz:((l.map Prod.fst).zip (l.map fun q=>e q.1))=l.map fun q=>(q.1,bL e0 (e0 q.1)):=by
  clear h gen hn he d
  induction l with
  | nil=>rfl
  | cons x l ih=>
   simp only [List.map_cons,List.zip_cons_cons]
   rw [ih (fun q hq=>hat q (List.mem_cons_of_mem _ hq)),hat x (List.mem_cons_self ..)]
 rw [hz];exact he
abbrev nL (X:Tab):=List (AExit×SkL X)
def iT:nL X→Type
 | []=>Empty
 | [x]=>x.2.D
 | x :: y :: l=>x.2.D⊕iT (y :: l)
def He {S:Type}:(l:nL X)→iT l→(AExit→Env X→Option S)→Option S
 | [x],p,k=>k x.1 (x.2.env p)
 | x :: y :: l,o,k=>zC o (fun p=>k x.1 (x.2.env p)) (fun o'=>He (y :: l) o' k)
def ix:(l:nL X)→iT l→AExit×Env X
 | [x],p=>(x.1,x.2.env p)
 | x :: _ :: _,.inl p=>(x.1,x.2.env p)
 | _ :: y :: l,.inr o=>ix (y :: l) o
theorem Hf {S:Type}:∀ (l:nL X) (o:iT l) (k:AExit→Env X→Option S),He l o k=k (ix l o).1 (ix l o).2
 | [],o,k=>nomatch (show Empty from o)
 | [x],p,k=>rfl
 | x :: y :: l,.inl p,k=>rfl
 | x :: y :: l,.inr o,k=>Hf (y :: l) o k
structure MarkK (X:Tab) where
 sk:SkL X
 outs:nL X
 f:sk.D→Option (iT outs)
def dS (t:Nat→Option (MarkK X)):LK X:=fun i e k=>match t i with
 | some m=>ba (m.sk.get e) fun st=>ba (m.f st) fun o=>He m.outs o k
 | none=>none
def dT:ACode X→List (Nat×List (Nat×Sh)×ACode X)
 | .mark i D a=>[(i,D,a)]
 | .seq a b=>dT a++dT b
 | .cond _ a b=>dT a++dT b
 | .block _ a=>dT a
 | .loop a=>dT a
 | .trim _ a=>dT a
 | .dfr _ a=>dT a
 | _=>[]
def dY (C:CK X) (L:LK X) (K:List Nat) (N:Nat) (i:Nat) (D:List (Nat×Sh)) (a:ACode X):Prop:=dZ C L K N (.mark i D a)
theorem Hb {C:CK X} {L:LK X} {K:List Nat} {N:Nat}:∀ {a:ACode X},(∀ m∈dT a,dY C L K N m.1 m.2.1 m.2.2)→dZ C L K N a:=by
 intro a
 induction a with
 | mark i D a _=>intro h;exact h _ (List.mem_singleton.2 rfl)
 | seq a b iha ihb=>intro h;exact ⟨iha fun m hm=>h m (List.mem_append_left _ hm),ihb fun m hm=>h m (List.mem_append_right _ hm)⟩
 | cond c a b iha ihb=>intro h;exact ⟨iha fun m hm=>h m (List.mem_append_left _ hm),ihb fun m hm=>h m (List.mem_append_right _ hm)⟩
 | block id a ih=>intro h;exact ih h
 | loop a ih=>intro h;exact ih h
 | trim D a ih=>intro h;exact ih h
 | dfr t a ih=>intro h;exact ih h
 | _=>intro _;trivial
theorem QB (D:List (Nat×Sh)) (e:Env X) {l:SkL X} (hl:l.map (·.1)=D.map (·.1)):marked D e=mkE (l.map fun q=>(q.1,bL (shaped D (frozen e D)) (shaped D (frozen e D) q.1))):=by
 unfold marked restrict
 rw [←hl,List.map_map];rfl
theorem bR {C:CK X} (hC:eR C) {t:Nat→Option (MarkK X)} {K:List Nat} {N i:Nat} {D:List (Nat×Sh)} {b:ACode X} {m:MarkK X} (ht:t i=some m) (hD:m.sk.map (·.1)=D.map (·.1)) (hn:gv (D.map (·.1))=true)
  (hb:∀ m∈dT b,dY C (dS t) K N m.1 m.2.1 m.2.2) {B:m.sk.D→Tree (iT m.outs)} (hf:∀ a,m.f a=(B a).eval)
  (hstep:∀ a (kx:AExit→Env X→Option (Ret X)),dp C (dS t) K N b (m.sk.env a) kx=(B a).run fun o=>kx (ix m.outs o).1 (ix m.outs o).2):dY C (dS t) K N i D b:=by
 intro e k k' r h hk
 unfold dS at h
 rw [ht] at h
 obtain ⟨st,h1,h2⟩:=bB h
 obtain ⟨o,h3,h4⟩:=bB h2
 have he:marked D e=m.sk.env st:=SkL.get_env (QB D e hD) (by rw [hD];exact hn) h1
 rw [he]
 refine yu hC (Hb hb) ((hstep st k).trans ?_) hk
 rw [Tree.run_eq,←hf,h3]
 rw [Hf] at h4
 exact h4
theorem aE {C:CK X} (hC:eR C) {t:Nat→Option (MarkK X)} {K:List Nat} {N i i2:Nat} {D D':List (Nat×Sh)} {b:ACode X} {m:MarkK X} (ht:t i=some m) (hD:m.sk.map (·.1)=D.map (·.1)) (hn:gv (D.map (·.1))=true)
  (hid:∀ a,marked D (m.sk.env a)=m.sk.env a) (hb:∀ m∈dT b,dY C (dS t) K N m.1 m.2.1 m.2.2) {B:m.sk.D→Tree (Rnd m.sk.D (iT m.outs))} (hf:∀ a,m.f a=az (fun a=>(B a).eval) N a)
  (hstep:∀ a (kn:Env X→Option (Ret X)) (kx:AExit→Env X→Option (Ret X)),dp C (dS t) K N b (m.sk.env a) (fun x e1=>match x with | .normal=>kn (marked D e1) | x=>kx x (marked D' e1)) =
   (B a).run fun q=>match q with | .next a'=>kn (m.sk.env a') | .out o=>kx (ix m.outs o).1 (ix m.outs o).2):dY C (dS t) K N i D (.trim D' (.loop (.mark i2 D b))):=by
 intro e k k' r h hk
 unfold dS at h
 rw [ht] at h
 obtain ⟨st,h1,h2⟩:=bB h
 obtain ⟨o,h3,h4⟩:=bB h2
 have he:marked D e=m.sk.env st:=SkL.get_env (QB D e hD) (by rw [hD];exact hn) h1
 rw [hf] at h3
 rw [Hf] at h4
 show eg (bI C K N (.mark i2 D b)) N (marked D e) (fun x e1=>k' x (marked D' e1))=some r
 rw [he]
 refine PK hC (Hb hb) (enc:=m.sk.env) (out:=ix m.outs) (f:=fun a=>(B a).eval) (fun a kn kx=>?_) (hid st) h3 h4 hk
 refine (hstep a kn kx).trans ?_
 rw [Tree.run_eq]
 show ((B a).eval.bind _)=ba (B a).eval _
 generalize (B a).eval=z
 cases z with
 | none=>rfl
 | some z=>cases z<;>rfl
end
end Go.A2
namespace Go.A2
section
variable {X:Tab}
structure FnK (X:Tab):Type 1 where
 sk:List (Sk X)
 R:Type
 f:SkA sk→Option R
 enc:R→Ret X
def yX:List (FnK X)→List (AV X)→Option (Ans X)
 | [],_=>none
 | K :: l,args=>match SkA.get K.sk args with
  | some d=>some ⟨K.R,K.f d,K.enc⟩
  | none=>yX l args
def ij (t:Nat→List (FnK X)):CK X:=nO fun f args=>yX (t f) args
def dX (P:Program) (f:Nat) (K:FnK X):Prop:=∀ d r,K.f d=some r→dk P f (SkA.put K.sk d) (K.enc r)
theorem Qn {P:Program} {f:Nat}:∀ {l:List (FnK X)},(∀ K∈l,dX P f K)→∀ {args:List (AV X)} {A:Ans X} {x:A.R},yX l args=some A→A.o=some x→dk P f args (A.enc x)
 | [],_,args,A,x,h,hx=>by cases h
 | K :: l,hl,args,A,x,h,hx=>by
  simp only [yX] at h
  split at h
  ·rename_i d hd
   cases h
   rw [SkA.get_put hd]
   exact hl K (List.mem_cons_self ..) d x hx
  ·exact Qn (fun K hK=>hl K (List.mem_cons_of_mem _ hK)) h hx
theorem WR {P:Program} {t:Nat→List (FnK X)} (ht:∀ f,∀ K∈t f,dX P f K):eS P (ij t):=SF fun f _ _ _ h hx=>Qn (ht f) h hx
theorem ax (t:Nat→List (FnK X)):eR (ij t):=SE _
end
section
variable {P:Program} {Γ:Cx}
theorem SX {x:FnX} {f:Nat} {af:AFn Γ.X} (h:Gv P Γ x f=some af) (hd:eZ Γ.X f=true→bJ Γ af.body=false) (hn:(match P.funcs[f]? with | some fn=>fn.name == "runtime.NumGoroutine" | none=>true)=false):lU P Γ f af:=by
 unfold Gv at h
 split at h
 ·rename_i fn hf
  rw [hf] at hn
  unfold ja at h
  split at h
  ·rename_i c hc
   split at h
   ·rename_i body j res h1 h2
    split at h
    ·rename_i h3
     cases h
     exact ⟨x,fn,c,j,hf,hc,hn,⟨body,h1,rfl⟩,h2,h3.2,h3.1,rfl,rfl,hd⟩
    ·cases h
   ·cases h
  ·cases h
 ·cases h
theorem SY {x:FnX} {f:Nat} {fn:Func} {af:AFn Γ.X} (hf:P.funcs[f]?=some fn) (h:ja P Γ x fn=some af) (hd:eZ Γ.X f=true→bJ Γ af.body=false) (hn:(fn.name == "runtime.NumGoroutine")=false):lU P Γ f af:=
 SX (by unfold Gv;rw [hf];exact h) hd (by rw [hf];exact hn)
theorem WM (hm:P.follows .mixedOrders=true) (hX:TabOk Γ.X) {t:Nat→List (FnK Γ.X)} (ht:∀ f,∀ K∈t f,dX P f K) {f N:Nat} {af:AFn Γ.X} (hcomp:lU P Γ f af) {tm:Nat→Option (MarkK Γ.X)}
  (hmk:∀ m∈dT af.body,dY (ij t) (dS tm) af.keep N m.1 m.2.1 m.2.2) {K:FnK Γ.X} {T:SkA K.sk→Tree K.R} (hT:∀ d,K.f d=(T d).eval)
  (hk:∀ d (k:Ret Γ.X→Option (Ret Γ.X)),zt (ij t) (dS tm) N af (SkA.put K.sk d) k=(T d).run fun r=>k (K.enc r)):dX P f K:=by
 intro d r h
 have hC:=WR ht
 refine WO hm hX hC (Tx hX hC) hcomp (Nf:=N) (adR (ax t) (Hb hmk) ((hk d some).trans ?_))
 rw [hT] at h
 rw [Tree.run_eq,h];rfl
theorem aaM {X:Tab} {Q:Nat×List (Nat×Sh)×ACode X→Prop} {m:Nat×List (Nat×Sh)×ACode X} {l:List (Nat×List (Nat×Sh)×ACode X)} (h:Q m) (hl:∀ m∈l,Q m):∀ m'∈m :: l,Q m':=by
 intro m' hm
 rcases List.mem_cons.1 hm with rfl | hm
 ·exact h
 ·exact hl m' hm
theorem ay {X:Tab} {C:CK X} {M:LK X} {K:List Nat} {N i:Nat} {D:List (Nat×Sh)} {b:ACode X} {l:List (Nat×List (Nat×Sh)×ACode X)} (h:dY C M K N i D b) (hl:∀ m∈l,dY C M K N m.1 m.2.1 m.2.2):∀ m'∈(i,D,b) :: l,dY C M K N m'.1 m'.2.1 m'.2.2:=
 aaM (Q:=fun m=>dY C M K N m.1 m.2.1 m.2.2) h hl
theorem ai {X:Tab} {Q:Nat×List (Nat×Sh)×ACode X→Prop}:∀ m'∈([]:List (Nat×List (Nat×Sh)×ACode X)),Q m':=fun m hm=>by cases hm
def gOf (P:Program) (Γ:Cx) (x:FnX) (fn:Func):AFn Γ.X:=(ja P Γ x fn).getD ⟨0,[],[],.bad,[]⟩
theorem SW {x:FnX} {f:Nat} {fn:Func} (hf:P.funcs[f]?=some fn) (h:((ja P Γ x fn).isSome&&!(eZ Γ.X f&&bJ Γ (gOf P Γ x fn).body))=true) (hn:(fn.name == "runtime.NumGoroutine")=false):lU P Γ f (gOf P Γ x fn):=by
 rw [Bool.and_eq_true] at h
 obtain ⟨h,hd⟩:=h
 obtain ⟨af,ha⟩:=Option.isSome_iff_exists.1 h
 have:gOf P Γ x fn=af:=by unfold gOf;rw [ha];rfl
 rw [this] at hd ⊢
 exact SY hf ha (fun hh=>by
  rw [hh] at hd
  simpa using hd) hn
def fE {X:Tab} (i:Nat):ACode X→Option (ACode X)
 | .mark j _ a=>if i==j then some a else fE i a
 | .seq a b=>match fE i a with | some x=>some x | none=>fE i b
 | .cond _ a b=>match fE i a with | some x=>some x | none=>fE i b
 | .block _ a=>fE i a
 | .loop a=>fE i a
 | .trim _ a=>fE i a
 | .dfr _ a=>fE i a
 | _=>none
def mOf {X:Tab} (g:AFn X) (i:Nat):ACode X:=(fE i g.body).getD .bad
def tbl {X:Tab}:List (Nat×FnK X)→Nat→List (FnK X)
 | [],_=>[]
 | q :: l,f=>if q.1==f then q.2 :: tbl l f else tbl l f
def aG {X:Tab}:List (Nat×MarkK X)→Nat→Option (MarkK X)
 | [],_=>none
 | q :: l,i=>if q.1==i then some q.2 else aG l i
theorem av {X:Tab} {P:Program}:∀ f,∀ K∈tbl ([]:List (Nat×FnK X)) f,dX P f K:=fun f K h=>by cases h
theorem aq {X:Tab} {P:Program} {g:Nat} {K0:FnK X} {l:List (Nat×FnK X)} (h0:dX P g K0) (hl:∀ f,∀ K∈tbl l f,dX P f K):∀ f,∀ K∈tbl ((g,K0) :: l) f,dX P f K:=fun f K h=>by
 unfold tbl at h
 split at h
 ·rename_i hg
  rcases List.mem_cons.1 h with rfl | h
  ·have:g=f:=by simpa using hg
   rw [←this];exact h0
  ·exact hl f K h
 ·exact hl f K h
def FnE {X:Tab} (t:Nat→List (FnK X)) (q:Nat→Option (MarkK X)) (N:Nat) (g:AFn X) (K:FnK X) (T:SkA K.sk→Tree K.R):Prop:=∀ d (k:Ret X→Option (Ret X)),zt (ij t) (dS q) N g (SkA.put K.sk d) k=(T d).run fun r=>k (K.enc r)
def aF {X:Tab} (t:Nat→List (FnK X)) (q:Nat→Option (MarkK X)) (N:Nat) (K:List Nat) (a:ACode X):Prop:=∀ m∈dT a,dY (ij t) (dS q) K N m.1 m.2.1 m.2.2
theorem ah {X:Tab} {t:Nat→List (FnK X)} {q:Nat→Option (MarkK X)} {N:Nat} {K:List Nat} {a:ACode X} {l:List (Nat×List (Nat×Sh)×ACode X)} (h:dT a=l) (hl:∀ m∈l,dY (ij t) (dS q) K N m.1 m.2.1 m.2.2):aF t q N K a:=by
 unfold aF;rw [h];exact hl
theorem WN (hm:P.follows .mixedOrders=true) (hX:TabOk Γ.X) {t:Nat→List (FnK Γ.X)} (ht:∀ f,∀ K∈t f,dX P f K) {f N:Nat} {x:FnX} {fn:Func} (hf:P.funcs[f]?=some fn) (hc:((ja P Γ x fn).isSome&&!(eZ Γ.X f&&bJ Γ (gOf P Γ x fn).body))=true) (hn:(fn.name == "runtime.NumGoroutine")=false) {tm:Nat→Option (MarkK Γ.X)}
  (hmk:aF t tm N (gOf P Γ x fn).keep (gOf P Γ x fn).body) {K:FnK Γ.X} {T:SkA K.sk→Tree K.R} (hk:FnE t tm N (gOf P Γ x fn) K T) (hT:∀ d,K.f d=(T d).eval):dX P f K:=
 WM hm hX ht (SW hf hc hn) hmk hT hk
def aa:Nat:=281474976710656
end
def IA (b n:Nat):Bool:=Nat.ble (n*b) aw&&Nat.ble n aw
def Sl.lit {α:Type} (b:Nat) (l:List α) (h:IA b l.length=true):Sl b α:=⟨l,by
 unfold IA at h
 rw [Bool.and_eq_true] at h
 exact ⟨Nat.le_of_ble_eq_true h.1,Nat.le_of_ble_eq_true h.2⟩⟩
def Arr.lit {α:Type} (n:Nat) (l:List α) (h:Nat.beq l.length n=true):Arr n α:=⟨l,Nat.eq_of_beq_eq_true h⟩
section
variable {X:Tab}
def I7 (X:Tab):(ts:List X.Ty)→X.Tup ts
 | []=>()
 | t :: ts=>(X.zero t,I7 X ts)
theorem Px:∀ {ts:List X.Ty} {j:Nat} {t:X.Ty} {x:X.den t},bp ts (I7 X ts) j=some ⟨t,x⟩→x=X.zero t
 | [],j,t,x,h=>by cases h
 | t' :: ts,0,t,x,h=>by
  simp only [bp,Option.some.injEq,Sigma.mk.injEq] at h
  obtain ⟨rfl,h⟩:=h
  exact (eq_of_heq h).symm
 | t' :: ts,j+1,t,x,h=>Px (ts:=ts) (j:=j) h
theorem WC {α:Type} [DecidableEq α] {x y:α}:eqT x y=true ↔ x=y:=decide_eq_true_iff
end
end Go.A2
