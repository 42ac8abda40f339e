/- YtchpjkadpdajkaaGreatDoorA2D: parts of the machine and its laws, in one text. No statement of the seat is proved here. -/
import Derived.Test.YtchpjkadpdajkaaGreatDoorA2N
set_option linter.unusedSimpArgs false
set_option linter.unusedVariables false
namespace Go.A2
section
variable {X:Tab} {e e':Env X}
def Agree (A:List Nat) (e e':Env X):Prop:=∀ s∈A,e' s=e s
theorem Agree.sub {A B:List Nat} (h:Agree A e e') (hs:∀ s∈B,s∈A):Agree B e e':=fun s hb=>h s (hs s hb)
theorem Agree.upd {A:List Nat} (h:Agree A e e') (s:Nat) (v:AV X):Agree A (upd e s v) (upd e' s v):=fun t ht=>by
 unfold Go.A2.upd;split
 ·rfl
 ·exact h t ht
theorem Agree.applyU {A:List Nat}:∀ (u:Ups X) {e e':Env X},Agree A e e'→Agree A (applyU e u) (applyU e' u)
 | [],_,_,h=>h
 | (s,v) :: u,_,_,h=>Agree.applyU u (h.upd s v)
theorem rd_agree {x:AX X} {A:List Nat} (h:Agree A e e') (hx:∀ s∈slotX x,s∈A):Go.A2.rd e' x=Go.A2.rd e x:=by
 cases x with
 | c y=>rfl
 | t s=>simp only [Go.A2.rd];rw [h s (hx s (by simp [slotX]))]
 | v s=>simp only [Go.A2.rd];rw [h s (hx s (by simp [slotX]))]
theorem cont_agree {A:List Nat} (h:Agree A e e') {s:Nat} (hs:s∈A) (q:List PS) (g:Nat):cont e' s q g=cont e s q g:=cont_congr (h s hs) q g
theorem setMask_agree {A:List Nat} (h:Agree A e e') {s:Nat} (hs:s∈A) (q:List PS) (o:Own):setMask e' s q o=setMask e s q o:=by
 unfold setMask;rw [h s hs]
theorem takeRef_agree {A:List Nat} (h:Agree A e e') {s:Nat} (hs:s∈A) (q:List PS) (g:Nat):takeRef e' s q g=takeRef e s q g:=by
 unfold takeRef;rw [cont_agree h hs,setMask_agree h hs]
def Sees (A:List Nat) (e:Env X) (x:AX X):Prop:=∀ s∈touchX e x,s∈A
theorem Sees.slot {A:List Nat} {x:AX X} (h:Sees A e x):∀ s∈slotX x,s∈A:=fun s hs=>h s (List.mem_append_left _ hs)
theorem Sees.root {A:List Nat} {x:AX X} (h:Sees A e x):∀ s∈rootsOf (Go.A2.rd e x),s∈A:=fun s hs=>h s (List.mem_append_right _ hs)
theorem rd_ref {s r:Nat} {q:List PS} {g:Nat} (h:e s=.ref r q g):Go.A2.rd e (.v s)=.ref r q g∧Go.A2.rd e (.t s)=.ref r q g:=by
 simp only [Go.A2.rd,h,and_self]
theorem take_agree {A:List Nat} (h:Agree A e e') {x:AX X} (hx:Sees A e x):Go.A2.take e' x=Go.A2.take e x:=by
 cases x with
 | c y=>cases y<;>rfl
 | t s=>
  simp only [Go.A2.take]
  rw [h s (hx.slot s (by simp [slotX]))]
  cases hes:e s with
  | ref r q g=>simp only [];exact takeRef_agree h (hx.root r (by rw [(rd_ref hes).2];simp [rootsOf,roots1,rootOf])) q g
  | _=>rfl
 | v s=>
  simp only [Go.A2.take]
  rw [h s (hx.slot s (by simp [slotX]))]
  cases hes:e s with
  | ref r q g=>simp only [];exact takeRef_agree h (hx.root r (by rw [(rd_ref hes).1];simp [rootsOf,roots1,rootOf])) q g
  | _=>rfl
theorem derefA_agree {A:List Nat} (h:Agree A e e') {bs:Base} {q:List PS} {n:Nat} {t:X.Ty} (hv:∀ s∈rootsOf (.ptr bs q:AV X),s∈A):derefA e' bs q n t=derefA e bs q n t:=by
 cases bs with
 | box s g=>simp only [derefA];rw [h s (hv s (by simp [rootsOf,roots1,rootOf]))]
 | elem s p g i=>simp only [derefA];rw [cont_agree h (hv s (by simp [rootsOf,roots1,rootOf]))]
theorem aview_root {bs:Base} {q:List PS} {b n:Nat} {t:X.Ty} {off hi:Nat}:rootsOf (.aview bs q b n t off hi:AV X)=rootsOf (.ptr bs q:AV X):=by cases bs<;>rfl
theorem slOf_agree {A:List Nat} (h:Agree A e e') {v:AV X} (hv:∀ s∈rootsOf v,s∈A):slOf e' v=slOf e v:=by
 cases v with
 | ref s q g=>exact cont_agree h (hv s (by simp [rootsOf,roots1,rootOf])) q g
 | view s q g off hi=>simp only [slOf];rw [cont_agree h (hv s (by simp [rootsOf,roots1,rootOf])) q g]
 | aview bs q b n t off hi=>simp only [slOf];rw [derefA_agree h (by rw [←aview_root (bs:=bs) (q:=q) (b:=b) (n:=n) (t:=t) (off:=off) (hi:=hi)];exact hv)]
 | val T v o=>cases T<;>first | rfl | (cases o<;>rfl)
 | _=>rfl
theorem ptrTy_agree {A:List Nat} (h:Agree A e e') {b:Base} {q:List PS} (hv:∀ s∈rootsOf (.ptr b q:AV X),s∈A):ptrTy e' b q=ptrTy e b q:=by
 cases b with
 | box s g=>simp only [ptrTy];rw [h s (hv s (by simp [rootsOf,roots1,rootOf]))]
 | elem s p g i=>simp only [ptrTy];rw [cont_agree h (hv s (by simp [rootsOf,roots1,rootOf]))]
theorem loadV_agree {A:List Nat} (h:Agree A e e') {T:X.Ty} {v:AV X} {d:Option Nat} (hv:∀ s∈rootsOf v,s∈A):loadV e' T v d=loadV e T v d:=by
 cases v with
 | ptr b q=>
  cases b with
  | box s g=>simp only [loadV];rw [h s (hv s (by simp [rootsOf,roots1,rootOf]))]
  | elem s p g i=>simp only [loadV];rw [cont_agree h (hv s (by simp [rootsOf,roots1,rootOf]))]
 | _=>rfl
theorem storeV_agree {A:List Nat} (h:Agree A e e') {g0:Nat} {T:X.Ty} {x:AV X} {v:X.den T} {o:Own} (hv:∀ s∈rootsOf x,s∈A):storeV e' g0 T x v o=storeV e g0 T x v o:=by
 cases x with
 | ptr b q=>
  cases b with
  | box s g=>simp only [storeV];rw [h s (hv s (by simp [rootsOf,roots1,rootOf]))]
  | elem s p g i=>simp only [storeV];rw [cont_agree h (hv s (by simp [rootsOf,roots1,rootOf])),h s (hv s (by simp [rootsOf,roots1,rootOf]))]
 | _=>rfl
theorem grab_agree {A:List Nat} (h:Agree A e e') {x:AX X} (hx:Sees A e x):Go.A2.grab e' x=Go.A2.grab e x:=by
 have key:∀ s,Sees A e (.v s)→Go.A2.grab e' (.v s)=Go.A2.grab e (.v s):=fun s hx=>by
  simp only [Go.A2.grab]
  rw [h s (hx.slot s (by simp [slotX]))]
  cases hes:e s with
  | ref r q g=>
   have hr:r∈A:=hx.root r (by rw [(rd_ref hes).1];simp [rootsOf,roots1,rootOf])
   simp only []
   rw [cont_agree h hr,setMask_agree h hr]
  | val T v o=>cases T<;>first | rfl | (cases o<;>rfl)
  | _=>rfl
 cases x with
 | c y=>cases y<;>first | rfl | (rename_i T v o;cases T<;>first | rfl | (cases o<;>rfl))
 | t s=>exact key s hx
 | v s=>exact key s hx
theorem allO_congr {α β:Type} {f g:α→Option β}:∀ {l:List α},(∀ x∈l,f x=g x)→allO f l=allO g l
 | [],_=>rfl
 | x :: l,h=>by
  simp only [allO]
  rw [h x (by simp),allO_congr fun y hy=>h y (by simp [hy])]
theorem mem_rootsL {l:List (AV X)} {x:AV X} (hx:x∈l):∀ s∈rootOf x,s∈rootsL l:=by
 induction l with
 | nil=>cases hx
 | cons y l ih=>
  intro s hs
  simp only [rootsL]
  rcases List.mem_cons.1 hx with rfl | hx
  ·exact List.mem_append_left _ hs
  ·exact List.mem_append_right _ (ih hx s hs)
theorem mem_rootsL1 {l:List (AV X)} {x:AV X} (hx:x∈l):∀ s∈roots1 x,s∈rootsL1 l:=by
 induction l with
 | nil=>cases hx
 | cons y l ih=>
  intro s hs
  simp only [rootsL1]
  rcases List.mem_cons.1 hx with rfl | hx
  ·exact List.mem_append_left _ hs
  ·exact List.mem_append_right _ (ih hx s hs)
theorem capArg_agree {A:List Nat} (h:Agree A e e') {v:AV X} (hv:∀ s∈roots1 v,s∈A):capArg e' v=capArg e v:=by
 cases v with
 | ptr b q=>
  cases b with
  | box s g=>simp only [capArg];rw [h s (hv s (by simp [roots1,rootOf]))]
  | elem s p g i=>rfl
 | _=>rfl
theorem lendB_arg {f:Nat} {as bs:List (AV X)} {a:Arg X} (h:lendB e f as bs=some a):∃ s g T v o,as=[]∧bs=[.ptr (.box s g) []]∧a=⟨.fnb f 0 T v o,some s,[],[]⟩:=by
 unfold lendB at h
 split at h
 ·rename_i s g
  split at h
  ·split at h
   ·cases h;exact ⟨s,g,_,_,_,rfl,rfl,rfl⟩
   ·cases h
  ·cases h
 ·cases h
theorem lendB_agree {A:List Nat} (h:Agree A e e') {f:Nat} {as bs:List (AV X)} (hv:∀ s∈rootsL1 bs,s∈A):lendB e' f as bs=lendB e f as bs:=by
 unfold lendB
 split
 ·rename_i s g
  rw [h s (hv s (by simp [rootsL1,roots1,rootOf]))]
 ·rfl
theorem argV_agree {A:List Nat} (h:Agree A e e') {v:AV X} (hv:∀ s∈rootsOf v,s∈A):argV e' v=argV e v:=by
 cases v with
 | ref s q g=>simp only [argV];rw [cont_agree h (hv s (by simp [rootsOf,roots1,rootOf]))]
 | ptr b q=>
  cases b with
  | box s g=>
   cases q with
   | nil=>simp only [argV];rw [h s (hv s (by simp [rootsOf,roots1,rootOf]))]
   | cons=>rfl
  | elem s p g i=>rfl
 | fn f as bs=>
  simp only [argV]
  have hr:∀ s,s∈rootsL1 as++rootsL1 bs→s∈A:=fun s hs=>hv s hs
  rw [allO_congr (f:=capArg e') (g:=capArg e) (l:=as) fun x hx=>capArg_agree h fun s hs=>hr s (List.mem_append_left _ (mem_rootsL1 hx s hs)),
   allO_congr (f:=capArg e') (g:=capArg e) (l:=bs) fun x hx=>capArg_agree h fun s hs=>hr s (List.mem_append_right _ (mem_rootsL1 hx s hs)),lendB_agree h fun s hs=>hr s (List.mem_append_right _ hs)]
 | aview bs q b n t off hi=>
  cases bs with
  | box s g=>
   simp only [argV]
   rw [h s (hv s (by simp [rootsOf,roots1,rootOf])),slOf_agree h hv]
  | elem=>rfl
 | fref s g=>simp only [argV];rw [h s (hv s (by simp [rootsOf,roots1,rootOf]))]
 | _=>rfl
theorem capA_agree {A:List Nat} (h:Agree A e e') {f:Nat} {v:AV X} (hv:∀ s∈roots1 v,s∈A):capA e' f v=capA e f v:=by
 unfold capA
 split
 ·cases v with
  | ptr b q=>
   cases b with
   | box s g=>
    cases q with
    | nil=>exact argV_agree (v:=.ptr (.box s g) []) h hv
    | cons=>exact capArg_agree h hv
   | elem s p g i=>exact capArg_agree h hv
  | rfn f a b=>rfl
  | _=>exact capArg_agree h hv
 ·exact capArg_agree h hv
def rfnRoots:AV X→List Nat
 | .rfn _ a b=>rootsL a++rootsL b
 | _=>[]
theorem fixP_agree {A:List Nat} (h:Agree A e e') {bk:List (Option Nat)} {v:AV X} (hv:∀ s∈rootOf v,s∈A):fixP e' bk v=fixP e bk v:=by
 cases v with
 | ptr b q=>
  cases b with
  | box s g=>
   cases q with
   | nil=>simp only [fixP];rw [h s (hv s (by simp [rootOf]))]
   | cons=>rfl
  | elem s p g i=>rfl
 | _=>rfl
theorem fixAll_agree {A:List Nat} (h:Agree A e e') {as:List (Arg X)} (ha:∀ a∈as,∀ s∈rfnRoots a.a,s∈A):fixAll e' as=fixAll e as:=by
 unfold fixAll
 refine List.map_congr_left fun a hm=>?_
 have:=ha a hm
 unfold fixA
 congr 1
 generalize a.a=x at this
 cases x with
 | rfn f as bs=>
  simp only [fixV]
  have hr:∀ s,s∈rootsL as++rootsL bs→s∈A:=fun s hs=>this s hs
  rw [List.map_congr_left fun x hx=>fixP_agree h fun s hs=>hr s (List.mem_append_left _ (mem_rootsL hx s hs)),List.map_congr_left (l:=bs) fun x hx=>fixP_agree h fun s hs=>hr s (List.mem_append_right _ (mem_rootsL hx s hs))]
 | _=>rfl
theorem capArg_rfn {f:Nat} {v:AV X} {a:Arg X} (h:capArg e v=some a):rfnRoots a.a=[]:=by
 cases v with
 | ptr b q=>
  cases b with
  | box s g=>
   simp only [capArg] at h
   split at h
   ·split at h
    ·split at h
     ·cases h;rfl
     ·cases h
    ·cases h
   ·cases h
  | elem s p g i=>simp [capArg] at h
 | val T v o=>
  simp only [capArg] at h
  split at h
  ·cases h;rfl
  ·cases h
 | rptr T v=>simp only [capArg,Option.some.injEq] at h;subst h;rfl
 | undef=>simp only [capArg,Option.some.injEq] at h;subst h;rfl
 | _=>simp [capArg] at h
theorem argV_rfn {v:AV X} {a:Arg X} (h:argV e v=some a):∀ s∈rfnRoots a.a,s∈rootsOf v:=by
 cases v with
 | ref s q g=>
  simp only [argV] at h
  split at h
  ·cases h;simp [rfnRoots]
  ·cases h
 | ptr b q=>
  cases b with
  | box s g=>
   cases q with
   | nil=>
    simp only [argV] at h
    split at h
    ·split at h
     ·cases h;simp [rfnRoots]
     ·cases h
    ·cases h
   | cons=>simp [argV] at h
  | elem s p g i=>simp [argV] at h
 | val T v o=>
  simp only [argV] at h
  split at h
  ·cases h;simp [rfnRoots]
  ·cases h
 | rptr T v=>simp only [argV,Option.some.injEq] at h;subst h;simp [rfnRoots]
 | rfn f as bs=>simp only [argV,Option.some.injEq] at h;subst h;exact fun s hs=>hs
 | fn f as bs=>
  simp only [argV] at h
  split at h
  ·obtain ⟨s,g,T,v,o,_,_,rfl⟩:=lendB_arg h;simp [rfnRoots]
  ·split at h
   ·cases h;simp [rfnRoots]
   ·cases h
 | aview bs q b n t off hi=>
  cases bs with
  | box s g=>
   simp only [argV] at h
   split at h
   ·split at h
    ·cases h;simp [rfnRoots]
    ·cases h
   ·cases h
  | elem=>simp [argV] at h
 | fref s g=>
  simp only [argV] at h
  split at h
  ·split at h
   ·cases h;simp [rfnRoots]
   ·cases h
  ·cases h
 | _=>simp [argV] at h
theorem capA_rfn {f:Nat} {v:AV X} {a:Arg X} (h:capA e f v=some a):∀ s∈rfnRoots a.a,s∈roots1 v:=by
 unfold capA at h
 split at h
 ·unfold capL at h
  split at h
  ·exact argV_rfn h
  ·exact argV_rfn h
  ·rw [capArg_rfn (f:=f) h];simp
 ·rw [capArg_rfn (f:=f) h];simp
theorem lendV_cases (e:Env X) (v:AV X):(∃ s g,v=.ref s [] g∧lendV e v=lendR e s g)∨(∃ T x,lendV e v=some ⟨.val T x .full,none,[],[]⟩)∨lendV e v=argV e v:=by
 cases v with
 | ref s q g=>
  cases q with
  | nil=>exact .inl ⟨s,g,rfl,rfl⟩
  | cons=>exact .inr (.inr rfl)
 | val T x o=>
  cases o with
  | full=>exact .inr (.inl ⟨T,x,rfl⟩)
  | _=>exact .inr (.inr rfl)
 | _=>exact .inr (.inr rfl)
theorem lendV_agree {A:List Nat} (h:Agree A e e') {v:AV X} (hv:∀ s∈rootsOf v,s∈A):lendV e' v=lendV e v:=by
 cases v with
 | ref s q g=>
  cases q with
  | nil=>
   show lendR e' s g=lendR e s g
   unfold lendR
   rw [h s (hv s (by simp [rootsOf,roots1,rootOf]))]
  | cons=>exact argV_agree (v:=.ref s _ g) h hv
 | val T x o=>cases o<;>rfl
 | _=>exact argV_agree h hv
theorem lendR_arg {s g:Nat} {a:Arg X} (h:lendR e s g=some a):rfnRoots a.a=[]∧a.back=some s∧a.roots=[]∧a.caps=[]:=by
 unfold lendR at h
 split at h
 ·split at h
  ·cases h;exact ⟨rfl,rfl,rfl,rfl⟩
  ·cases h
 ·cases h
theorem argF_agree {A:List Nat} (h:Agree A e e') {f:Nat} {x:AX X} (hx:Sees A e x):argF e' f x=argF e f x:=by
 unfold argF
 rw [rd_agree h hx.slot]
 split
 ·exact lendV_agree h hx.root
 ·exact argV_agree h hx.root
theorem argF_rfn {f:Nat} {x:AX X} {a:Arg X} (h:argF e f x=some a):∀ s∈rfnRoots a.a,s∈rootsOf (Go.A2.rd e x):=by
 unfold argF at h
 split at h
 ·rcases lendV_cases e (Go.A2.rd e x) with ⟨s,g,h1,h2⟩ | ⟨T,y,h1⟩ | h1
  ·rw [h2] at h
   rw [(lendR_arg h).1];simp
  ·rw [h1] at h;cases h;simp [rfnRoots]
  ·rw [h1] at h;exact argV_rfn h
 ·exact argV_rfn h
def Soft (e e1:Env X):Prop:=∀ s,e1 s=e s∨e1 s=.undef∨∃ m,e1 s=withMask (e s) m∧(slotC (e s)).isSome=true
theorem soft_one {s:Nat} {v:AV X} (h:v=.undef∨∃ m,v=withMask (e s) m∧(slotC (e s)).isSome=true):Soft e (applyU e [(s,v)]):=fun t=>by
 show Go.A2.upd e s v t=e t∨_
 by_cases ht:t=s
 ·subst ht
  rcases h with rfl | ⟨m,rfl,hm⟩
  ·exact .inr (.inl (upd_same e t _))
  ·exact .inr (.inr ⟨m,upd_same e t _,hm⟩)
 ·exact .inl (upd_ne e v ht)
theorem take_soft {x:AX X} {T:X.Ty} {v:X.den T} {o:Own} {u:Ups X} (h:Go.A2.take e x=some ⟨T,v,o,u⟩):Soft e (applyU e u):=by
 have ref:∀ {r q g},takeRef e r q g=some ⟨T,v,o,u⟩→Soft e (applyU e u):=fun {r q g} h=>by
  unfold takeRef at h
  split at h
  ·rename_i hc hm
   cases h
   obtain ⟨T,v,o0,m,k1,k2,rfl⟩:=setMask_some hm
   exact soft_one (.inr ⟨m,rfl,by rw [k1];rfl⟩)
  ·cases h
 cases x with
 | c y=>
  cases y with
  | val T' v' o'=>
   simp only [Go.A2.take] at h
   split at h
   ·cases h;exact fun s=>.inl rfl
   ·cases h
  | _=>simp [Go.A2.take] at h
 | t s=>
  simp only [Go.A2.take] at h
  split at h
  ·rename_i T' v' o' hes
   split at h
   ·cases h;exact fun s=>.inl rfl
   ·cases h;exact soft_one (.inl rfl)
  ·exact ref h
  ·cases h
 | v s=>
  simp only [Go.A2.take] at h
  split at h
  ·rename_i T' v' o' hes
   split at h
   ·cases h;exact fun s=>.inl rfl
   ·split at h
    ·cases h;exact soft_one (.inr ⟨.no,by rw [hes];rfl,by rw [hes];rfl⟩)
    ·cases h
  ·exact ref h
  ·cases h
theorem Sees.soft {A:List Nat} {e1:Env X} (hs:Soft e e1) {x:AX X} (h:Sees A e x):Sees A e1 x:=fun t ht=>by
 rcases List.mem_append.1 ht with ht | ht
 ·exact h.slot t ht
 ·have key:∀ s,Sees A e (.v s)→t∈rootsOf (Go.A2.rd e1 (.v s))→t∈A:=fun s h ht=>by
   rcases hs s with h1 | h1 | ⟨m,h1,h2⟩
   ·refine h.root t ?_
    simp only [Go.A2.rd] at ht ⊢
    rw [h1] at ht;exact ht
   ·simp only [Go.A2.rd,h1] at ht;simp [rootsOf,roots1,rootOf] at ht
   ·have hts:t=s:=by
     cases hes:e s with
     | val T v o=>
      rw [hes] at h1
      simp only [withMask] at h1
      simp only [Go.A2.rd,h1] at ht
      cases T with
      | slice b t'=>cases m<;>simp [rootsOf,roots1,rootOf] at ht<;>exact ht
      | map k t'=>cases m<;>simp [rootsOf,roots1,rootOf] at ht<;>exact ht
      | _=>simp [rootsOf,roots1,rootOf] at ht
     | box g T v o=>
      rw [hes] at h1
      simp only [withMask] at h1
      simp only [Go.A2.rd,h1] at ht
      simpa [rootsOf,roots1,rootOf] using ht
     | _=>rw [hes] at h2;cases h2
    subst hts
    exact h.slot t (by simp [slotX])
  cases x with
  | c y=>exact h.root t ht
  | t s=>exact key s h ht
  | v s=>exact key s h ht
theorem takeAll_agree {A:List Nat}:∀ {l:List (Nat×AX X)} {e e':Env X},Agree A e e'→(∀ q∈l,Sees A e q.2)→Go.A2.takeAll e' l=Go.A2.takeAll e l
 | [],_,_,_,_=>rfl
 | (j,x) :: l,e,e',h,hl=>by
  simp only [Go.A2.takeAll]
  rw [take_agree h (hl (j,x) (by simp))]
  cases ht:Go.A2.take e x with
  | none=>rfl
  | some y=>
   obtain ⟨T,v,o,u⟩:=y
   simp only []
   rw [takeAll_agree (h.applyU u) fun q hq=>(hl q (by simp [hq])).soft (take_soft ht)]
theorem freezeAll_agree {A:List Nat}:∀ {l:List (Nat×List PS)} {e e':Env X},Agree A e e'→(∀ q∈l,q.1∈A)→Go.A2.freezeAll e' l=Go.A2.freezeAll e l
 | [],_,_,_,_=>rfl
 | (s,q) :: l,e,e',h,hl=>by
  simp only [Go.A2.freezeAll]
  rw [setMask_agree h (hl (s,q) (by simp))]
  cases setMask e s q .no with
  | none=>rfl
  | some u=>simp only [];rw [freezeAll_agree (h.applyU u) fun q hq=>hl q (by simp [hq])]
theorem giveBack_agree {A:List Nat} (h:Agree A e e') {g:Nat}:∀ {as:List (Arg X)} {os:List (AV X)},(∀ a∈as,∀ s,a.back=some s→s∈A)→giveBack e' g as os=giveBack e g as os
 | [],[],_=>rfl
 | [],_ :: _,_=>rfl
 | _ :: _,[],_=>rfl
 | a :: as,o :: os,ha=>by
  simp only [giveBack]
  rw [giveBack_agree h fun a' ha'=>ha a' (by simp [ha'])]
  cases hb:a.back with
  | none=>rfl
  | some s=>
   have hs:=h s (ha a (by simp) s hb)
   simp only [hs]
theorem allO_argF {A:List Nat} (h:Agree A e e') {f:Nat} {l:List (AX X)} (hl:∀ x∈l,Sees A e x):allO (argF e' f) l=allO (argF e f) l:=allO_congr fun x hx=>argF_agree h (hl x hx)
theorem callArgs_agree {A:List Nat} (h:Agree A e e') {op:AOp X} (hop:∀ x∈op.xs,Sees A e x):callArgs e' op=callArgs e op:=by
 cases op with
 | call f args=>
  simp only [callArgs]
  rw [allO_argF (l:=args) h hop]
  cases has:allO (argF e f) args with
  | none=>rfl
  | some as=>
   simp only []
   rw [fixAll_agree h fun a ha s hs=>by
    obtain ⟨i,hi,rfl⟩:=List.mem_iff_getElem.1 ha
    obtain ⟨x,hx,hax⟩:=allO_get' has (List.getElem?_eq_getElem hi)
    exact (hop x (List.mem_of_getElem? hx)).root s (argF_rfn hax s hs)]
 | callv x args=>
  have hx:=hop x (by simp [AOp.xs])
  simp only [callArgs]
  rw [rd_agree h hx.slot]
  cases hr:Go.A2.rd e x with
  | fn f first caps=>
   simp only []
   have hroot:∀ s,s∈rootsL1 first++rootsL1 caps→s∈A:=fun s hs=>hx.root s (by rw [hr];exact hs)
   rw [allO_argF h fun y hy=>hop y (by simp [AOp.xs,hy]),allO_congr (f:=capArg e') (g:=capArg e) (l:=first) fun y hy=>capArg_agree h fun s hs=>hroot s (List.mem_append_left _ (mem_rootsL1 hy s hs)),
    allO_congr (f:=capA e' f) (g:=capA e f) (l:=caps) fun y hy=>capA_agree h fun s hs=>hroot s (List.mem_append_right _ (mem_rootsL1 hy s hs))]
   cases h1:allO (argF e f) args with
   | none=>rfl
   | some as=>
    cases h2:allO (capArg e) first with
    | none=>rfl
    | some fs=>
     cases h3:allO (capA e f) caps with
     | none=>rfl
     | some cs=>
      simp only []
      rw [fixAll_agree h fun a ha s hs=>by
       rcases List.mem_append.1 ha with ha | ha
       ·rcases List.mem_append.1 ha with ha | ha
        ·obtain ⟨i,hi,rfl⟩:=List.mem_iff_getElem.1 ha
         obtain ⟨x,hx,hax⟩:=allO_get' h2 (List.getElem?_eq_getElem hi)
         rw [capArg_rfn (f:=f) hax] at hs;cases hs
        ·obtain ⟨i,hi,rfl⟩:=List.mem_iff_getElem.1 ha
         obtain ⟨x,hx,hax⟩:=allO_get' h1 (List.getElem?_eq_getElem hi)
         exact (hop x (by simp [AOp.xs,List.mem_of_getElem? hx])).root s (argF_rfn hax s hs)
       ·obtain ⟨i,hi,rfl⟩:=List.mem_iff_getElem.1 ha
        obtain ⟨x,hx,hax⟩:=allO_get' h3 (List.getElem?_eq_getElem hi)
        exact hroot s (List.mem_append_right _ (mem_rootsL1 (List.mem_of_getElem? hx) s (capA_rfn hax s hs)))]
  | fref s g=>
   simp only []
   rw [h s (hx.root s (by rw [hr];simp [rootsOf,roots1,rootOf]))]
   split
   ·rename_i f g' T v o hes
    rw [allO_argF (l:=args) h fun y hy=>hop y (by simp [AOp.xs,hy])]
    split
    ·cases h1:allO (argF e f) args with
     | none=>rfl
     | some as=>
      simp only []
      rw [fixAll_agree h fun a ha s hs=>by
       rcases List.mem_append.1 ha with ha | ha
       ·obtain ⟨i,hi,rfl⟩:=List.mem_iff_getElem.1 ha
        obtain ⟨x,hx,hax⟩:=allO_get' h1 (List.getElem?_eq_getElem hi)
        exact (hop x (by simp [AOp.xs,List.mem_of_getElem? hx])).root s (argF_rfn hax s hs)
       ·simp at ha;subst ha;cases hs]
    ·rfl
   ·rfl
  | _=>rfl
 | _=>rfl
theorem argV_roots {v:AV X} {a:Arg X} (h:argV e v=some a):(∀ s,a.back=some s→s∈rootsOf v)∧∀ r∈a.roots,r.1∈rootsOf v:=by
 cases v with
 | ref s q g=>
  simp only [argV] at h
  split at h
  ·cases h;exact ⟨by simp,by simp [rootsOf,roots1,rootOf]⟩
  ·cases h
 | ptr b q=>
  cases b with
  | box s g=>
   cases q with
   | nil=>
    simp only [argV] at h
    split at h
    ·split at h
     ·cases h;exact ⟨by simp [rootsOf,roots1,rootOf],by simp⟩
     ·cases h
    ·cases h
   | cons=>simp [argV] at h
  | elem s p g i=>simp [argV] at h
 | val T v o=>
  simp only [argV] at h
  split at h
  ·cases h;exact ⟨by simp,by simp⟩
  ·cases h
 | rptr T v=>simp only [argV,Option.some.injEq] at h;subst h;exact ⟨by simp,by simp⟩
 | rfn f as bs=>simp only [argV,Option.some.injEq] at h;subst h;exact ⟨by simp,by simp⟩
 | fn f as bs=>
  simp only [argV] at h
  split at h
  ·obtain ⟨s,g,T,v,o,rfl,rfl,rfl⟩:=lendB_arg h
   exact ⟨by simp [rootsOf,rootsL1,roots1,rootOf],by simp⟩
  ·split at h
   ·cases h;exact ⟨by simp,by simp⟩
   ·cases h
 | aview bs q b n t off hi=>
  cases bs with
  | box s g=>
   simp only [argV] at h
   split at h
   ·split at h
    ·cases h;exact ⟨by simp,by simp⟩
    ·cases h
   ·cases h
  | elem=>simp [argV] at h
 | fref s g=>
  simp only [argV] at h
  split at h
  ·split at h
   ·cases h;exact ⟨by simp [rootsOf,roots1,rootOf],by simp⟩
   ·cases h
  ·cases h
 | _=>simp [argV] at h
theorem argF_roots {f:Nat} {x:AX X} {a:Arg X} (h:argF e f x=some a):(∀ s,a.back=some s→s∈rootsOf (Go.A2.rd e x))∧∀ r∈a.roots,r.1∈rootsOf (Go.A2.rd e x):=by
 unfold argF at h
 split at h
 ·rcases lendV_cases e (Go.A2.rd e x) with ⟨s,g,h1,h2⟩ | ⟨T,y,h1⟩ | h1
  ·rw [h2] at h
   obtain ⟨_,k1,k2,_⟩:=lendR_arg h
   rw [k1,k2,h1]
   exact ⟨fun s' hs=>by cases hs;simp [rootsOf,roots1,rootOf],by simp⟩
  ·rw [h1] at h;cases h;simp
  ·rw [h1] at h;exact argV_roots h
 ·exact argV_roots h
theorem capArg_caps {v:AV X} {a:Arg X} (h:capArg e v=some a):∀ s∈a.caps,s∈roots1 v:=by
 cases v with
 | ptr b q=>
  cases b with
  | box s g=>
   simp only [capArg] at h
   split at h
   ·split at h
    ·split at h
     ·cases h;simp [roots1,rootOf]
     ·cases h
    ·cases h
   ·cases h
  | elem s p g i=>simp [capArg] at h
 | val T v o=>
  simp only [capArg] at h
  split at h
  ·cases h;simp
  ·cases h
 | rptr T v=>simp only [capArg,Option.some.injEq] at h;subst h;simp
 | undef=>simp only [capArg,Option.some.injEq] at h;subst h;simp
 | _=>simp [capArg] at h
theorem argV_caps {v:AV X} {a:Arg X} (h:argV e v=some a):∀ s∈a.caps,s∈rootsOf v:=by
 cases v with
 | ref s q g=>
  simp only [argV] at h
  split at h
  ·cases h;simp
  ·cases h
 | ptr b q=>
  cases b with
  | box s g=>
   cases q with
   | nil=>
    simp only [argV] at h
    split at h
    ·split at h
     ·cases h;simp
     ·cases h
    ·cases h
   | cons=>simp [argV] at h
  | elem s p g i=>simp [argV] at h
 | val T v o=>
  simp only [argV] at h
  split at h
  ·cases h;simp
  ·cases h
 | rptr T v=>simp only [argV,Option.some.injEq] at h;subst h;simp
 | rfn f as bs=>simp only [argV,Option.some.injEq] at h;subst h;simp
 | fn f as bs=>
  simp only [argV] at h
  split at h
  ·obtain ⟨s,g,T,v,o,rfl,rfl,rfl⟩:=lendB_arg h;simp
  ·split at h
   ·rename_i fs cs h1 h2
    cases h
    intro s hs
    obtain ⟨C,hC,hsC⟩:=List.mem_flatMap.1 hs
    rcases List.mem_append.1 hC with hC | hC
    ·obtain ⟨i,hi,rfl⟩:=List.mem_iff_getElem.1 hC
     obtain ⟨y,hy,hcy⟩:=allO_get' h1 (List.getElem?_eq_getElem hi)
     exact List.mem_append_left _ (mem_rootsL1 (List.mem_of_getElem? hy) s (capArg_caps hcy s hsC))
    ·obtain ⟨i,hi,rfl⟩:=List.mem_iff_getElem.1 hC
     obtain ⟨y,hy,hcy⟩:=allO_get' h2 (List.getElem?_eq_getElem hi)
     exact List.mem_append_right _ (mem_rootsL1 (List.mem_of_getElem? hy) s (capArg_caps hcy s hsC))
   ·cases h
 | aview bs q b n t off hi=>
  cases bs with
  | box s g=>
   simp only [argV] at h
   split at h
   ·split at h
    ·cases h;simp [rootsOf,roots1,rootOf]
    ·cases h
   ·cases h
  | elem=>simp [argV] at h
 | fref s g=>
  simp only [argV] at h
  split at h
  ·split at h
   ·cases h;simp
   ·cases h
  ·cases h
 | _=>simp [argV] at h
theorem argF_caps {f:Nat} {x:AX X} {a:Arg X} (h:argF e f x=some a):∀ s∈a.caps,s∈rootsOf (Go.A2.rd e x):=by
 unfold argF at h
 split at h
 ·rcases lendV_cases e (Go.A2.rd e x) with ⟨s,g,h1,h2⟩ | ⟨T,y,h1⟩ | h1
  ·rw [h2] at h
   rw [(lendR_arg h).2.2.2];simp
  ·rw [h1] at h;cases h;simp
  ·rw [h1] at h;exact argV_caps h
 ·exact argV_caps h
theorem capArg_roots {v:AV X} {a:Arg X} (h:capArg e v=some a):a.back=none∧a.roots=[]:=by
 cases v with
 | ptr b q=>
  cases b with
  | box s g=>
   simp only [capArg] at h
   split at h
   ·split at h
    ·split at h
     ·cases h;exact ⟨rfl,rfl⟩
     ·cases h
    ·cases h
   ·cases h
  | elem s p g i=>simp [capArg] at h
 | val T v o=>
  simp only [capArg] at h
  split at h
  ·cases h;exact ⟨rfl,rfl⟩
  ·cases h
 | rptr T v=>simp only [capArg,Option.some.injEq] at h;subst h;exact ⟨rfl,rfl⟩
 | undef=>simp only [capArg,Option.some.injEq] at h;subst h;exact ⟨rfl,rfl⟩
 | _=>simp [capArg] at h
theorem capA_roots {f:Nat} {v:AV X} {a:Arg X} (h:capA e f v=some a):(∀ s,a.back=some s→s∈roots1 v∧isLf X f=true)∧a.roots=[]:=by
 unfold capA at h
 split at h
 ·rename_i hlf
  unfold capL at h
  split at h
  ·simp only [argV,Option.some.injEq] at h;subst h;exact ⟨by simp,rfl⟩
  ·simp only [argV] at h
   split at h
   ·split at h
    ·cases h;exact ⟨fun s hs=>by cases hs;exact ⟨by simp [roots1,rootOf],hlf⟩,rfl⟩
    ·cases h
   ·cases h
  ·obtain ⟨h1,h2⟩:=capArg_roots h
   rw [h1];exact ⟨by simp,h2⟩
 ·obtain ⟨h1,h2⟩:=capArg_roots h
  rw [h1];exact ⟨by simp,h2⟩
theorem fixAll_mem {as:List (Arg X)} {a:Arg X} (h:a∈fixAll e as):∃ a0∈as,a.back=a0.back∧a.roots=a0.roots∧a.caps=a0.caps:=by
 unfold fixAll at h
 obtain ⟨a0,h1,rfl⟩:=List.mem_map.1 h
 exact ⟨a0,h1,rfl,rfl,rfl⟩
theorem afterCall_agree {A:List Nat} (h:Agree A e e') {cp:Bool} {g:Nat} {as:List (Arg X)} (ha:∀ a∈as,(∀ s,a.back=some s→s∈A)∧∀ r∈a.roots,r.1∈A) {d:Option Nat} {r:Ret X}:afterCall cp e' g as d r=afterCall cp e g as d r:=by
 unfold afterCall
 simp only []
 rw [giveBack_agree h fun a hm=>(ha a hm).1,freezeAll_agree (l:=as.flatMap (·.roots)) h fun q hq=>by
  obtain ⟨a,hm,hq⟩:=List.mem_flatMap.1 hq
  exact (ha a hm).2 q hq]
theorem oNat_agree {A:List Nat} (h:Agree A e e') {x:Option (AX X)} (hx:∀ y,x=some y→Sees A e y):oNat e' x=oNat e x:=by
 cases x with
 | none=>rfl
 | some y=>simp only [oNat];rw [rd_agree h (hx y rfl).slot]
theorem callArgs_roots {A:List Nat} {op:AOp X} (hop:∀ x∈op.xs,Sees A e x) {f:Nat} {as:List (Arg X)} (h:callArgs e op=some (f,as)):∀ a∈as,(∀ s,a.back=some s→s∈A)∧∀ r∈a.roots,r.1∈A:=by
 have args:∀ {f:Nat} {l:List (AX X)} {as:List (Arg X)},(∀ x∈l,Sees A e x)→allO (argF e f) l=some as→∀ a∈as,(∀ s,a.back=some s→s∈A)∧∀ r∈a.roots,r.1∈A:=fun {f l as} hl h a ha=>by
  obtain ⟨i,hi,rfl⟩:=List.mem_iff_getElem.1 ha
  obtain ⟨x,hx,hax⟩:=allO_get' h (List.getElem?_eq_getElem hi)
  have hs:=hl x (List.mem_of_getElem? hx)
  obtain ⟨h1,h2⟩:=argF_roots hax
  exact ⟨fun s h=>hs.root s (h1 s h),fun r h=>hs.root r.1 (h2 r h)⟩
 have caps:∀ {l:List (AV X)} {as:List (Arg X)},allO (capArg e) l=some as→∀ a∈as,(∀ s,a.back=some s→s∈A)∧∀ r∈a.roots,r.1∈A:=fun {l as} h a ha=>by
  obtain ⟨i,hi,rfl⟩:=List.mem_iff_getElem.1 ha
  obtain ⟨x,hx,hax⟩:=allO_get' h (List.getElem?_eq_getElem hi)
  obtain ⟨h1,h2⟩:=capArg_roots hax
  rw [h1,h2];simp
 cases op with
 | call f' l=>
  simp only [callArgs] at h
  split at h
  ·rename_i as' h1
   simp only [Option.some.injEq,Prod.mk.injEq] at h
   obtain ⟨_,rfl⟩:=h
   intro a ha
   obtain ⟨a0,q1,q2,q3,_⟩:=fixAll_mem ha
   rw [q2,q3]
   exact args hop h1 a0 q1
  ·cases h
 | callv x l=>
  simp only [callArgs] at h
  split at h
  ·rename_i f' first cps hrd
   split at h
   ·rename_i as' fs cs h1 h2 h3
    simp only [Option.some.injEq,Prod.mk.injEq] at h
    obtain ⟨_,rfl⟩:=h
    intro a ha
    obtain ⟨a0,ha,q2,q3,_⟩:=fixAll_mem ha
    rw [q2,q3]
    rcases List.mem_append.1 ha with ha | ha
    ·rcases List.mem_append.1 ha with ha | ha
     ·exact caps h2 a0 ha
     ·exact args (fun y hy=>hop y (by simp [AOp.xs,hy])) h1 a0 ha
    ·obtain ⟨i,hi,rfl⟩:=List.mem_iff_getElem.1 ha
     obtain ⟨y,hy,hay⟩:=allO_get' h3 (List.getElem?_eq_getElem hi)
     obtain ⟨k1,k2⟩:=capA_roots hay
     rw [k2]
     exact ⟨fun s hs=>(hop x (by simp [AOp.xs])).root s (by rw [hrd];exact List.mem_append_right _ (mem_rootsL1 (List.mem_of_getElem? hy) s (k1 s hs).1)),by simp⟩
   ·cases h
  ·rename_i s g hrd
   split at h
   ·split at h
    ·split at h
     ·rename_i as' h1
      simp only [Option.some.injEq,Prod.mk.injEq] at h
      obtain ⟨_,rfl⟩:=h
      intro a ha
      obtain ⟨a0,ha,q2,q3,_⟩:=fixAll_mem ha
      rw [q2,q3]
      rcases List.mem_append.1 ha with ha | ha
      ·exact args (fun y hy=>hop y (by simp [AOp.xs,hy])) h1 a0 ha
      ·simp at ha;subst ha
       exact ⟨fun s' hs=>by cases hs;exact (hop x (by simp [AOp.xs])).root s (by rw [hrd];simp [rootsOf,roots1,rootOf]),by simp⟩
     ·cases h
    ·cases h
   ·cases h
  ·cases h
 | _=>simp [callArgs] at h
theorem mapAt_agree {A:List Nat} (h:Agree A e e') {k t:X.Ty} {y:AV X} (hr:∀ s∈rootsOf y,s∈A):Go.A2.mapAt e' k t y=Go.A2.mapAt e k t y:=by
 cases y with
 | mref s g=>simp only [Go.A2.mapAt];rw [h s (hr s (by simp [rootsOf,roots1,rootOf]))]
 | _=>rfl
theorem mapOf_agree {A:List Nat} (h:Agree A e e') {k t:X.Ty} {y:AV X} (hr:∀ s∈rootsOf y,s∈A):mapOf e' k t y=mapOf e k t y:=by
 cases y with
 | mref s g=>simp only [mapOf];rw [mapAt_agree h hr]
 | _=>rfl
theorem eff_agree {A:List Nat} (h:Agree A e e') {ans:Ret X} {g:Nat} {d:Option Nat} {op:AOp X} (hop:∀ x∈op.xs,Sees A e x):eff ans g e' d op=eff ans g e d op:=by
 have rdx:∀ x∈op.xs,Go.A2.rd e' x=Go.A2.rd e x:=fun x hx=>rd_agree h (hop x hx).slot
 have call:∀ cp op,(∀ x∈op.xs,Sees A e x)→(match callArgs e' op with | some (_,as)=>afterCall cp e' g as d ans | none=>none)=(match callArgs e op with | some (_,as)=>afterCall cp e g as d ans | none=>none):=fun cp op hop=>by
  rw [callArgs_agree h hop]
  cases hc:callArgs e op with
  | none=>rfl
  | some q=>obtain ⟨f,as⟩:=q;exact afterCall_agree h (callArgs_roots hop hc)
 cases op with
 | move x=>
  have hx:=hop x (by simp [AOp.xs])
  have hr:=rdx x (by simp [AOp.xs])
  cases x with
  | c y=>rfl
  | t s=>
   simp only [eff];rw [h s (hx.slot s (by simp [slotX])),hr]
   cases hes:e s with
   | ref r q g'=>
    have hm:r∈A:=hx.root r (by rw [(rd_ref hes).2];simp [rootsOf,roots1,rootOf])
    have:selfMv e' d r q g'=selfMv e d r q g':=by unfold selfMv;rw [h r hm]
    simp only [this]
   | _=>rfl
  | v s=>simp only [eff];rw [h s (hx.slot s (by simp [slotX])),hr]
 | pick c a b=>simp only [eff];rw [rdx c (by simp [AOp.xs]),rdx a (by simp [AOp.xs]),rdx b (by simp [AOp.xs])]
 | alloc T=>rfl
 | box T x=>simp only [eff];rw [take_agree h (hop x (by simp [AOp.xs]))]
 | moveT x=>simp only [eff];rw [take_agree h (hop x (by simp [AOp.xs]))]
 | load T x=>simp only [eff];rw [rdx x (by simp [AOp.xs])];exact loadV_agree h (hop x (by simp [AOp.xs])).root
 | store T x v=>
  simp only [eff]
  rw [take_agree h (hop v (by simp [AOp.xs]))]
  cases ht:Go.A2.take e v with
  | none=>rfl
  | some y=>
   obtain ⟨T',v',o,u⟩:=y
   simp only []
   have hx:=(hop x (by simp [AOp.xs])).soft (take_soft ht)
   rw [rd_agree (h.applyU u) hx.slot]
   cases castT v' T with
   | none=>rfl
   | some v2=>simp only [];rw [storeV_agree (h.applyU u) hx.root]
 | fld i j x=>
  simp only [eff];rw [rdx x (by simp [AOp.xs])]
  cases hr:Go.A2.rd e x with
  | ptr b q=>simp only [];rw [ptrTy_agree h (by rw [←hr];exact (hop x (by simp [AOp.xs])).root)]
  | _=>rfl
 | nilCheck x=>
  simp only [eff];rw [rdx x (by simp [AOp.xs])]
  cases hr:Go.A2.rd e x with
  | ptr b q=>simp only [];rw [ptrTy_agree h (by rw [←hr];exact (hop x (by simp [AOp.xs])).root)]
  | _=>rfl
 | extract x i=>
  have hx:=hop x (by simp [AOp.xs])
  cases x with
  | t s=>simp only [eff];rw [h s (hx.slot s (by simp [slotX]))]
  | _=>rfl
 | call f args=>simp only [eff];exact call _ _ hop
 | callv x args=>simp only [eff];exact call _ _ hop
 | len b x=>cases b<;>simp only [eff]<;>rw [rdx x (by simp [AOp.xs])];rw [slOf_agree h (hop x (by simp [AOp.xs])).root]
 | bad=>rfl
 | isNil n x=>rfl
 | idxA n t x i=>
  simp only [eff];rw [rdx x (by simp [AOp.xs]),rdx i (by simp [AOp.xs])]
  have hroot:=(hop x (by simp [AOp.xs])).root
  generalize Go.A2.rd e x=y at hroot
  generalize Go.A2.rd e i=z
  cases y with
  | ptr b q=>
   cases z with
   | val T v o=>
    cases T with
    | int k=>exact congrArg (fun z=>if z=some (.arr n t) then (idx? n (v:W k)).bind fun j=>some (outU d (.ptr b (q++[.idx j]))) else none) (ptrTy_agree h hroot)
    | _=>rfl
   | _=>rfl
  | rptr T v=>cases z with
   | val T v o=>cases T<;>rfl
   | _=>rfl
  | _=>rfl
 | idxS b t x i=>
  simp only [eff];rw [rdx x (by simp [AOp.xs]),rdx i (by simp [AOp.xs])]
  have hroot:=(hop x (by simp [AOp.xs])).root
  generalize Go.A2.rd e x=y at hroot
  generalize Go.A2.rd e i=z
  cases y with
  | ref s q g'=>
   cases z with
   | val T v o=>
    cases T with
    | int k=>
     have hc:cont e' s q g'=cont e s q g':=cont_agree h (hroot s (by simp [rootsOf,roots1,rootOf])) q g'
     show (match cont e' s q g' with | some ⟨b',t',l⟩=>if b=b'∧t=t' then (idx? l.l.length (v:W k)).bind fun j=>some (outU d (.ptr (.elem s q g' j) [])) else none | none=>none)=(match cont e s q g' with | some ⟨b',t',l⟩=>if b=b'∧t=t' then (idx? l.l.length (v:W k)).bind fun j=>some (outU d (.ptr (.elem s q g' j) [])) else none | none=>none)
     rw [hc]
    | _=>rfl
   | _=>rfl
  | val T v o=>cases z with
   | val T v o=>cases T<;>rfl
   | _=>rfl
  | _=>rfl
 | view b t x lo hi=>
  simp only [eff]
  rw [rdx x (by simp [AOp.xs]),oNat_agree (x:=lo) h fun y hy=>hop y (by subst hy;simp [AOp.xs]),oNat_agree (x:=hi) h fun y hy=>hop y (by subst hy;simp [AOp.xs])]
  have hroot:=(hop x (by simp [AOp.xs])).root
  generalize Go.A2.rd e x=y at hroot
  generalize oNat e lo=lo
  generalize oNat e hi=hi
  cases lo<;>cases hi<;>try rfl
  cases y with
  | ref s q g'=>
   have hc:cont e' s q g'=cont e s q g':=cont_agree h (hroot s (by simp [rootsOf,roots1,rootOf])) q g'
   simp only []
   rw [hc]
  | _=>rfl
 | clr b t x=>
  simp only [eff];rw [rdx x (by simp [AOp.xs])]
  have hroot:=(hop x (by simp [AOp.xs])).root
  generalize Go.A2.rd e x=z at hroot
  cases z with
  | view s q g' off hi=>
   have hm:s∈A:=hroot s (by simp [rootsOf,roots1,rootOf])
   have hc:cont e' s q g'=cont e s q g':=cont_agree h hm q g'
   cases hi with
   | none=>simp only [vwOf];rw [hc,h s hm]
   | some _=>rfl
  | ref s q g'=>
   have hm:s∈A:=hroot s (by simp [rootsOf,roots1,rootOf])
   have hc:cont e' s q g'=cont e s q g':=cont_agree h hm q g'
   simp only [vwOf];rw [hc,h s hm]
  | _=>rfl
 | copy b t x y=>
  simp only [eff];rw [rdx x (by simp [AOp.xs]),rdx y (by simp [AOp.xs]),slOf_agree h (hop y (by simp [AOp.xs])).root]
  have hroot:=(hop x (by simp [AOp.xs])).root
  generalize Go.A2.rd e x=z at hroot
  cases z with
  | view s q g' off hi=>
   have hm:s∈A:=hroot s (by simp [rootsOf,roots1,rootOf])
   have hc:cont e' s q g'=cont e s q g':=cont_agree h hm q g'
   cases hi with
   | none=>simp only [vwOf];rw [hc,h s hm]
   | some _=>rfl
  | ref s q g'=>
   have hm:s∈A:=hroot s (by simp [rootsOf,roots1,rootOf])
   have hc:cont e' s q g'=cont e s q g':=cont_agree h hm q g'
   simp only [vwOf];rw [hc,h s hm]
  | aview bs q b' n t' off hi=>
   rw [aview_root] at hroot
   have key:∀ (V:X.den (.arr n t)) (W:Ups X),(match storeV e' g (.arr n t) (.ptr bs q) V .no with | some u=>(some W).map (u++·) | none=>none)=(match storeV e g (.arr n t) (.ptr bs q) V .no with | some u=>(some W).map (u++·) | none=>none):=fun V W=>by rw [storeV_agree h hroot]
   simp only [vwOf]
   rw [derefA_agree h hroot]
   split
   ·split
    ·split
     ·exact key _ _
     ·rfl
    ·rfl
   ·rfl
  | _=>rfl
 | makeMap k t=>rfl
 | junk=>rfl
 | allocF=>rfl
 | storeF x v=>
  have hs:=(hop x (by simp [AOp.xs])).slot
  have hv:=rdx v (by simp [AOp.xs])
  cases x with
  | c y=>rfl
  | t s=>
   simp only [eff];rw [hv]
   cases Go.A2.rd e v<;>first | rfl | (simp only [];rw [h s (hs s (by simp [slotX]))])
  | v s=>
   simp only [eff];rw [hv]
   cases Go.A2.rd e v<;>first | rfl | (simp only [];rw [h s (hs s (by simp [slotX]))])
 | loadM T x=>
  simp only [eff]
  rw [rdx x (by simp [AOp.xs])]
  have hroot:=(hop x (by simp [AOp.xs])).root
  generalize Go.A2.rd e x=y at hroot
  cases y with
  | ptr B q=>
   cases B with
   | box s g'=>
    cases q with
    | nil=>
     have:e' s=e s:=h s (hroot s (by simp [rootsOf,roots1,rootOf]))
     simp only [this]
    | cons=>rfl
   | elem=>rfl
  | _=>rfl
 | loadF x=>simp only [eff];rw [rdx x (by simp [AOp.xs])]
 | mlook k t ok x i=>simp only [eff];rw [rdx x (by simp [AOp.xs]),rdx i (by simp [AOp.xs]),mapOf_agree h (hop x (by simp [AOp.xs])).root]
 | mset k t x i v=>simp only [eff];rw [rdx x (by simp [AOp.xs]),rdx i (by simp [AOp.xs]),rdx v (by simp [AOp.xs]),mapAt_agree h (hop x (by simp [AOp.xs])).root]
 | mdel k t x i=>simp only [eff];rw [rdx x (by simp [AOp.xs]),rdx i (by simp [AOp.xs]),mapAt_agree h (hop x (by simp [AOp.xs])).root]
 | mlen k t x=>simp only [eff];rw [rdx x (by simp [AOp.xs]),mapOf_agree h (hop x (by simp [AOp.xs])).root]
 | idxStr x i=>simp only [eff];rw [rdx x (by simp [AOp.xs]),rdx i (by simp [AOp.xs])]
 | part i j x=>simp only [eff];rw [rdx x (by simp [AOp.xs])]
 | idxV n t x i=>simp only [eff];rw [rdx x (by simp [AOp.xs]),rdx i (by simp [AOp.xs])]
 | cat x y=>simp only [eff];rw [rdx x (by simp [AOp.xs]),rdx y (by simp [AOp.xs])]
 | bin o x y=>simp only [eff];rw [rdx x (by simp [AOp.xs]),rdx y (by simp [AOp.xs])]
 | eq T n x y=>simp only [eff];rw [rdx x (by simp [AOp.xs]),rdx y (by simp [AOp.xs])]
 | un o x=>simp only [eff];rw [rdx x (by simp [AOp.xs])]
 | conv k x=>simp only [eff];rw [rdx x (by simp [AOp.xs])]
 | strB x=>simp only [eff];rw [rdx x (by simp [AOp.xs]),slOf_agree h (hop x (by simp [AOp.xs])).root]
 | build i ps=>simp only [eff];rw [takeAll_agree (l:=ps) h fun q hq=>hop q.2 (List.mem_map.2 ⟨q,hq,rfl⟩)]
 | buildA n t ps=>simp only [eff];rw [takeAll_agree (l:=ps) h fun q hq=>hop q.2 (List.mem_map.2 ⟨q,hq,rfl⟩)]
 | buildSlice b t n ps=>simp only [eff];rw [takeAll_agree (l:=ps) h fun q hq=>hop q.2 (List.mem_map.2 ⟨q,hq,rfl⟩)]
 | mm m args=>
  simp only [eff]
  rw [show args.map (Go.A2.rd e')=args.map (Go.A2.rd e) from List.map_congr_left fun x hx=>rdx x hx]
 | append b t x y=>
  simp only [eff]
  rw [grab_agree h (hop x (by simp [AOp.xs])),rdx y (by simp [AOp.xs]),slOf_agree h (hop y (by simp [AOp.xs])).root]
 | arrS b n t x lo hi=>
  simp only [eff]
  rw [rdx x (by simp [AOp.xs]),oNat_agree (x:=lo) h fun y hy=>hop y (by subst hy;simp [AOp.xs]),oNat_agree (x:=hi) h fun y hy=>hop y (by subst hy;simp [AOp.xs])]
  have hroot:=(hop x (by simp [AOp.xs])).root
  generalize Go.A2.rd e x=y at hroot
  generalize oNat e lo=lo
  generalize oNat e hi=hi
  cases lo<;>try rfl
  cases hi<;>try rfl
  cases y with
  | ptr B q=>simp only [];rw [ptrTy_agree h hroot]
  | _=>rfl
 | makeSlice b t x y=>simp only [eff];rw [rdx x (by simp [AOp.xs]),rdx y (by simp [AOp.xs])]
 | slice T x lo hi mx=>
  simp only [eff]
  rw [take_agree h (hop x (by simp [AOp.xs])),oNat_agree (x:=lo) h fun y hy=>hop y (by subst hy;simp [AOp.xs]),oNat_agree (x:=hi) h fun y hy=>hop y (by subst hy;simp [AOp.xs]),
   oNat_agree (x:=mx) h fun y hy=>hop y (by subst hy;simp [AOp.xs])]
 | makeFunc f a b=>
  simp only [eff]
  rw [allO_congr (f:=fun x=>capRef (Go.A2.rd e' x)) (g:=fun x=>capRef (Go.A2.rd e x)) (l:=a) fun x hx=>by rw [rdx x (List.mem_append_left _ hx)],
   allO_congr (f:=fun x=>capRef (Go.A2.rd e' x)) (g:=fun x=>capRef (Go.A2.rd e x)) (l:=b) fun x hx=>by rw [rdx x (List.mem_append_right _ hx)]]
end
end Go.A2
namespace Go.A2
section
variable {X:Tab} {e e':Env X}
theorem mem_outU {d:Option Nat} {v:AV X} {q:Nat×AV X} (h:q∈outU d v):q.1∈d.toList:=by
 cases d with
 | none=>simp [outU] at h
 | some k=>simp [outU] at h;subst h;simp
theorem setMask_key {s:Nat} {q:List PS} {o:Own} {u:Ups X} (h:setMask e s q o=some u):∀ y∈u,y.1=s:=by
 obtain ⟨T,v,o0,m,_,_,rfl⟩:=setMask_some h
 intro y hy;simp at hy;subst hy;rfl
theorem takeRef_key {r:Nat} {q:List PS} {g:Nat} {T:X.Ty} {v:X.den T} {o:Own} {u:Ups X} (h:takeRef e r q g=some ⟨T,v,o,u⟩):∀ y∈u,y.1=r:=by
 unfold takeRef at h
 split at h
 ·rename_i hm
  cases h
  exact setMask_key hm
 ·cases h
theorem take_key {x:AX X} {T:X.Ty} {v:X.den T} {o:Own} {u:Ups X} (h:Go.A2.take e x=some ⟨T,v,o,u⟩):∀ y∈u,y.1∈tk e x:=by
 cases x with
 | c y=>
  cases y with
  | val T' v' o'=>
   simp only [Go.A2.take] at h
   split at h
   ·cases h;simp
   ·cases h
  | _=>simp [Go.A2.take] at h
 | t s=>
  simp only [Go.A2.take] at h
  simp only [tk]
  split at h
  ·rename_i T' v' o' hes
   rw [hes]
   split at h
   ·cases h;simp
   ·rename_i hp;cases h;simp [hp]
  ·rename_i r q g hes
   rw [hes]
   intro y hy;simp [takeRef_key h y hy]
  ·cases h
 | v s=>
  simp only [Go.A2.take] at h
  simp only [tk]
  split at h
  ·rename_i T' v' o' hes
   rw [hes]
   split at h
   ·cases h;simp
   ·rename_i hp
    split at h
    ·cases h;simp [hp]
    ·cases h
  ·rename_i r q g hes
   rw [hes]
   intro y hy;simp [takeRef_key h y hy]
  ·cases h
theorem loadV_key {T:X.Ty} {x:AV X} {d:Option Nat} {u:Ups X} (h:loadV e T x d=some u):∀ y∈u,y.1∈d.toList++loadK e x:=fun y hy=>by
 have out:∀ {v:AV X},outU d v=u→y.1∈d.toList++loadK e x:=fun {v} hv=>by subst hv;exact List.mem_append_left _ (mem_outU hy)
 have outM:∀ {T':X.Ty} {o:Option (X.den T')} {f:X.den T'→AV X},o.map (fun v=>outU d (f v))=some u→y.1∈d.toList++loadK e x:=fun {T' o f} hv=>by
  cases o with
  | none=>cases hv
  | some z=>exact out (by simpa using hv)
 cases x with
 | rptr T' v=>
  simp only [loadV] at h
  cases hc:castT v T with
  | none=>rw [hc] at h;cases h
  | some z=>rw [hc] at h;exact out (v:=.val T z .no) (Option.some.inj h)
 | ptr b q=>
  cases b with
  | box s g=>
   simp only [loadV] at h
   split at h
   ·rename_i g' T0 v0 o0 hes
    split at h
    ·split at h
     ·split at h
      ·split at h
       ·exact out (Option.some.inj h)
       ·exact out (Option.some.inj h)
       ·split at h
        ·exact out (Option.some.inj h)
        ·cases h
       ·cases h
       ·rename_i l hown
        split at h
        ·exact out (Option.some.inj h)
        ·rename_i hp
         split at h
         ·obtain ⟨m,hm,h⟩:=Option.map_eq_some_iff.1 h
          subst h
          rcases List.mem_cons.1 hy with rfl | hy
          ·refine List.mem_append_right _ ?_
           simp [loadK,hes,hown,hp]
          ·exact List.mem_append_left _ (mem_outU hy)
         ·cases h
      ·cases h
     ·cases h
    ·cases h
   ·cases h
  | elem s p g i=>
   simp only [loadV] at h
   split at h
   ·split at h
    ·rename_i T1 v1 _
     cases hc:castT v1 T with
     | none=>rw [hc] at h;cases h
     | some z=>rw [hc] at h;exact out (v:=.val T z .no) (Option.some.inj h)
    ·cases h
   ·cases h
 | _=>simp [loadV] at h
theorem storeV_key {g0:Nat} {T:X.Ty} {x:AV X} {v:X.den T} {o:Own} {u:Ups X} (h:storeV e g0 T x v o=some u):∀ y∈u,y.1∈rootOf x:=fun y hy=>by
 cases x with
 | ptr b q=>
  cases b with
  | box s g=>
   simp only [storeV] at h
   split at h
   ·split at h
    ·split at h
     ·cases h;simp at hy;subst hy;simp [rootOf]
     ·cases h
    ·cases h
   ·cases h
  | elem s p g i=>
   simp only [storeV] at h
   split at h
   ·split at h
    ·split at h
     ·obtain ⟨z,_,h⟩:=Option.map_eq_some_iff.1 h
      subst h;simp at hy;subst hy;simp [rootOf]
     ·obtain ⟨z,_,h⟩:=Option.map_eq_some_iff.1 h
      subst h;simp at hy;subst hy;simp [rootOf]
     ·cases h
    ·cases h
   ·cases h
 | _=>simp [storeV] at h
theorem grab_key {x:AX X} {b:Nat} {t:X.Ty} {l:Sl b (X.den t)} {u:Ups X} {z:Bool} (h:Go.A2.grab e x=some ⟨b,t,l,u,z⟩):∀ y∈u,y.1∈grabK e x:=fun y hy=>by
 have key:∀ s,Go.A2.grab e (.v s)=some ⟨b,t,l,u,z⟩→y.1∈grabK e (.v s):=fun s h=>by
  simp only [Go.A2.grab] at h
  simp only [grabK]
  split at h
  ·cases h;cases hy
  ·rename_i hes;cases h;rw [hes];simp at hy ⊢;subst hy;rfl
  ·rename_i r q g hes
   rw [hes]
   split at h
   ·rename_i hm
    cases h
    split at hm
    ·cases hm;simp at hy ⊢;subst hy;rfl
    ·simp [setMask_key hm y hy]
   ·cases h
  ·cases h
 cases x with
 | c w=>
  cases w with
  | val T v o=>
   cases T with
   | slice b' t'=>
    cases o with
    | full=>
     simp only [Go.A2.grab] at h
     split at h
     ·cases h;cases hy
     ·cases h
    | _=>simp [Go.A2.grab] at h
   | _=>simp [Go.A2.grab] at h
  | _=>simp [Go.A2.grab] at h
 | t s=>exact key s h
 | v s=>exact key s h
theorem pureL_putL:∀ {l:List Own} {j:Nat} {b:Own},Own.pureL l=true→b.pure=true→Own.pureL (putL l j b)=true
 | [],0,b,_,hb=>by simp [putL,Own.pureL,hb]
 | [],j+1,b,_,hb=>by simp only [putL,Own.pureL,Bool.and_eq_true];exact ⟨rfl,pureL_putL rfl hb⟩
 | o :: l,0,b,h,hb=>by simp only [Own.pureL,Bool.and_eq_true] at h;simp [putL,Own.pureL,hb,h.2]
 | o :: l,j+1,b,h,hb=>by
  simp only [Own.pureL,Bool.and_eq_true] at h
  simp only [putL,Own.pureL,Bool.and_eq_true]
  exact ⟨h.1,pureL_putL h.2 hb⟩
theorem setO_pure:∀ {q:List PS} {o m:Own},setO o q .no=some m→o.pure=true→m.pure=true
 | [],o,m,h,_=>by simp only [setO,Option.some.injEq] at h;subst h;rfl
 | .fld j :: q,o,m,h,hp=>by
  have hd:o ≠ .dead:=fun hd=>by subst hd;cases hp
  have:setO o (.fld j :: q) .no=match setO (o.fldD j) q .no with
    | some b=>if (o.fldD j).isNo&&b.isNo then some o else some (if (putL o.list j b).all Own.isNo then .no else .st (putL o.list j b))
    | none=>none:=by cases o<;>first | rfl | exact absurd rfl hd
  rw [this] at h
  have hfld:(o.fldD j).pure=true:=by
   cases o with
   | st l=>exact pureL_getD hp j
   | dead=>exact absurd rfl hd
   | _=>rfl
  have hlist:Own.pureL o.list=true:=by
   cases o with
   | st l=>exact hp
   | _=>rfl
  split at h
  ·rename_i b hb
   have hbp:=setO_pure hb hfld
   split at h
   ·simp only [Option.some.injEq] at h;subst h;exact hp
   ·simp only [Option.some.injEq] at h;subst h
    split
    ·rfl
    ·exact pureL_putL hlist hbp
  ·cases h
 | .idx j :: q,o,m,h,hp=>by
  cases o with
  | dead=>cases hp
  | _=>simp only [setO] at h;split at h<;>first | (cases h;rfl) | cases h
def SoftP (e e1:Env X):Prop:=∀ s,e1 s=e s∨e1 s=.undef∨∃ T v o m,slotC (e s)=some ⟨T,v,o⟩∧e1 s=withMask (e s) m∧(o.pure=true→m.pure=true)
theorem softP_one {s:Nat} {y:AV X} (h:y=.undef∨∃ T v o m,slotC (e s)=some ⟨T,v,o⟩∧y=withMask (e s) m∧(o.pure=true→m.pure=true)):SoftP e (applyU e [(s,y)]):=fun t=>by
 show Go.A2.upd e s y t=e t∨_
 by_cases ht:t=s
 ·subst ht
  rcases h with rfl | ⟨T,v,o,m,h1,rfl,h2⟩
  ·exact .inr (.inl (upd_same e t _))
  ·exact .inr (.inr ⟨T,v,o,m,h1,upd_same e t _,h2⟩)
 ·exact .inl (upd_ne e y ht)
theorem take_softP {x:AX X} {T:X.Ty} {v:X.den T} {o:Own} {u:Ups X} (h:Go.A2.take e x=some ⟨T,v,o,u⟩):SoftP e (applyU e u):=by
 have ref:∀ {r q g},takeRef e r q g=some ⟨T,v,o,u⟩→SoftP e (applyU e u):=fun {r q g} h=>by
  unfold takeRef at h
  split at h
  ·rename_i hc hm
   cases h
   obtain ⟨T,v,o0,m,k1,k2,rfl⟩:=setMask_some hm
   exact softP_one (.inr ⟨T,v,o0,m,k1,rfl,setO_pure k2⟩)
  ·cases h
 cases x with
 | c y=>
  cases y with
  | val T' v' o'=>
   simp only [Go.A2.take] at h
   split at h
   ·cases h;exact fun s=>.inl rfl
   ·cases h
  | _=>simp [Go.A2.take] at h
 | t s=>
  simp only [Go.A2.take] at h
  split at h
  ·rename_i T' v' o' hes
   split at h
   ·cases h;exact fun s=>.inl rfl
   ·cases h;exact softP_one (.inl rfl)
  ·exact ref h
  ·cases h
 | v s=>
  simp only [Go.A2.take] at h
  split at h
  ·rename_i T' v' o' hes
   split at h
   ·cases h;exact fun s=>.inl rfl
   ·split at h
    ·cases h;exact softP_one (.inr ⟨_,_,_,.no,by rw [hes];rfl,by rw [hes];rfl,fun _=>rfl⟩)
    ·cases h
  ·exact ref h
  ·cases h
theorem tk_mono {e1:Env X} (h:SoftP e e1) {x:AX X}:∀ t∈tk e1 x,t∈tk e x:=fun t ht=>by
 have key:∀ s,t∈tk e1 (.v s)→t∈tk e (.v s):=fun s ht=>by
  rcases h s with h1 | h1 | ⟨T,v,o,m,h1,h2,h3⟩
  ·simp only [tk] at ht ⊢;rw [h1] at ht;exact ht
  ·simp only [tk,h1] at ht;cases ht
  ·rcases slotC_some h1 with hes | ⟨g,hes⟩
   ·rw [hes] at h2
    simp only [withMask] at h2
    simp only [tk,h2,hes] at ht ⊢
    split at ht
    ·cases ht
    ·rename_i hm
     rw [if_neg fun hp=>hm (h3 hp)];exact ht
   ·rw [hes] at h2
    simp only [withMask] at h2
    simp only [tk,h2] at ht;cases ht
 cases x with
 | c y=>cases ht
 | t s=>exact key s ht
 | v s=>exact key s ht
theorem takeAll_key:∀ {l:List (Nat×AX X)} {e:Env X} {vs:List (Nat×(T:X.Ty)×X.den T×Own)} {u:Ups X},Go.A2.takeAll e l=some (vs,u)→∀ y∈u,y.1∈l.flatMap fun q=>tk e q.2
 | [],e,vs,u,h=>by simp [Go.A2.takeAll] at h;obtain ⟨_,rfl⟩:=h;simp
 | (j,x) :: l,e,vs,u,h=>by
  simp only [Go.A2.takeAll] at h
  split at h
  ·rename_i T v o u1 h1
   split at h
   ·rename_i vs' us' h2
    simp only [Option.some.injEq,Prod.mk.injEq] at h
    obtain ⟨_,rfl⟩:=h
    intro y hy
    rw [List.flatMap_cons]
    rcases List.mem_append.1 hy with hy | hy
    ·exact List.mem_append_left _ (take_key h1 y hy)
    ·obtain ⟨q,hq,hk⟩:=List.mem_flatMap.1 (takeAll_key h2 y hy)
     exact List.mem_append_right _ (List.mem_flatMap.2 ⟨q,hq,tk_mono (take_softP h1) _ hk⟩)
   ·cases h
  ·cases h
theorem freezeAll_key:∀ {l:List (Nat×List PS)} {e:Env X} {u:Ups X},Go.A2.freezeAll e l=some u→∀ y∈u,∃ q∈l,y.1=q.1
 | [],e,u,h=>by simp [Go.A2.freezeAll] at h;subst h;simp
 | (s,q) :: l,e,u,h=>by
  simp only [Go.A2.freezeAll] at h
  split at h
  ·rename_i u1 h1
   obtain ⟨u2,h2,rfl⟩:=Option.map_eq_some_iff.1 h
   intro y hy
   rcases List.mem_append.1 hy with hy | hy
   ·exact ⟨(s,q),by simp,setMask_key h1 y hy⟩
   ·obtain ⟨q',hq,hk⟩:=freezeAll_key h2 y hy
    exact ⟨q',by simp [hq],hk⟩
  ·cases h
theorem giveBack_key {g:Nat}:∀ {as:List (Arg X)} {os:List (AV X)} {u:Ups X},giveBack e g as os=some u→∀ y∈u,∃ a∈as,a.back=some y.1
 | [],[],u,h=>by simp [giveBack] at h;subst h;simp
 | [],_ :: _,u,h=>by simp [giveBack] at h
 | _ :: _,[],u,h=>by simp [giveBack] at h
 | a :: as,o :: os,u,h=>by
  simp only [giveBack] at h
  split at h
  ·rename_i s hb
   split at h
   ·obtain ⟨u',h',rfl⟩:=Option.map_eq_some_iff.1 h
    intro y hy
    rcases List.mem_cons.1 hy with rfl | hy
    ·exact ⟨a,by simp,hb⟩
    ·obtain ⟨a',ha,hk⟩:=giveBack_key h' y hy
     exact ⟨a',by simp [ha],hk⟩
   ·cases h
  ·intro y hy
   obtain ⟨a',ha,hk⟩:=giveBack_key h y hy
   exact ⟨a',by simp [ha],hk⟩
theorem afterCall_key {cp:Bool} {g:Nat} {as:List (Arg X)} {d:Option Nat} {r:Ret X} {u:Ups X} {Rs:List Nat} (ha:∀ a∈as,(∀ s,a.back=some s→s∈Rs)∧∀ q∈a.roots,q.1∈Rs) (hcp:cp=true→∀ a∈as,∀ s∈a.caps,s∈Rs) (h:afterCall cp e g as d r=some u):∀ y∈u,y.1∈d.toList++Rs:=by
 unfold afterCall at h
 simp only [] at h
 split at h
 ·split at h
  ·rename_i u1 u2 h1 h2
   simp only [Option.some.injEq] at h;subst h
   intro y hy
   rcases List.mem_append.1 hy with hy | hy
   ·split at h1
    ·cases h1;cases hy
    ·split at h1
     ·rename_i hce
      obtain ⟨u0,h0,rfl⟩:=Option.map_eq_some_iff.1 h1
      rcases List.mem_append.1 hy with hy | hy
      ·obtain ⟨q,hq,hk⟩:=freezeAll_key h0 y hy
       obtain ⟨a,hm,hq⟩:=List.mem_flatMap.1 hq
       exact List.mem_append_right _ (hk ▸ (ha a hm).2 q hq)
      ·obtain ⟨s,hs,rfl⟩:=List.mem_map.1 hy
       simp only [Bool.or_eq_true,Bool.and_eq_true] at hce
       rcases hce with hce | ⟨hce,_⟩
       ·rw [List.isEmpty_iff] at hce;rw [hce] at hs;cases hs
       ·obtain ⟨a,hm,hs⟩:=List.mem_flatMap.1 hs
        exact List.mem_append_right _ (hcp hce a hm s hs)
     ·cases h1
   ·rcases List.mem_append.1 hy with hy | hy
    ·obtain ⟨a,hm,hk⟩:=giveBack_key h2 y hy
     exact List.mem_append_right _ ((ha a hm).1 _ hk)
    ·exact List.mem_append_left _ (mem_outU hy)
  ·cases h
 ·cases h
end
end Go.A2
namespace Go.A2
section
variable {X:Tab} {e e':Env X}
theorem eff_key {ans:Ret X} {g:Nat} {d:Option Nat} {op:AOp X} {u:Ups X} (h:eff ans g e d op=some u):∀ y∈u,y.1∈keysOf e d op:=fun y hy=>by
 have out:∀ {v:AV X},some (outU d v)=some u→y.1∈keysOf e d op:=fun {v} hv=>by
  cases hv;exact List.mem_append_left _ (mem_outU hy)
 have outB:∀ {α:Type} {o:Option α} {f:α→AV X},(o.bind fun z=>some (outU d (f z)))=some u→y.1∈keysOf e d op:=fun {α o f} hv=>by
  obtain ⟨z,_,hz⟩:=Option.bind_eq_some_iff.1 hv
  exact out hz
 have app:∀ {u1:Ups X} {v:AV X} {ks:List Nat},u1++outU d v=u→(∀ y∈u1,y.1∈ks)→keysOf e d op=d.toList++ks→y.1∈keysOf e d op:=fun {u1 v ks} hu hk hko=>by
  subst hu
  rw [hko]
  rcases List.mem_append.1 hy with hy | hy
  ·exact List.mem_append_right _ (hk y hy)
  ·exact List.mem_append_left _ (mem_outU hy)
 cases op with
 | move x=>
  cases x with
  | c z=>exact out (v:=z) (by simpa only [eff] using h)
  | t s=>
   simp only [eff] at h
   split at h
   ·rename_i T v o hes
    split at h
    ·exact out h
    ·rename_i hp
     exact app (u1:=[(s,.undef)]) (ks:=mvK e (.t s)) (Option.some.inj h) (fun z hz=>by simp only [List.mem_singleton] at hz;subst hz;simp [mvK,hes,hp]) rfl
   ·rename_i l hes
    exact app (u1:=[(s,.undef)]) (ks:=mvK e (.t s)) (Option.some.inj h) (fun z hz=>by simp only [List.mem_singleton] at hz;subst hz;simp [mvK,hes]) rfl
   ·split at h
    ·cases h;cases hy
    ·exact out h
   ·cases h
   ·exact out h
  | v s=>
   simp only [eff] at h
   split at h
   ·cases h
   ·exact out h
   ·exact out h
   ·rename_i T v o hn hn' hes
    split at h
    ·exact out h
    ·rename_i hp
     split at h
     ·refine app (u1:=[(s,.val T v .no)]) (ks:=mvK e (.v s)) (Option.some.inj h) (fun z hz=>?_) rfl
      simp only [List.mem_singleton] at hz;subst hz
      show s∈mvK e (.v s)
      simp only [mvK,hes]
      rw [if_neg hp];simp
     ·cases h
   ·cases h
   ·exact out h
 | load T x=>exact loadV_key (by simpa only [eff] using h) y hy
 | store T x v=>
  simp only [eff] at h
  split at h
  ·rename_i T' v' o u1 ht
   split at h
   ·obtain ⟨u2,h2,rfl⟩:=Option.map_eq_some_iff.1 h
    rcases List.mem_append.1 hy with hy | hy
    ·exact List.mem_append_right _ (List.mem_append_left _ (take_key ht y hy))
    ·refine List.mem_append_right _ (List.mem_append_right _ ?_)
     have hk:=storeV_key h2 y hy
     have hsoft:=take_softP ht
     have key:∀ s,(∃ b q,Go.A2.rd (applyU e u1) (.v s)=.ptr b q)→Go.A2.rd (applyU e u1) (.v s)=Go.A2.rd e (.v s):=fun s hp=>by
      rcases hsoft s with h1 | h1 | ⟨T,v,o,m,h1,h3,_⟩
      ·simp only [Go.A2.rd];rw [h1]
      ·obtain ⟨b,q,hp⟩:=hp
       simp only [Go.A2.rd,h1] at hp;cases hp
      ·rcases slotC_some h1 with hes | ⟨g',hes⟩
       ·rw [hes] at h3
        simp only [withMask] at h3
        obtain ⟨b,q,hp⟩:=hp
        simp only [Go.A2.rd,h3] at hp
        exfalso
        cases T<;>first | cases hp | (cases m<;>cases hp)
       ·rw [hes] at h3
        simp only [withMask] at h3
        simp only [Go.A2.rd,h3,hes]
     have hptr:∃ b q,Go.A2.rd (applyU e u1) x=.ptr b q:=by
      cases hr:Go.A2.rd (applyU e u1) x with
      | ptr b q=>exact ⟨b,q,rfl⟩
      | _=>rw [hr] at h2;simp [storeV] at h2
     have hrd:Go.A2.rd (applyU e u1) x=Go.A2.rd e x:=by
      cases x with
      | c z=>rfl
      | t s=>exact key s hptr
      | v s=>exact key s hptr
     rw [hrd] at hk;exact hk
   ·cases h
  ·cases h
 | box T x=>
  simp only [eff] at h
  split at h
  ·rename_i T' v o u1 ht
   split at h
   ·exact app (u1:=u1) (ks:=tk e x) (Option.some.inj h) (take_key ht) rfl
   ·cases h
  ·cases h
 | alloc T=>exact out (by simpa only [eff] using h)
 | bin o a b=>simp only [eff] at h;exact outB (f:=id) h
 | un o a=>simp only [eff] at h;exact outB (f:=id) h
 | bad=>cases h
 | isNil n x=>cases h
 | build i ps=>
  simp only [eff] at h
  split at h
  ·rename_i vs u1 ht
   split at h
   ·exact app (u1:=u1) (ks:=ps.flatMap fun q=>tk e q.2) (Option.some.inj h) (takeAll_key ht) rfl
   ·cases h
  ·cases h
 | buildA n t ps=>
  simp only [eff] at h
  split at h
  ·rename_i vs u1 ht
   split at h
   ·split at h
    ·exact app (u1:=u1) (ks:=ps.flatMap fun q=>tk e q.2) (Option.some.inj h) (takeAll_key ht) rfl
    ·cases h
   ·cases h
  ·cases h
 | buildSlice b t n ps=>
  simp only [eff] at h
  split at h
  ·rename_i vs u1 ht
   split at h
   ·split at h
    ·obtain ⟨l,_,h⟩:=Option.bind_eq_some_iff.1 h
     exact app (u1:=u1) (ks:=ps.flatMap fun q=>tk e q.2) (Option.some.inj h) (takeAll_key ht) rfl
    ·cases h
   ·cases h
  ·cases h
 | append b t x z=>
  simp only [eff] at h
  split at h
  ·rename_i b1 t1 l1 u1 zf hg
   split at h
   ·split at h
    ·split at h
     ·obtain ⟨l,_,h⟩:=Option.bind_eq_some_iff.1 h
      exact app (u1:=u1) (ks:=grabK e x) (Option.some.inj h) (grab_key hg) rfl
     ·exact app (u1:=u1) (ks:=grabK e x) (Option.some.inj h) (grab_key hg) rfl
    ·cases h
   ·cases h
  ·cases h
 | slice T x lo hi mx=>
  simp only [eff] at h
  split at h
  ·rename_i T' v o u1 lo' hi' mx' ht _ _ _
   split at h
   ·split at h
    ·obtain ⟨l,_,h⟩:=Option.bind_eq_some_iff.1 h
     exact app (u1:=u1) (ks:=tk e x) (Option.some.inj h) (take_key ht) rfl
    ·cases h
   ·cases h
  ·cases h
 | call f args=>
  simp only [eff] at h
  split at h
  ·rename_i f' as hc
   exact afterCall_key (Rs:=args.flatMap fun x=>rootsOf (Go.A2.rd e x)) (fun a ha=>by
    simp only [callArgs] at hc
    split at hc
    ·rename_i as' h1
     simp only [Option.some.injEq,Prod.mk.injEq] at hc
     obtain ⟨_,rfl⟩:=hc
     obtain ⟨a0,ha,z1,z2,_⟩:=fixAll_mem ha
     rw [z1,z2]
     obtain ⟨i,hi,rfl⟩:=List.mem_iff_getElem.1 ha
     obtain ⟨x,hx,hax⟩:=allO_get' h1 (List.getElem?_eq_getElem hi)
     obtain ⟨q1,q2⟩:=argF_roots hax
     have hm:=List.mem_of_getElem? hx
     exact ⟨fun s hs=>List.mem_flatMap.2 ⟨x,hm,q1 s hs⟩,fun r hr=>List.mem_flatMap.2 ⟨x,hm,q2 r hr⟩⟩
    ·cases hc) (fun _ a ha=>by
    simp only [callArgs] at hc
    split at hc
    ·rename_i as' h1
     simp only [Option.some.injEq,Prod.mk.injEq] at hc
     obtain ⟨_,rfl⟩:=hc
     obtain ⟨a0,ha,_,_,z3⟩:=fixAll_mem ha
     rw [z3]
     obtain ⟨i,hi,rfl⟩:=List.mem_iff_getElem.1 ha
     obtain ⟨x,hx,hax⟩:=allO_get' h1 (List.getElem?_eq_getElem hi)
     exact fun s hs=>List.mem_flatMap.2 ⟨x,List.mem_of_getElem? hx,argF_caps hax s hs⟩
    ·cases hc) h y hy
  ·cases h
 | callv x args=>
  simp only [eff] at h
  split at h
  ·rename_i f' as hc
   exact afterCall_key (Rs:=capRoots e x++args.flatMap fun x=>rootsOf (Go.A2.rd e x)) (fun a ha=>by
    simp only [callArgs] at hc
    split at hc
    ·rename_i f'' first cps hrd
     split at hc
     ·rename_i as' fs cs h1 h2 h3
      simp only [Option.some.injEq,Prod.mk.injEq] at hc
      obtain ⟨_,rfl⟩:=hc
      obtain ⟨a0,ha,z1,z2,_⟩:=fixAll_mem ha
      rw [z1,z2]
      rcases List.mem_append.1 ha with ha | ha
      ·rcases List.mem_append.1 ha with ha | ha
       ·obtain ⟨i,hi,rfl⟩:=List.mem_iff_getElem.1 ha
        obtain ⟨x,hx,hax⟩:=allO_get' h2 (List.getElem?_eq_getElem hi)
        obtain ⟨q1,q2⟩:=capArg_roots hax
        rw [q1,q2];simp
       ·obtain ⟨i,hi,rfl⟩:=List.mem_iff_getElem.1 ha
        obtain ⟨x,hx,hax⟩:=allO_get' h1 (List.getElem?_eq_getElem hi)
        obtain ⟨q1,q2⟩:=argF_roots hax
        have hm:=List.mem_of_getElem? hx
        exact ⟨fun s hs=>List.mem_append_right _ (List.mem_flatMap.2 ⟨x,hm,q1 s hs⟩),fun r hr=>List.mem_append_right _ (List.mem_flatMap.2 ⟨x,hm,q2 r hr⟩)⟩
      ·obtain ⟨i,hi,rfl⟩:=List.mem_iff_getElem.1 ha
       obtain ⟨y,hy,hay⟩:=allO_get' h3 (List.getElem?_eq_getElem hi)
       obtain ⟨k1,k2⟩:=capA_roots hay
       rw [k2]
       refine ⟨fun s hs=>List.mem_append_left _ ?_,by simp⟩
       obtain ⟨k3,k4⟩:=k1 s hs
       unfold capRoots
       rw [hrd]
       simp only [k4,if_true]
       exact mem_rootsL1 (List.mem_of_getElem? hy) s k3
     ·cases hc
    ·rename_i s0 g0 hrd
     split at hc
     ·split at hc
      ·split at hc
       ·rename_i as' h1
        simp only [Option.some.injEq,Prod.mk.injEq] at hc
        obtain ⟨_,rfl⟩:=hc
        obtain ⟨a0,ha,z1,z2,_⟩:=fixAll_mem ha
        rw [z1,z2]
        rcases List.mem_append.1 ha with ha | ha
        ·obtain ⟨i,hi,rfl⟩:=List.mem_iff_getElem.1 ha
         obtain ⟨x,hx,hax⟩:=allO_get' h1 (List.getElem?_eq_getElem hi)
         obtain ⟨q1,q2⟩:=argF_roots hax
         have hm:=List.mem_of_getElem? hx
         exact ⟨fun s hs=>List.mem_append_right _ (List.mem_flatMap.2 ⟨x,hm,q1 s hs⟩),fun r hr=>List.mem_append_right _ (List.mem_flatMap.2 ⟨x,hm,q2 r hr⟩)⟩
        ·simp at ha;subst ha
         refine ⟨fun s hs=>List.mem_append_left _ ?_,by simp⟩
         cases hs
         unfold capRoots
         rw [hrd];simp
       ·cases hc
      ·cases hc
     ·cases hc
    ·cases hc) (fun hcp=>by cases hcp) h y hy
  ·cases h
 | junk=>exact out (v:=.undef) (by simpa only [eff] using h)
 | allocF=>exact out (v:=.fnew g) (by simpa only [eff] using h)
 | moveT x=>
  simp only [eff] at h
  split at h
  ·rename_i T' v o u1 ht
   exact app (u1:=u1) (ks:=tk e x) (Option.some.inj h) (take_key ht) rfl
  ·cases h
 | loadM T x=>
  simp only [eff] at h
  split at h
  ·rename_i s g' hr
   split at h
   ·split at h
    ·split at h
     ·refine app (u1:=[(s,.undef)]) (ks:=[s]) (Option.some.inj h) (fun y hy=>?_) ?_
      ·simp at hy;subst hy;simp
      ·simp only [keysOf,hr,rootOf]
     ·cases h
    ·cases h
   ·cases h
  ·cases h
 | loadF x=>
  simp only [eff] at h
  split at h
  ·exact out h
  ·cases h
 | storeF x v=>
  simp only [eff] at h
  split at h
  ·split at h
   ·split at h
    ·cases h
     simp only [List.mem_singleton] at hy;subst hy
     exact List.mem_append_right _ (by simp [slotX])
    ·cases h
   ·cases h
  ·split at h
   ·split at h
    ·cases h
     simp only [List.mem_singleton] at hy;subst hy
     exact List.mem_append_right _ (by simp [slotX])
    ·cases h
   ·cases h
  ·cases h
 | makeMap k t=>exact out (v:=.val (.map k t) ([]:List (X.den k×X.den t)) (.yes g)) (by simpa only [eff] using h)
 | mlook k t ok x i=>
  simp only [eff] at h
  split at h
  ·split at h
   ·exact out h
   ·exact out h
  ·cases h
 | mset k t x i v=>
  simp only [eff] at h
  split at h
  ·rename_i s g' l z w hm _ _
   split at h
   ·cases h
    simp only [List.mem_singleton] at hy;subst hy
    refine List.mem_append_right _ ?_
    show s∈rootOf (Go.A2.rd e x)
    unfold mapAt at hm
    split at hm
    ·rename_i s' g1 hr
     split at hm
     ·split at hm
      ·obtain ⟨q,_,hq⟩:=Option.map_eq_some_iff.1 hm
       cases hq
       rw [hr];simp [rootOf]
      ·cases hm
     ·cases hm
    ·cases hm
   ·cases h
  ·cases h
 | mdel k t x i=>
  simp only [eff] at h
  split at h
  ·rename_i s g' l z hm _
   refine app (u1:=[(s,_)]) (ks:=rootOf (Go.A2.rd e x)) (Option.some.inj h) (fun z hz=>?_) rfl
   simp only [List.mem_singleton] at hz;subst hz
   unfold mapAt at hm
   split at hm
   ·rename_i s' g1 hr
    split at hm
    ·split at hm
     ·obtain ⟨q,_,hq⟩:=Option.map_eq_some_iff.1 hm
      cases hq
      rw [hr];simp [rootOf]
     ·cases hm
    ·cases hm
   ·cases hm
  ·cases h
 | mlen k t x=>
  simp only [eff] at h
  obtain ⟨l,_,h⟩:=Option.bind_eq_some_iff.1 h
  exact outB h
 | conv k x=>simp only [eff] at h;split at h<;>first | exact out h | cases h
 | strB x=>
  simp only [eff] at h
  repeat' split at h
  all_goals first | exact out h | cases h
 | part i j x=>
  simp only [eff] at h;repeat' split at h
  all_goals first | exact out h | cases h
 | fld i j x=>
  simp only [eff] at h;repeat' split at h
  all_goals first | exact out h | cases h
 | nilCheck x=>
  simp only [eff] at h;repeat' split at h
  all_goals first | exact out h | cases h
 | eq T n a b=>
  simp only [eff] at h;repeat' split at h
  all_goals first | exact out h | cases h
 | makeFunc f a b=>simp only [eff] at h;split at h<;>first | exact out h | cases h
 | cat x i=>simp only [eff] at h;split at h<;>first | exact outB h | cases h
 | idxStr x i=>simp only [eff] at h;split at h<;>first | exact outB h | cases h
 | arrS b n t x lo hi=>
  simp only [eff] at h
  split at h
  ·split at h
   ·split at h
    ·exact outB h
    ·cases h
   ·split at h
    ·split at h
     ·exact outB h
     ·cases h
    ·cases h
   ·cases h
  ·cases h
 | makeSlice b t l c=>simp only [eff] at h;split at h<;>first | exact outB h | cases h
 | mm m args=>simp only [eff] at h;split at h<;>first | exact outB h | cases h
 | pick c a b=>simp only [eff] at h;split at h<;>first | exact outB h | cases h
 | idxV n t x i=>
  simp only [eff] at h;repeat' split at h
  all_goals first | exact outB h | cases h
 | idxA n t x i=>
  simp only [eff] at h;repeat' split at h
  all_goals first | exact outB h | cases h
 | idxS b t x i=>
  simp only [eff] at h;repeat' split at h
  all_goals first | exact outB h | cases h
 | view b t x lo hi=>
  simp only [eff] at h
  repeat' split at h
  all_goals first | exact outB h | cases h
 | clr b t x=>
  simp only [eff] at h
  split at h
  ·rename_i s q g' off hr
   have hro:rootOf (Go.A2.rd e x)=[s]:=by
    unfold vwOf at hr
    split at hr
    ·rename_i hx;cases hr;rw [hx];rfl
    ·rename_i hx;cases hr;rw [hx];rfl
    ·cases hr
   split at h
   ·split at h
    ·split at h
     ·rename_i v1 _
      refine app (ks:=rootOf (Go.A2.rd e x)) (Option.some.inj h) (fun z' hz=>?_) rfl
      simp only [List.mem_singleton] at hz;subst hz
      rw [hro];simp
     ·cases h
    ·cases h
   ·cases h
  ·cases h
 | copy b t x z=>
  simp only [eff] at h
  split at h
  ·rename_i s q g' off hr
   have hro:rootOf (Go.A2.rd e x)=[s]:=by
    unfold vwOf at hr
    split at hr
    ·rename_i hx;cases hr;rw [hx];rfl
    ·rename_i hx;cases hr;rw [hx];rfl
    ·cases hr
   split at h
   ·split at h
    ·split at h
     ·rename_i v1 _
      refine app (ks:=rootOf (Go.A2.rd e x)) (Option.some.inj h) (fun z' hz=>?_) rfl
      simp only [List.mem_singleton] at hz;subst hz
      rw [hro];simp
     ·cases h
    ·cases h
   ·cases h
  ·split at h
   ·rename_i bs q b' n t' off hi hr
    split at h
    ·split at h
     ·split at h
      ·split at h
       ·rename_i u hst
        refine app (ks:=rootOf (Go.A2.rd e x)) (Option.some.inj h) (fun z' hz=>?_) rfl
        have:=storeV_key hst z' hz
        rw [hr]
        cases bs<;>exact this
       ·cases h
      ·cases h
     ·cases h
    ·cases h
   ·cases h
 | len b x=>
  cases b with
  | true=>simp only [eff] at h;split at h<;>first | exact out h | cases h
  | false=>
   simp only [eff] at h
   obtain ⟨⟨b',t',l⟩,_,h⟩:=Option.bind_eq_some_iff.1 h
   exact out h
 | extract x i=>
  simp only [eff] at h
  split at h
  ·rename_i s
   split at h
   ·rename_i l hes
    split at h
    ·rename_i T v o hl
     split at h
     ·exact out h
     ·rename_i hp
      exact app (u1:=[(s,.tup (l.set i .undef))]) (ks:=exK e i (.t s)) (Option.some.inj h) (fun z hz=>by simp only [List.mem_singleton] at hz;subst hz;simp [exK,hes,hl,hp]) rfl
    ·exact out h
    ·cases h
   ·cases h
  ·cases h
end
end Go.A2
namespace Go.A2
theorem mask_bit {acc:List Nat}:∀ (l:List Edge) (s k:Nat),(l.foldl (fun s e=>if Region.binds .any e then s ||| 2 ^ e.on ||| acc.getD e.on 0 else s) s).testBit k=true→
  s.testBit k=true∨∃ e∈l,Region.binds .any e=true∧(k=e.on∨(acc.getD e.on 0).testBit k=true)
 | [],s,k,h=>.inl h
 | e :: l,s,k,h=>by
  simp only [List.foldl_cons] at h
  rcases mask_bit l _ k h with h1 | ⟨e',he,hb,hk⟩
  ·split at h1
   ·rename_i hb
    rw [Nat.testBit_or,Nat.testBit_or,Bool.or_eq_true,Bool.or_eq_true,Nat.testBit_two_pow] at h1
    rcases h1 with (h1 | h1) | h1
    ·exact .inl h1
    ·exact .inr ⟨e,by simp,hb,.inl (of_decide_eq_true h1).symm⟩
    ·exact .inr ⟨e,by simp,hb,.inr h1⟩
   ·exact .inl h1
  ·exact .inr ⟨e',by simp [he],hb,hk⟩
def MaskOk (acc:List Nat) (pre:List Oper):Prop:=acc.length=pre.length ∧
 ∀ (i:Nat) o,pre[i]?=some o→∀ k,(acc.getD i 0).testBit k=true→∃ e∈o.after,Region.binds .any e=true∧(k=e.on∨(e.on < i∧(acc.getD e.on 0).testBit k=true))
theorem masksFrom_ok:∀ (l:List Oper) (acc:List Nat) (pre:List Oper),MaskOk acc pre→MaskOk (masksFrom acc l) (pre++l)
 | [],acc,pre,h=>by simpa [masksFrom] using h
 | o :: l,acc,pre,h=>by
  have h1:MaskOk (acc++[mask acc o]) (pre++[o]):=by
   refine ⟨by simp [h.1],fun i q hq k hk=>?_⟩
   rcases Nat.lt_trichotomy i pre.length with hi | hi | hi
   ·rw [List.getElem?_append_left hi] at hq
    have hg:(acc++[mask acc o]).getD i 0=acc.getD i 0:=by
     simp [List.getD_eq_getElem?_getD,List.getElem?_append,h.1,hi]
    rw [hg] at hk
    obtain ⟨e,he,hb,hkk⟩:=h.2 i q hq k hk
    refine ⟨e,he,hb,hkk.imp id fun ⟨h2,h3⟩=>⟨h2,?_⟩⟩
    rw [show (acc++[mask acc o]).getD e.on 0=acc.getD e.on 0 by
     simp [List.getD_eq_getElem?_getD,List.getElem?_append,h.1,Nat.lt_trans h2 hi]]
    exact h3
   ·subst hi
    have hqo:q=o:=by simpa using hq.symm
    subst hqo
    have hg:(acc++[mask acc q]).getD pre.length 0=mask acc q:=by
     simp [List.getD_eq_getElem?_getD,←h.1]
    rw [hg] at hk
    unfold mask at hk
    rcases mask_bit _ _ _ hk with h2 | ⟨e,he,hb,hkk⟩
    ·simp at h2
    ·refine ⟨e,by simpa using he,hb,hkk.imp id fun h2=>?_⟩
     have hlt:e.on < pre.length:=by
      rcases Nat.lt_or_ge e.on pre.length with h3 | h3
      ·exact h3
      ·have hlen:=h.1
       rw [List.getD_eq_getElem?_getD,List.getElem?_eq_none (by omega)] at h2
       simp at h2
     refine ⟨hlt,?_⟩
     rw [show (acc++[mask acc q]).getD e.on 0=acc.getD e.on 0 by
      simp [List.getD_eq_getElem?_getD,List.getElem?_append,h.1,hlt]]
     exact h2
   ·rw [List.getElem?_eq_none (by simp;omega)] at hq;cases hq
  have:=masksFrom_ok l _ _ h1
  simpa [masksFrom] using this
theorem masks_ok (ops:List Oper):MaskOk (masks ops) ops:=by
 have:=masksFrom_ok ops [] [] ⟨rfl,by simp⟩
 simpa [masks] using this
def Closed (ops:Array Oper) (listed:Array Bool):Prop:=∀ (j:Nat) o,listed.getD j false=true→ops[j]?=some o→∀ e∈o.after,Region.binds .any e=true→listed.getD e.on false=true
theorem closed_bits {ops:Array Oper} {listed:Array Bool} (hcl:Closed ops listed):∀ (i:Nat) o,ops[i]?=some o→(∀ e∈o.after,Region.binds .any e=true→listed.getD e.on false=true)→
  ∀ k,((masks ops.toList).getD i 0).testBit k=true→listed.getD k false=true:=by
 intro i
 induction i using Nat.strongRecOn with
 | _ i ih=>
  intro o ho hr k hk
  obtain ⟨e,he,hb,hkk⟩:=(masks_ok ops.toList).2 i o (by simpa using ho) k hk
  rcases hkk with rfl | ⟨hlt,hbit⟩
  ·exact hr e he hb
  ·have hle:=hr e he hb
   cases hoe:ops[e.on]? with
   | none=>
    have:=(masks_ok ops.toList).1
    rw [List.getD_eq_getElem?_getD,List.getElem?_eq_none (by
     rw [this]
     have:=Array.getElem?_eq_none_iff.1 hoe
     simpa using this)] at hbit
    simp at hbit
   | some oe=>exact ih e.on hlt oe hoe (hcl e.on oe hle hoe) k hbit
def rem (listed:Array Bool) (m:Nat):List Nat:=(List.range m).filter fun j=>!listed.getD j true
theorem rem_split {listed:Array Bool} {m i:Nat} (hi:i < m) (hl:listed.getD i true=false):∃ p q,rem listed m=p++i :: q∧(∀ k∈p,k < i∧listed.getD k true=false)∧rem (listed.setIfInBounds i true) m=p++q:=by
 have hsz:i < listed.size:=by
  rcases Nat.lt_or_ge i listed.size with h | h
  ·exact h
  ·simp [Array.getD_eq_getD_getElem?,Array.getElem?_eq_none h] at hl
 have hset:∀ j,(listed.setIfInBounds i true).getD j true=if j=i then true else listed.getD j true:=fun j=>by
  by_cases hj:j=i
  ·subst hj;simp [Array.getD_eq_getD_getElem?,hsz]
  ·rw [if_neg hj];simp [Array.getD_eq_getD_getElem?,Array.getElem?_setIfInBounds_ne (Ne.symm hj)]
 have hr:List.range m=List.range i++i :: (List.range' (i+1) (m - i - 1)):=by
  rw [List.range_eq_range',List.range_eq_range']
  have h1:List.range' 0 m=List.range' 0 i++List.range' (0+i) (m - i):=by
   rw [List.range'_append_1];congr 1;omega
  rw [h1]
  congr 1
  rw [show m - i=(m - i - 1)+1 by omega,List.range'_succ]
  simp
 refine ⟨(List.range i).filter fun j=>!listed.getD j true,(List.range' (i+1) (m - i - 1)).filter fun j=>!listed.getD j true,?_,?_,?_⟩
 ·unfold rem
  rw [hr,List.filter_append,List.filter_cons]
  simp [hl]
 ·intro k hk
  obtain ⟨h1,h2⟩:=List.mem_filter.1 hk
  exact ⟨List.mem_range.1 h1,by simpa using h2⟩
 ·unfold rem
  rw [hr,List.filter_append,List.filter_cons]
  rw [hset i]
  simp only [if_true,Bool.not_true,Bool.false_eq_true,if_false]
  congr 1
  ·refine List.filter_congr fun j hj=>?_
   have:j ≠ i:=by have:=List.mem_range.1 hj;omega
   rw [hset,if_neg this]
  ·refine List.filter_congr fun j hj=>?_
   have:j ≠ i:=by have:=List.mem_range'_1.1 hj;omega
   rw [hset,if_neg this]
theorem getD_ft {listed:Array Bool} {j:Nat} (h:listed.getD j true=false):listed.getD j false=false:=by
 rcases Nat.lt_or_ge j listed.size with hs | hs
 ·simp [Array.getD_eq_getD_getElem?,hs] at h ⊢;exact h
 ·simp [Array.getD_eq_getD_getElem?,Array.getElem?_eq_none hs]
section
variable {X:Tab}
theorem applyU_off {s:Nat}:∀ {u:Ups X} {e:Env X},(∀ y∈u,y.1 ≠ s)→applyU e u s=e s
 | [],e,_=>rfl
 | (t,v) :: u,e,h=>by
  simp only [applyU]
  rw [applyU_off fun y hy=>h y (List.mem_cons_of_mem _ hy),upd_ne]
  exact fun hs=>h (t,v) (List.mem_cons_self ..) hs.symm
theorem applyU_at {s:Nat}:∀ {u:Ups X} {e e':Env X},e s=e' s→applyU e u s=applyU e' u s
 | [],e,e',h=>h
 | (t,v) :: u,e,e',h=>by
  simp only [applyU]
  refine applyU_at ?_
  unfold upd;split
  ·rfl
  ·exact h
theorem applyU_comm {u v:Ups X} {e:Env X} (h:∀ y∈u,∀ z∈v,y.1 ≠ z.1):applyU (applyU e u) v=applyU (applyU e v) u:=by
 funext s
 by_cases hu:∃ y∈u,y.1=s
 ·obtain ⟨y,hy,rfl⟩:=hu
  rw [applyU_off fun z hz=>(h y hy z hz).symm]
  exact applyU_at (applyU_off fun z hz=>(h y hy z hz).symm).symm
 ·rw [applyU_off (u:=u) (e:=applyU e v) fun y hy hs=>hu ⟨y,hy,hs⟩]
  exact applyU_at (applyU_off fun y hy hs=>hu ⟨y,hy,hs⟩)
theorem disj_spec {a b:List Nat} (h:disj a b=true):∀ x∈a,∀ y∈b,x ≠ y:=fun x hx y hy he=>by
 have:=List.all_eq_true.1 (List.all_eq_true.1 h x hx) y hy
 subst he;simp at this
theorem touchX_agree {e e':Env X} {x:AX X} (h:Agree (touchX e x) e e'):touchX e' x=touchX e x:=by
 unfold touchX
 rw [rd_agree h fun s hs=>List.mem_append_left _ hs]
theorem touch_agree {e e':Env X} {o:AOpr X} (h:Agree (touch e o) e e'):touch e' o=touch e o:=by
 unfold touch
 congr 1
 have:∀ {l:List (AX X)},(∀ x∈l,Agree (touchX e x) e e')→l.flatMap (touchX e')=l.flatMap (touchX e):=fun {l} hl=>by
  induction l with
  | nil=>rfl
  | cons x l ih=>
   simp only [List.flatMap_cons]
   rw [touchX_agree (hl x (List.mem_cons_self ..)),ih fun y hy=>hl y (List.mem_cons_of_mem _ hy)]
 exact this fun x hx=>h.sub fun s hs=>List.mem_append_right _ (List.mem_flatMap.2 ⟨x,hx,hs⟩)
end
section
variable {P:Program} {Γ:Cx}
theorem frzU_agree {e e':Env Γ.X}:∀ {l:List (AX Γ.X)},(∀ x∈l,∀ s∈slotX x,e' s=e s)→frzU e' l=frzU e l
 | [],_=>rfl
 | x :: l,h=>by
  simp only [frzU]
  have hx:argFz e' x=argFz e x:=by
   cases x with
   | c _=>rfl
   | t s=>
    have hs:=h (.t s) (List.mem_cons_self ..) s (by simp [slotX])
    simp only [argFz,hs]
   | v s=>
    have hs:=h (.v s) (List.mem_cons_self ..) s (by simp [slotX])
    simp only [argFz,hs]
  rw [hx,frzU_agree fun y hy=>h y (List.mem_cons_of_mem _ hy)]
theorem args_xs {op:AOp Γ.X}:∀ x∈op.args,x∈op.xs:=fun x hx=>by
 cases op with
 | call f l=>exact hx
 | callv y l=>exact List.mem_cons_of_mem _ hx
 | part i j y=>exact hx
 | _=>cases hx
theorem slot_touch {e:Env Γ.X} {o:AOpr Γ.X} {x:AX Γ.X} (hx:x∈o.op.xs):∀ s∈slotX x,s∈touch e o:=fun s hs=>List.mem_append_right _ (List.mem_flatMap.2 ⟨x,hx,List.mem_append_left _ hs⟩)
theorem pre_agree {e e':Env Γ.X} {o:AOpr Γ.X} (ha:Agree (touchO e o) e e'):frzU e' o.op.args=frzU e o.op.args∧Agree (touch (pre e o.op) o) (pre e o.op) (pre e' o.op):=by
 have h1:frzU e' o.op.args=frzU e o.op.args:=frzU_agree fun x hx s hs=>ha s (List.mem_append_left _ (slot_touch (args_xs x hx) s hs))
 refine ⟨h1,?_⟩
 unfold pre
 rw [h1]
 exact (ha.sub fun s hs=>List.mem_append_right _ hs).applyU _
theorem touchO_agree {e e':Env Γ.X} {o:AOpr Γ.X} (ha:Agree (touchO e o) e e'):touchO e' o=touchO e o:=by
 unfold touchO
 rw [touch_agree (ha.sub fun s hs=>List.mem_append_left _ hs),touch_agree (pre_agree ha).2]
theorem Ran.agree {e e':Env Γ.X} {g:Nat} {o:AOpr Γ.X} {us:Ups Γ.X} (h:Ran P e g o us) (ha:Agree (touchO e o) e e'):Ran P e' g o us:=by
 obtain ⟨ans,us1,h0,h1,h2⟩:=h
 obtain ⟨g1,g2⟩:=pre_agree ha
 have hs:∀ x∈o.op.xs,Sees (touch (pre e o.op) o) (pre e o.op) x:=fun x hx s hs=>List.mem_append_right _ (List.mem_flatMap.2 ⟨x,hx,hs⟩)
 refine ⟨ans,us1,by rw [g1];exact h0,by rw [eff_agree g2 hs];exact h1,?_⟩
 rw [callArgs_agree g2 hs]
 exact h2
theorem Took.agree {e e':Env Γ.X} {g:Nat} {o:AOpr Γ.X} {us:Ups Γ.X} (h:Took P e g o us) (ha:Agree (touchO e o) e e'):Took P e' g o us:=by
 unfold Took at *
 cases hg:o.guard with
 | none=>rw [hg] at h;exact h.agree ha
 | some q=>
  obtain ⟨s,want⟩:=q
  rw [hg] at h
  have hs:=ha s (List.mem_append_left _ (List.mem_append_left _ (by rw [hg];simp)))
  rcases h with ⟨b,ov,h1,h2⟩ | ⟨h1,h2⟩
  ·exact .inl ⟨b,ov,hs.trans h1,h2.imp_left fun h=>⟨h.1,h.2.agree ha⟩⟩
  ·exact .inr ⟨hs.trans h1,h2⟩
theorem Ran.key {e:Env Γ.X} {g:Nat} {o:AOpr Γ.X} {us:Ups Γ.X} (h:Ran P e g o us):∀ y∈us,y.1∈keysO e o:=by
 obtain ⟨ans,us1,h0,h1,_⟩:=h
 subst h0
 intro y hy
 rcases List.mem_append.1 hy with hy | hy
 ·exact List.mem_append_left _ (List.mem_map.2 ⟨y,hy,rfl⟩)
 ·exact List.mem_append_right _ (eff_key h1 y hy)
theorem Took.key {e:Env Γ.X} {g:Nat} {o:AOpr Γ.X} {us:Ups Γ.X} (h:Took P e g o us):∀ y∈us,y.1∈keysO e o:=by
 unfold Took at h
 cases hg:o.guard with
 | none=>rw [hg] at h;exact h.key
 | some q=>
  obtain ⟨s,want⟩:=q
  rw [hg] at h
  rcases h with ⟨b,ov,_,h2⟩ | ⟨_,rfl⟩
  ·rcases h2 with ⟨_,h2⟩ | ⟨_,rfl⟩
   ·exact h2.key
   ·intro y hy
    exact List.mem_append_right _ (List.mem_append_left _ (mem_outU hy))
  ·intro y hy
   exact List.mem_append_right _ (List.mem_append_left _ (mem_outU hy))
def SoftEq {X:Tab} (x y:AV X):Prop:=x=y∨(∃ T v v' o,x=.val T v o∧y=.val T v' o)∨∃ g T v v' o,x=.box g T v o∧y=.box g T v' o
theorem SoftEq.symm {X:Tab} {x y:AV X} (h:SoftEq x y):SoftEq y x:=by
 rcases h with rfl | ⟨T,v,v',o,rfl,rfl⟩ | ⟨g,T,v,v',o,rfl,rfl⟩
 ·exact .inl rfl
 ·exact .inr (.inl ⟨T,v',v,o,rfl,rfl⟩)
 ·exact .inr (.inr ⟨g,T,v',v,o,rfl,rfl⟩)
def WeakEq {X:Tab} (x y:AV X):Prop:=SoftEq x y∨∃ g T v v' o o',x=.box g T v o∧y=.box g T v' o'
theorem WeakEq.symm {X:Tab} {x y:AV X} (h:WeakEq x y):WeakEq y x:=by
 rcases h with h | ⟨g,T,v,v',o,o',rfl,rfl⟩
 ·exact .inl h.symm
 ·exact .inr ⟨g,T,v',v,o',o,rfl,rfl⟩
theorem without_mem {l m:List Nat} {s:Nat} (h:s∈l) (hm:s ∉ m):s∈without l m:=by
 refine List.mem_filter.2 ⟨h,?_⟩
 rw [Bool.not_eq_true',Bool.eq_false_iff]
 intro hh
 obtain ⟨x,hx,he⟩:=List.any_eq_true.1 hh
 exact hm ((beq_iff_eq.1 he) ▸ hx)
theorem without_nil {l:List Nat}:without l []=l:=by simp [without]
theorem rd_soft {e e':Env Γ.X} {x:AX Γ.X} (h:∀ s∈slotX x,SoftEq (e s) (e' s)) {b:Base} {q:List PS} (hr:Go.A2.rd e x=.ptr b q):Go.A2.rd e' x=.ptr b q:=by
 have key:∀ n,SoftEq (e n) (e' n)→Go.A2.rd e (.v n)=.ptr b q→Go.A2.rd e' (.v n)=.ptr b q:=fun n hs hr=>by
  simp only [Go.A2.rd] at hr ⊢
  rcases hs with hs | ⟨T,v,v',o,h1,h2⟩ | ⟨g,T,v,v',o,h1,h2⟩
  ·rw [←hs];exact hr
  ·rw [h1] at hr
   cases T<;>cases o<;>cases hr
  ·rw [h1] at hr;rw [h2];exact hr
 cases x with
 | c y=>exact hr
 | t n=>exact key n (h n (by simp [slotX])) hr
 | v n=>exact key n (h n (by simp [slotX])) hr
theorem rd_weak {e e':Env Γ.X} {x:AX Γ.X} (h:∀ s∈slotX x,WeakEq (e s) (e' s)) {b:Base} {q:List PS} (hr:Go.A2.rd e x=.ptr b q):Go.A2.rd e' x=.ptr b q:=by
 have key:∀ n,WeakEq (e n) (e' n)→Go.A2.rd e (.v n)=.ptr b q→Go.A2.rd e' (.v n)=.ptr b q:=fun n hs hr=>by
  rcases hs with hs | ⟨g,T,v,v',o,o',h1,h2⟩
  ·exact rd_soft (x:=.v n) (fun s hm=>by simp [slotX] at hm;subst hm;exact hs) hr
  ·simp only [Go.A2.rd] at hr ⊢
   rw [h1] at hr;rw [h2];exact hr
 cases x with
 | c y=>exact hr
 | t n=>exact key n (h n (by simp [slotX])) hr
 | v n=>exact key n (h n (by simp [slotX])) hr
theorem rd_softR {e e':Env Γ.X} {n:Nat} (h:SoftEq (e n) (e' n)) {s g:Nat} {q:List PS} (hr:Go.A2.rd e (.v n)=.ref s q g):Go.A2.rd e' (.v n)=.ref s q g:=by
 simp only [Go.A2.rd] at hr ⊢
 rcases h with hs | ⟨T,v,v',o,h1,h2⟩ | ⟨g,T,v,v',o,h1,h2⟩
 ·rw [←hs];exact hr
 ·rw [h1] at hr
  rw [h2]
  cases T<;>cases o<;>first | exact hr | cases hr
 ·rw [h1] at hr;cases hr
theorem formP_some {v:AV Γ.X} {s:Nat} (h:s∈formP v):∃ g q,v=.ptr (.box s g) q:=by
 unfold formP at h
 split at h
 ·rename_i s' g q
  simp only [List.mem_singleton] at h;subst h
  exact ⟨g,q,rfl⟩
 ·cases h
inductive FormOp (e:Env Γ.X) (s:Nat):AOp Γ.X→Prop where
 | fld (i:Γ.X.ι) (j:Nat) (x:AX Γ.X) (g:Nat) (q:List PS) (hr:Go.A2.rd e x=.ptr (.box s g) q):FormOp e s (.fld i j x)
 | load (T:Γ.X.Ty) (x:AX Γ.X) (g:Nat) (q:List PS) (g':Nat) (T0:Γ.X.Ty) (v0:Γ.X.den T0) (o0:Own) (g2:Nat) (hr:Go.A2.rd e x=.ptr (.box s g) q) (hes:e s=.box g' T0 v0 o0) (ho:ownAt o0 q=.yes g2) (hq:onlyFld q=true):FormOp e s (.load T x)
 | move (x:AX Γ.X) (g:Nat) (q:List PS) (hr:Go.A2.rd e x=.ptr (.box s g) q):FormOp e s (.move x)
 | moveR (n:Nat) (g:Nat) (q:List PS) (hr:Go.A2.rd e (.v n)=.ref s q g):FormOp e s (.move (.v n))
 | nilCheck (x:AX Γ.X) (g:Nat) (q:List PS) (hr:Go.A2.rd e x=.ptr (.box s g) q):FormOp e s (.nilCheck x)
 | idxA (n:Nat) (t:Γ.X.Ty) (x i:AX Γ.X) (g:Nat) (q:List PS) (hr:Go.A2.rd e x=.ptr (.box s g) q):FormOp e s (.idxA n t x i)
 | arrS (b n:Nat) (t:Γ.X.Ty) (x:AX Γ.X) (g:Nat) (q:List PS) (hr:Go.A2.rd e x=.ptr (.box s g) q):FormOp e s (.arrS b n t x none none)
theorem form_ops {e:Env Γ.X} {op:AOp Γ.X} {s:Nat} (h:s∈formR e op):FormOp e s op:=by
 unfold formR at h
 split at h
 ·rename_i x
  unfold formM at h
  split at h
  ·split at h
   ·rename_i s' q g hr
    simp only [List.mem_singleton] at h;subst h
    exact .moveR _ g q hr
   ·obtain ⟨g,q,hr⟩:=formP_some h;exact .move _ g q hr
  ·obtain ⟨g,q,hr⟩:=formP_some h;exact .move _ g q hr
 ·obtain ⟨g,q,hr⟩:=formP_some h;exact .nilCheck _ g q hr
 ·obtain ⟨g,q,hr⟩:=formP_some h;exact .idxA _ _ _ _ g q hr
 ·obtain ⟨g,q,hr⟩:=formP_some h;exact .arrS _ _ _ _ g q hr
 ·rename_i i j x
  split at h
  ·rename_i s' g q hr
   simp only [List.mem_singleton] at h;subst h
   exact .fld i j x g q hr
  ·cases h
 ·rename_i T x
  split at h
  ·rename_i s' g q hr
   split at h
   ·rename_i g' T0 v0 o0 hes
    split at h
    ·rename_i g2 ho
     split at h
     ·rename_i hq
      simp only [List.mem_singleton] at h;subst h
      exact .load T x g q g' T0 v0 o0 g2 hr hes ho hq
     ·cases h
    ·cases h
   ·cases h
  ·cases h
 ·cases h
theorem form_one {e:Env Γ.X} {op:AOp Γ.X} {s t:Nat} (h:s∈formR e op) (h':t∈formR e op):t=s:=by
 cases form_ops h with
 | fld i j x g q hr=>cases form_ops h' with
  | fld _ _ _ g' q' hr'=>rw [hr] at hr';cases hr';rfl
 | load T x g q g' T0 v0 o0 g2 hr hes ho hq=>cases form_ops h' with
  | load _ _ g1 q1 g1' T1 v1 o1 g3 hr'=>rw [hr] at hr';cases hr';rfl
 | move x g q hr=>cases form_ops h' with
  | move _ g' q' hr'=>rw [hr] at hr';cases hr';rfl
  | moveR _ g' q' hr'=>rw [hr] at hr';cases hr'
 | moveR n g q hr=>cases form_ops h' with
  | move _ g' q' hr'=>rw [hr] at hr';cases hr'
  | moveR _ g' q' hr'=>rw [hr] at hr';cases hr';rfl
 | nilCheck x g q hr=>cases form_ops h' with
  | nilCheck _ g' q' hr'=>rw [hr] at hr';cases hr';rfl
 | idxA n t x i g q hr=>cases form_ops h' with
  | idxA _ _ _ _ g' q' hr'=>rw [hr] at hr';cases hr';rfl
 | arrS b n t x g q hr=>cases form_ops h' with
  | arrS _ _ _ _ g' q' hr'=>rw [hr] at hr';cases hr';rfl
theorem ptrTy_soft {e e':Env Γ.X} {s g:Nat} {q:List PS} (h:SoftEq (e s) (e' s)):ptrTy e' (.box s g) q=ptrTy e (.box s g) q:=by
 simp only [ptrTy]
 rcases h with hs | ⟨T,v,v',o,h1,h2⟩ | ⟨g,T,v,v',o,h1,h2⟩
 ·rw [hs]
 ·rw [h1,h2]
 ·rw [h1,h2]
theorem ptrTy_weak {e e':Env Γ.X} {s g:Nat} {q:List PS} (h:WeakEq (e s) (e' s)):ptrTy e' (.box s g) q=ptrTy e (.box s g) q:=by
 rcases h with h | ⟨g,T,v,v',o,o',h1,h2⟩
 ·exact ptrTy_soft h
 ·simp only [ptrTy];rw [h1,h2]
theorem move_ptr {e:Env Γ.X} {x:AX Γ.X} {s g1 g:Nat} {q:List PS} {ans:Ret Γ.X} {d:Option Nat} (hr:Go.A2.rd e x=.ptr (.box s g1) q):eff ans g e d (.move x)=some (outU d (.ptr (.box s g1) q)):=by
 cases x with
 | c y=>simp only [Go.A2.rd] at hr;subst hr;rfl
 | t n=>
  simp only [eff]
  have hr0:=hr
  simp only [Go.A2.rd] at hr
  cases hen:e n with
  | val T v o=>rw [hen] at hr;cases T<;>cases o<;>cases hr
  | tup l=>rw [hen] at hr;cases hr
  | ref=>rw [hen] at hr;cases hr
  | fnew=>rw [hen] at hr;cases hr
  | _=>simp only [hr0]
 | v n=>
  simp only [eff]
  have hr0:=hr
  simp only [Go.A2.rd] at hr
  cases hen:e n with
  | val T v o=>rw [hen] at hr;cases T<;>cases o<;>cases hr
  | tup l=>rw [hen] at hr;cases hr
  | fnew=>rw [hen] at hr;cases hr
  | _=>simp only [hr0]
theorem eff_weak {e e':Env Γ.X} {op:AOp Γ.X} {s:Nat} (hs:s∈weakR e op) (ha:∀ t∈op.xs.flatMap (touchX e),t ≠ s→e' t=e t) (hw:WeakEq (e s) (e' s)):
  (∀ ans g d us,eff ans g e d op=some us→eff ans g e' d op=some us)∧(formR e' op=formR e op∧weakR e' op=weakR e op)∧op.xs.flatMap (touchX e')=op.xs.flatMap (touchX e)∧op.args=[]∧∀ e,callArgs e op=none:=by
 have hn:∀ x∈op.xs,∀ n∈slotX x,WeakEq (e n) (e' n):=fun x hx n hnx=>by
  by_cases hns:n=s
  ·subst hns;exact hw
  ·exact .inl (.inl (ha n (List.mem_flatMap.2 ⟨x,hx,List.mem_append_left _ hnx⟩) hns).symm)
 unfold weakR at hs
 split at hs
 ·rename_i x
  obtain ⟨g1,q,hr⟩:=formP_some hs
  have hr':=rd_weak (hn x (by simp [AOp.xs])) hr
  have fm:∀ e:Env Γ.X,Go.A2.rd e x=.ptr (.box s g1) q→formR e (.move x)=[s]:=fun e hr=>by
   cases x<;>simp only [formR,formM,hr,formP]
  refine ⟨fun ans g d us h=>?_,⟨by rw [fm e hr,fm e' hr'],by simp only [weakR,hr,hr']⟩,by simp [AOp.xs,touchX,hr,hr'],rfl,fun _=>rfl⟩
  rw [move_ptr hr] at h
  rw [move_ptr hr'];exact h
 ·rename_i x
  obtain ⟨g1,q,hr⟩:=formP_some hs
  have hr':=rd_weak (hn x (by simp [AOp.xs])) hr
  refine ⟨fun ans g d us h=>?_,⟨by simp only [formR,hr,hr'],by simp only [weakR,hr,hr']⟩,by simp [AOp.xs,touchX,hr,hr'],rfl,fun _=>rfl⟩
  simp only [eff,hr] at h
  simp only [eff,hr']
  rw [ptrTy_weak hw]
  exact h
 ·rename_i i j x
  obtain ⟨g1,q,hr⟩:=formP_some hs
  have hr':=rd_weak (hn x (by simp [AOp.xs])) hr
  refine ⟨fun ans g d us h=>?_,⟨by simp only [formR,hr,hr'],by simp only [weakR,hr,hr']⟩,by simp [AOp.xs,touchX,hr,hr'],rfl,fun _=>rfl⟩
  simp only [eff,hr] at h
  simp only [eff,hr']
  rw [ptrTy_weak hw]
  exact h
 ·cases hs
theorem weakR_soft {e e':Env Γ.X} {op:AOp Γ.X} {s:Nat} (hs:s∈formR e op) (ha:∀ t∈op.xs.flatMap (touchX e),t ≠ s→e' t=e t) (hsoft:SoftEq (e s) (e' s)):weakR e' op=weakR e op:=by
 have hn:∀ x∈op.xs,∀ n∈slotX x,SoftEq (e n) (e' n):=fun x hx n hnx=>by
  by_cases hns:n=s
  ·subst hns;exact hsoft
  ·exact .inl (ha n (List.mem_flatMap.2 ⟨x,hx,List.mem_append_left _ hnx⟩) hns).symm
 cases form_ops hs with
 | move x g1 q hr=>have hr':=rd_soft (hn x (by simp [AOp.xs])) hr;simp only [weakR,hr,hr']
 | moveR n g1 q hr=>have hr':=rd_softR (hn (.v n) (by simp [AOp.xs]) n (by simp [slotX])) hr;simp only [weakR,hr,hr']
 | nilCheck x g1 q hr=>have hr':=rd_soft (hn x (by simp [AOp.xs])) hr;simp only [weakR,hr,hr']
 | fld i j x g1 q hr=>have hr':=rd_soft (hn x (by simp [AOp.xs])) hr;simp only [weakR,hr,hr']
 | _=>rfl
theorem weakR_agree {e e':Env Γ.X} {op:AOp Γ.X} (hx:∀ x∈op.xs,Agree (touchX e x) e e'):weakR e' op=weakR e op:=by
 unfold weakR
 split
 ·rename_i x;rw [rd_agree (hx x (by simp [AOp.xs])) fun s hs=>List.mem_append_left _ hs]
 ·rename_i x;rw [rd_agree (hx x (by simp [AOp.xs])) fun s hs=>List.mem_append_left _ hs]
 ·rename_i i j x;rw [rd_agree (hx x (by simp [AOp.xs])) fun s hs=>List.mem_append_left _ hs]
 ·rfl
theorem eff_form {e e':Env Γ.X} {op:AOp Γ.X} {s:Nat} (hs:s∈formR e op) (ha:∀ t∈op.xs.flatMap (touchX e),t ≠ s→e' t=e t) (hsoft:SoftEq (e s) (e' s)):
  (∀ ans g d us,eff ans g e d op=some us→eff ans g e' d op=some us)∧formR e' op=formR e op∧op.xs.flatMap (touchX e')=op.xs.flatMap (touchX e)∧op.args=[]∧∀ e,callArgs e op=none:=by
 have hn:∀ x∈op.xs,∀ n∈slotX x,SoftEq (e n) (e' n):=fun x hx n hnx=>by
  by_cases hns:n=s
  ·subst hns;exact hsoft
  ·exact .inl (ha n (List.mem_flatMap.2 ⟨x,hx,List.mem_append_left _ hnx⟩) hns).symm
 cases form_ops hs with
 | move x g1 q hr=>
  have hr':=rd_soft (hn x (by simp [AOp.xs])) hr
  have fm:∀ e:Env Γ.X,Go.A2.rd e x=.ptr (.box s g1) q→formR e (.move x)=[s]:=fun e hr=>by
   cases x<;>simp only [formR,formM,hr,formP]
  refine ⟨fun ans g d us h=>?_,by rw [fm e hr,fm e' hr'],by simp [AOp.xs,touchX,hr,hr'],rfl,fun _=>rfl⟩
  have mv:∀ e:Env Γ.X,Go.A2.rd e x=.ptr (.box s g1) q→eff ans g e d (.move x)=some (outU d (.ptr (.box s g1) q)):=fun e hr=>by
   cases x with
   | c y=>simp only [Go.A2.rd] at hr;subst hr;rfl
   | t n=>
    simp only [eff]
    have hr0:=hr
    simp only [Go.A2.rd] at hr
    cases hen:e n with
    | val T v o=>rw [hen] at hr;cases T<;>cases o<;>cases hr
    | tup l=>rw [hen] at hr;cases hr
    | ref=>rw [hen] at hr;cases hr
    | fnew=>rw [hen] at hr;cases hr
    | _=>simp only [hr0]
   | v n=>
    simp only [eff]
    have hr0:=hr
    simp only [Go.A2.rd] at hr
    cases hen:e n with
    | val T v o=>rw [hen] at hr;cases T<;>cases o<;>cases hr
    | tup l=>rw [hen] at hr;cases hr
    | fnew=>rw [hen] at hr;cases hr
    | _=>simp only [hr0]
  rw [mv e hr] at h
  rw [mv e' hr'];exact h
 | moveR n g1 q hr=>
  have hr':=rd_softR (hn (.v n) (by simp [AOp.xs]) n (by simp [slotX])) hr
  refine ⟨fun ans g d us h=>?_,by simp only [formR,formM,hr,hr'],by simp [AOp.xs,touchX,hr,hr'],rfl,fun _=>rfl⟩
  have mv:∀ e:Env Γ.X,Go.A2.rd e (.v n)=.ref s q g1→eff ans g e d (.move (.v n))=some (outU d (.ref s q g1)):=fun e hr=>by
   simp only [eff]
   have hr0:=hr
   simp only [Go.A2.rd] at hr
   cases hen:e n with
   | val T v o=>rw [hen] at hr;cases T<;>cases o<;>first | (cases hr;done) | (simp only [AV.ref.injEq] at hr;obtain ⟨rfl,rfl,rfl⟩:=hr;rfl)
   | tup l=>rw [hen] at hr;cases hr
   | fnew=>rw [hen] at hr;cases hr
   | _=>simp only [hr0]
  rw [mv e hr] at h
  rw [mv e' hr'];exact h
 | nilCheck x g1 q hr=>
  have hr':=rd_soft (hn x (by simp [AOp.xs])) hr
  refine ⟨fun ans g d us h=>?_,by simp only [formR,hr,hr'],by simp [AOp.xs,touchX,hr,hr'],rfl,fun _=>rfl⟩
  simp only [eff,hr] at h
  simp only [eff,hr']
  rw [ptrTy_soft hsoft]
  exact h
 | arrS b n t x g1 q hr=>
  have hr':=rd_soft (hn x (by simp [AOp.xs])) hr
  refine ⟨fun ans g d us h=>?_,by simp only [formR,hr,hr'],by simp [AOp.xs,touchX,hr,hr'],rfl,fun _=>rfl⟩
  simp only [eff,oNat,hr] at h
  simp only [eff,oNat,hr']
  rw [ptrTy_soft hsoft]
  exact h
 | idxA n t x i g1 q hr=>
  have hr':=rd_soft (hn x (by simp [AOp.xs])) hr
  have hi:∀ (hp:ptrTy e (.box s g1) q=some (.arr n t)),Go.A2.rd e' i=Go.A2.rd e i:=fun hp=>by
   have hbox:∃ g' T v o,e s=.box g' T v o:=by
    simp only [ptrTy] at hp
    split at hp
    ·rename_i g' T v o hes;exact ⟨g',T,v,o,hes⟩
    ·cases hp
   obtain ⟨g',T,v,o,hes⟩:=hbox
   obtain ⟨v',hes'⟩:∃ v',e' s=.box g' T v' o:=by
    rcases hsoft with h | ⟨T1,v1,v1',o1,h1,h2⟩ | ⟨g3,T1,v1,v1',o1,h1,h2⟩
    ·exact ⟨v,by rw [←h,hes]⟩
    ·rw [hes] at h1;cases h1
    ·rw [hes] at h1;cases h1;exact ⟨v1',h2⟩
   have key:∀ m,(m ≠ s→e' m=e m)→Go.A2.rd e' (.v m)=Go.A2.rd e (.v m):=fun m hm=>by
    by_cases hms:m=s
    ·subst hms;simp only [Go.A2.rd,hes,hes']
    ·simp only [Go.A2.rd,hm hms]
   cases i with
   | c y=>rfl
   | t m=>exact key m fun hm=>ha m (List.mem_flatMap.2 ⟨.t m,by simp [AOp.xs],List.mem_append_left _ (by simp [slotX])⟩) hm
   | v m=>exact key m fun hm=>ha m (List.mem_flatMap.2 ⟨.v m,by simp [AOp.xs],List.mem_append_left _ (by simp [slotX])⟩) hm
  have hfo:formR e' (.idxA n t x i)=formR e (.idxA n t x i):=by simp only [formR,hr,hr']
  have hro:rootsOf (Go.A2.rd e' i)=rootsOf (Go.A2.rd e i):=by
   have key:∀ m,SoftEq (e m) (e' m)→rootsOf (Go.A2.rd e' (.v m))=rootsOf (Go.A2.rd e (.v m)):=fun m hm=>by
    rcases hm with hm | ⟨T,v,v',o,h1,h2⟩ | ⟨g,T,v,v',o,h1,h2⟩
    ·simp only [Go.A2.rd,hm]
    ·simp only [Go.A2.rd,h1,h2]
     cases T<;>cases o<;>rfl
    ·simp only [Go.A2.rd,h1,h2]
   cases i with
   | c y=>rfl
   | t m=>exact key m (hn (.t m) (by simp [AOp.xs]) m (by simp [slotX]))
   | v m=>exact key m (hn (.v m) (by simp [AOp.xs]) m (by simp [slotX]))
  refine ⟨fun ans g d us h=>?_,hfo,by simp [AOp.xs,touchX,hr,hr',hro],rfl,fun _=>rfl⟩
  by_cases hp:ptrTy e (.box s g1) q=some (.arr n t)
  ·have hri':=hi hp
   cases hri:Go.A2.rd e i with
   | val T v o=>cases T with
    | int k=>
     simp only [eff,hr,hri,hp,if_true] at h
     simp only [eff,hr',hri',hri,ptrTy_soft hsoft,hp,if_true]
     exact h
    | _=>simp only [eff,hr,hri] at h;cases h
   | _=>simp only [eff,hr,hri] at h;cases h
  ·exfalso
   simp only [eff,hr] at h
   split at h
   ·rename_i h1 h2
    cases h1
    rw [if_neg hp] at h;cases h
   ·rename_i h1 h2;cases h1
   ·cases h
 | fld i j x g1 q hr=>
  have hr':=rd_soft (hn x (by simp [AOp.xs])) hr
  refine ⟨fun ans g d us h=>?_,by simp only [formR,hr,hr'],by simp [AOp.xs,touchX,hr,hr'],rfl,fun _=>rfl⟩
  simp only [eff,hr] at h
  simp only [eff,hr']
  rw [ptrTy_soft hsoft]
  exact h
 | load T x g1 q g' T0 v0 o0 g2 hr hes ho hq=>
  have hr':=rd_soft (hn x (by simp [AOp.xs])) hr
  obtain ⟨v0',hes'⟩:∃ v0',e' s=.box g' T0 v0' o0:=by
   rcases hsoft with h | ⟨T,v,v',o,h1,h2⟩ | ⟨g,T,v,v',o,h1,h2⟩
   ·exact ⟨v0,by rw [←h,hes]⟩
   ·rw [hes] at h1;cases h1
   ·rw [hes] at h1;cases h1;exact ⟨v',h2⟩
  refine ⟨fun ans g d us h=>?_,by simp only [formR,hr,hr',hes,hes'],by simp [AOp.xs,touchX,hr,hr'],rfl,fun _=>rfl⟩
  simp only [eff,hr,loadV,hes] at h
  simp only [eff,hr',loadV,hes']
  split at h
  ·rename_i hg
   rw [if_pos hg]
   split at h
   ·rename_i T1 x1 hgq
    obtain ⟨x2,hx2⟩:=getQ_of_tyQ v0' (tyQ_of_getQ hq hgq)
    rw [hx2]
    simp only []
    split at h
    ·rename_i y hy
     obtain ⟨hT,_⟩:=castT_some hy
     cases hT
     rw [castT_self]
     simp only [ho] at h ⊢
     rw [if_pos hq]
     exact h
    ·cases h
   ·cases h
  ·cases h
theorem Took.soft {e e':Env Γ.X} {g:Nat} {o:AOpr Γ.X} {us:Ups Γ.X} (h:Took P e g o us) (ha:∀ s∈without (touchO e o) (formO e o),e' s=e s) (hs:∀ s∈formO e o,s ∉ weakO e o→SoftEq (e s) (e' s)) (hw:∀ s∈weakO e o,WeakEq (e s) (e' s)):
  Took P e' g o us∧(formO e' o=formO e o∧weakO e' o=weakO e o)∧touchO e' o=touchO e o:=by
 by_cases hf:formO e o=[]
 ·have hag:Agree (touchO e o) e e':=fun s hs=>ha s (by rw [hf,without_nil];exact hs)
  have hx:∀ x∈o.op.xs,Agree (touchX e x) e e':=fun x hx s hs=>hag s (List.mem_append_left _ (List.mem_append_right _ (List.mem_flatMap.2 ⟨x,hx,hs⟩)))
  refine ⟨h.agree hag,⟨?_,?_⟩,touchO_agree hag⟩
  rotate_left
  ·unfold weakO
   split
   ·exact weakR_agree hx
   ·rfl
  unfold formO
  split
  ·unfold formR
   split
   ·rename_i x hop
    have hxx:=hx x (by rw [hop];simp [AOp.xs])
    have hrx:Go.A2.rd e' x=Go.A2.rd e x:=rd_agree hxx fun s hs=>List.mem_append_left _ hs
    cases x with
    | c y=>rfl
    | t n=>simp only [formM];rw [hrx]
    | v n=>simp only [formM];rw [hrx]
   ·rename_i x hop
    have hxx:=hx x (by rw [hop];simp [AOp.xs])
    rw [rd_agree hxx fun s hs=>List.mem_append_left _ hs]
   ·rename_i n t x i hop
    have hxx:=hx x (by rw [hop];simp [AOp.xs])
    rw [rd_agree hxx fun s hs=>List.mem_append_left _ hs]
   ·rename_i b n t x hop
    have hxx:=hx x (by rw [hop];simp [AOp.xs])
    rw [rd_agree hxx fun s hs=>List.mem_append_left _ hs]
   ·rename_i i j x hop
    have hxx:=hx x (by rw [hop];simp [AOp.xs])
    rw [rd_agree hxx fun s hs=>List.mem_append_left _ hs]
   ·rename_i T x hop
    have hxx:=hx x (by rw [hop];simp [AOp.xs])
    rw [rd_agree hxx fun s hs=>List.mem_append_left _ hs]
    split
    ·rename_i s g1 q hr
     rw [hxx s (List.mem_append_right _ (by rw [hr];simp [rootsOf,roots1,rootOf]))]
    ·rfl
   ·rfl
  ·rfl
 ·have hgn:o.guard=none:=by
   cases hg:o.guard with
   | none=>rfl
   | some q=>exact absurd (by simp [formO,hg]) hf
  have hfo:formO e o=formR e o.op:=by simp [formO,hgn]
  have hwo:weakO e o=weakR e o.op:=by simp [weakO,hgn]
  rw [hfo] at ha hs hf
  rw [hwo] at hs hw
  obtain ⟨s,hsf⟩:=List.exists_mem_of_ne_nil _ hf
  have hone:∀ t∈formR e o.op,t=s:=fun t ht=>form_one hsf ht
  have hagx:∀ t∈o.op.xs.flatMap (touchX e),t ≠ s→e' t=e t:=fun t ht hts=>ha t (without_mem (List.mem_append_left _ (List.mem_append_right _ ht)) fun hm=>hts (hone t hm))
  obtain ⟨k1,⟨k2,k2'⟩,k3,k4,k5⟩:(∀ ans g d us,eff ans g e d o.op=some us→eff ans g e' d o.op=some us)∧(formR e' o.op=formR e o.op∧weakR e' o.op=weakR e o.op)∧o.op.xs.flatMap (touchX e')=o.op.xs.flatMap (touchX e)∧o.op.args=[]∧∀ e,callArgs e o.op=none:=by
   by_cases hsw:s∈weakR e o.op
   ·exact eff_weak hsw hagx (hw s hsw)
   ·obtain ⟨k1,k2,k3⟩:=eff_form hsf hagx (hs s hsf hsw)
    exact ⟨k1,⟨k2,weakR_soft hsf hagx (hs s hsf hsw)⟩,k3⟩
  have hpre:∀ e:Env Γ.X,pre e o.op=e:=fun e=>by simp [pre,k4,frzU,applyU]
  refine ⟨?_,?_,?_⟩
  ·unfold Took at h ⊢
   rw [hgn] at h ⊢
   obtain ⟨ans,us1,q0,q1,q2⟩:=h
   rw [hpre] at q1
   exact ⟨ans,us1,by rw [k4] at q0 ⊢;exact q0,by rw [hpre];exact k1 _ _ _ _ q1,fun f as hc=>by rw [k5] at hc;cases hc⟩
  ·simp only [formO,weakO,hgn];exact ⟨k2,k2'⟩
  ·unfold touchO
   rw [hpre,hpre]
   unfold touch
   rw [k3]
theorem Took.softW {e:Env Γ.X} {g:Nat} {o:AOpr Γ.X} {us:Ups Γ.X} (h:Took P e g o us):∀ s,s ∉ without (keysO e o) (softO e o)→SoftEq (e s) (applyU e us s):=fun s hs=>by
 by_cases hsw:s∈softO e o
 ·
  have hgn:o.guard=none:=by
   cases hg:o.guard with
   | none=>rfl
   | some q=>simp [softO,hg] at hsw
  have hsw:s∈Go.A2.softW e o.op:=by simpa [softO,hgn] using hsw
  have hop:∃ T x v,o.op=.store T x v∧tk e v=[]∧((∃ q g1 i r,Go.A2.rd e x=.ptr (.elem s q g1 i) r)∨∃ g1 r,Go.A2.rd e x=.ptr (.box s g1) r∧maskNo e v=true∧keepsM (e s) r=true):=by
   unfold Go.A2.softW at hsw
   split at hsw
   ·rename_i T x v hop
    split at hsw
    ·rename_i htk
     split at hsw
     ·rename_i s' q g1 i r hr
      simp only [List.mem_singleton] at hsw;subst hsw
      exact ⟨T,x,v,hop,htk,.inl ⟨q,g1,i,r,hr⟩⟩
     ·rename_i s' g1 r hr
      split at hsw
      ·rename_i hm
       rw [Bool.and_eq_true] at hm
       simp only [List.mem_singleton] at hsw;subst hsw
       exact ⟨T,x,v,hop,htk,.inr ⟨g1,r,hr,hm⟩⟩
      ·cases hsw
     ·cases hsw
    ·cases hsw
   ·cases hsw
  obtain ⟨T,x,v,hop,htk,hkind⟩:=hop
  have hran:Ran P e g o us→SoftEq (e s) (applyU e us s):=fun ⟨ans,us1,q0,q1,_⟩=>by
   have hp:pre e o.op=e:=by simp [pre,hop,AOp.args,frzU,applyU]
   rw [hop] at q0 q1
   simp only [AOp.args,frzU,List.nil_append] at q0
   subst q0
   rw [show pre e (.store T x v)=e by rw [←hop];exact hp] at q1
   simp only [eff] at q1
   split at q1
   ·rename_i T' v' m u ht
    have hu:u=[]:=by
     have:=take_key ht
     rw [htk] at this
     cases u with
     | nil=>rfl
     | cons y u=>exact absurd (this y (List.mem_cons_self ..)) (by simp)
    subst hu
    split at q1
    ·rename_i v1 hv1
     obtain ⟨us2,h2,rfl⟩:=Option.map_eq_some_iff.1 q1
     simp only [applyU,List.nil_append] at h2 ⊢
     rcases hkind with ⟨q,g1,i,r,hr⟩ | ⟨g1,r,hr,hmn,hkm⟩
     rotate_left
     ·have hm:m=.no:=by
       cases v with
       | c y=>cases y with
        | val T2 v2 o2=>
         cases o2<;>first | cases hmn | skip
         simp only [take,Own.pure,if_true,Option.some.injEq,Taken.mk.injEq] at ht
         exact ht.2.2.1.symm
        | _=>cases hmn
       | t n=>
        simp only [maskNo] at hmn
        cases hen:e n with
        | val T2 v2 o2=>
         rw [hen] at hmn
         simp only [take,hen] at ht
         cases o2<;>first | cases hmn | skip
         cases ht;rfl
        | _=>rw [hen] at hmn;cases hmn
       | v n=>
        simp only [maskNo] at hmn
        cases hen:e n with
        | val T2 v2 o2=>
         rw [hen] at hmn
         simp only [take,hen] at ht
         cases o2<;>first | cases hmn | skip
         cases ht;rfl
        | _=>rw [hen] at hmn;cases hmn
      subst hm
      rw [hr] at h2
      simp only [storeV] at h2
      split at h2
      ·rename_i g' T0 v0 o0 hes
       split at h2
       ·split at h2
        ·rename_i v1' o1 _ hO
         cases h2
         have:o1=o0:=by
          unfold keepsM at hkm
          rw [hes] at hkm
          simp only [] at hkm
          rw [show setO o0 r .no=some o1 from hO] at hkm
          exact Own.eqb_eq hkm
         subst this
         exact .inr (.inr ⟨g',T0,v0,v1',o1,hes,by simp [applyU,upd]⟩)
        ·cases h2
       ·cases h2
      ·cases h2
     rw [hr] at h2
     simp only [storeV] at h2
     split at h2
     ·split at h2
      ·split at h2
       ·rename_i _ T0 v0 o0 _ hes
        obtain ⟨z,_,rfl⟩:=Option.map_eq_some_iff.1 h2
        exact .inr (.inl ⟨T0,v0,z,o0,hes,by simp [applyU,upd]⟩)
       ·rename_i _ g' T0 v0 o0 _ hes
        obtain ⟨z,_,rfl⟩:=Option.map_eq_some_iff.1 h2
        exact .inr (.inr ⟨g',T0,v0,z,o0,hes,by simp [applyU,upd]⟩)
       ·cases h2
      ·cases h2
     ·cases h2
    ·cases q1
   ·cases q1
  unfold Took at h
  rw [hgn] at h
  exact hran h
 ·refine .inl (applyU_off fun y hy hys=>hs ?_).symm
  exact without_mem (hys ▸ h.key y hy) hsw
theorem setMask_weak {e:Env Γ.X} {s:Nat} {q:List PS} {m:Own} {u:Ups Γ.X} (h:setMask e s q m=some u) {g:Nat} {T:Γ.X.Ty} {v:Γ.X.den T} {o:Own} (hes:e s=.box g T v o):∃ o',u=[(s,.box g T v o')]:=by
 simp only [setMask,hes] at h
 obtain ⟨o',_,rfl⟩:=Option.map_eq_some_iff.1 h
 exact ⟨o',rfl⟩
theorem Took.maskW {e:Env Γ.X} {g:Nat} {o:AOpr Γ.X} {us:Ups Γ.X} (h:Took P e g o us) {s:Nat} (hs:s∈maskO e o):WeakEq (e s) (applyU e us s):=by
 have hgn:o.guard=none:=by
  cases hg:o.guard with
  | none=>rfl
  | some q=>simp [maskO,hg] at hs
 have hd:o.dst ≠ some s:=by
  simp only [maskO,hgn,List.mem_filter] at hs
  intro hh;rw [hh] at hs;simp at hs
 have hs:s∈Go.A2.maskW e o.op:=by
  simp only [maskO,hgn,List.mem_filter] at hs
  exact hs.1
 have hop:∃ b t x y n q g1,o.op=.append b t x y∧(x=.t n∨x=.v n)∧e n=.ref s q g1∧q.isEmpty=false∧∃ g2 T v m,e s=.box g2 T v m:=by
  unfold Go.A2.maskW at hs
  have ms:∀ {y:AV Γ.X},s∈maskS e y→∃ q g1,y=.ref s q g1∧q.isEmpty=false∧∃ g2 T v m,e s=.box g2 T v m:=fun {y} hy=>by
   unfold maskS at hy
   split at hy
   ·rename_i r q g1
    split at hy
    ·cases hy
    ·rename_i hq
     split at hy
     ·rename_i g2 T v m hes
      simp only [List.mem_singleton] at hy;subst hy
      exact ⟨q,g1,rfl,Bool.eq_false_iff.2 hq,g2,T,v,m,hes⟩
     ·cases hy
   ·cases hy
  split at hs
  ·rename_i b t x y hop
   split at hs
   ·rename_i n
    obtain ⟨q,g1,h1,h2,h3⟩:=ms hs
    exact ⟨b,t,_,y,n,q,g1,hop,.inl rfl,h1,h2,h3⟩
   ·rename_i n
    obtain ⟨q,g1,h1,h2,h3⟩:=ms hs
    exact ⟨b,t,_,y,n,q,g1,hop,.inr rfl,h1,h2,h3⟩
   ·cases hs
  ·cases hs
 obtain ⟨b,t,x,y,n,q,g1,hop,hx,hen,hq,g2,T,v,m,hes⟩:=hop
 have hran:Ran P e g o us→WeakEq (e s) (applyU e us s):=fun ⟨ans,us1,q0,q1,_⟩=>by
  have hp:pre e o.op=e:=by simp [pre,hop,AOp.args,frzU,applyU]
  rw [hop] at q0 q1
  simp only [AOp.args,frzU,List.nil_append] at q0
  subst q0
  rw [show pre e (.append b t x y)=e by rw [←hop];exact hp] at q1
  have hgr:∀ {b1 t1 l1 u z},grab e x=some ⟨b1,t1,l1,u,z⟩→∃ o',u=[(s,.box g2 T v o')]:=fun {b1 t1 l1 u z} hg=>by
   have two:∀ {r:Option ((b:Nat)×(t:Γ.X.Ty)×Sl b (Γ.X.den t)×Ups Γ.X×Bool)},grab e (.t n)=r→grab e (.v n)=r:=fun {r} h=>by
    rw [←h];simp only [grab]
   have hg:grab e (.v n)=some ⟨b1,t1,l1,u,z⟩:=by
    rcases hx with rfl | rfl
    ·exact two hg
    ·exact hg
   simp only [grab,hen,hq,Bool.false_eq_true,if_false] at hg
   split at hg
   ·rename_i _ _ _ _ _ u1 _ hm
    obtain ⟨o',ho'⟩:=setMask_weak hm hes
    cases hg
    exact ⟨o',ho'⟩
   ·cases hg
  have fin:∀ (u:Ups Γ.X) (o':Own) (w:AV Γ.X),u=[(s,.box g2 T v o')]→WeakEq (e s) (applyU e (u++outU o.dst w) s):=fun u o' w hu=>by
   refine .inr ⟨g2,T,v,v,m,o',hes,?_⟩
   subst hu
   cases hdd:o.dst with
   | none=>simp [outU,applyU,upd]
   | some d=>
    rw [hdd] at hd
    have:s ≠ d:=fun hh=>hd (by rw [hh])
    simp [outU,applyU,upd,this]
  simp only [eff] at q1
  split at q1
  ·rename_i b1 t1 l1 u z hg
   obtain ⟨o',hu⟩:=hgr hg
   split at q1
   ·split at q1
    ·split at q1
     ·obtain ⟨l,_,h2⟩:=Option.bind_eq_some_iff.1 q1
      obtain ⟨us2,h3,rfl⟩:=Option.map_eq_some_iff.1 h2
      cases h3
      exact fin u o' _ hu
     ·obtain ⟨us2,h3,rfl⟩:=Option.map_eq_some_iff.1 q1
      cases h3
      exact fin u o' _ hu
    ·cases q1
   ·cases q1
  ·cases q1
 unfold Took at h
 rw [hgn] at h
 exact hran h
structure Reads (e:Env Γ.X) (o:AOpr Γ.X) (f:Foot):Prop where
 r:∀ s∈without (touchO e o) (formO e o),s∈f.rs
 h:∀ s∈formO e o,s ∉ weakO e o→s∈f.hs
 p:∀ s∈weakO e o,s∈f.ps
structure Writes (e:Env Γ.X) (us:Ups Γ.X) (f:Foot):Prop where
 w:∀ y∈us,y.1∈f.ws∨y.1∈f.es∨y.1∈f.ms
 s:∀ s,s ∉ f.ws→s ∉ f.ms→SoftEq (e s) (applyU e us s)
 m:∀ s,s ∉ f.ws→WeakEq (e s) (applyU e us s)
def Chain (P:Program) (al:List (AOpr Γ.X)) (us:Nat→Ups Γ.X) (ft:Nat→Foot):List Nat→Env Γ.X→Prop
 | [],_=>True
 | i :: l,e=>∃ o,al[i]?=some o∧Took P e (i+1) o (us i)∧Reads e o (ft i)∧Writes e (us i) (ft i)∧Chain P al us ft l (applyU e (us i))
def fin (us:Nat→Ups Γ.X):List Nat→Env Γ.X→Env Γ.X
 | [],e=>e
 | i :: l,e=>fin us l (applyU e (us i))
theorem Chain.congr {al:List (AOpr Γ.X)} {us us':Nat→Ups Γ.X} {ft ft':Nat→Foot}:∀ {l:List Nat} {e:Env Γ.X},(∀ i∈l,us' i=us i∧ft' i=ft i)→Chain P al us ft l e→Chain P al us' ft' l e
 | [],e,_,_=>trivial
 | i :: l,e,h,⟨o,h1,h2,h3,h4,h5⟩=>by
  obtain ⟨g1,g2⟩:=h i (List.mem_cons_self ..)
  refine ⟨o,h1,by rw [g1];exact h2,by rw [g2];exact h3,by rw [g1,g2];exact h4,?_⟩
  rw [g1]
  exact Chain.congr (fun j hj=>h j (List.mem_cons_of_mem _ hj)) h5
theorem fin_congr {us us':Nat→Ups Γ.X}:∀ {l:List Nat} {e:Env Γ.X},(∀ i∈l,us' i=us i)→fin us' l e=fin us l e
 | [],e,_=>rfl
 | i :: l,e,h=>by
  simp only [fin]
  rw [h i (List.mem_cons_self ..),fin_congr fun j hj=>h j (List.mem_cons_of_mem _ hj)]
theorem drawK_chain {C:CK Γ.X} (hC:CSound P C) {al:List (AOpr Γ.X)} {ms:List Nat} {k:Env Γ.X→Option (Ret Γ.X)} {r:Ret Γ.X}:∀ {l pre:List (AOpr Γ.X)} {fs:List Foot} {e:Env Γ.X},al=pre++l→fs.length=pre.length→
  drawK C (pre.length+1) l (ms.drop pre.length) fs e k=some r→∃ (us:Nat→Ups Γ.X) (ft:Nat→Foot),(∀ (i:Nat) f,fs[i]?=some f→ft i=f)∧Chain P al us ft (List.range' pre.length l.length) e ∧
   (∀ i,pre.length≤i→i < al.length→∀ j,j < i→(ms.getD i 0).testBit j=true∨apart (ft j) (ft i)=true)∧k (fin us (List.range' pre.length l.length) e)=some r
 | [],pre,fs,e,hal,hfs,h=>by
  refine ⟨fun _=>[],fun i=>(fs[i]?).getD ⟨[],[],[],[],[],[]⟩,fun i f hf=>by simp [hf],trivial,fun i hi hl=>?_,h⟩
  rw [hal] at hl;simp at hl;omega
 | o :: l,pre,fs,e,hal,hfs,h=>by
  simp only [drawK] at h
  split at h
  ·rename_i hap
   obtain ⟨u,h1,h2⟩:=stepK_took hC h
   rw [List.tail_drop] at h2
   obtain ⟨us,ft,k1,k2,k3,k4⟩:=drawK_chain hC (al:=al) (ms:=ms) (l:=l) (pre:=pre++[o]) (fs:=fs++[footOf e o]) (e:=applyU e u) (by rw [hal];simp) (by simp [hfs]) (by simpa using h2)
   have hfto:ft pre.length=footOf e o:=k1 pre.length _ (by simp [←hfs])
   have hon:al[pre.length]?=some o:=by rw [hal];simp
   have hlen:(pre++[o]).length=pre.length+1:=by simp
   rw [hlen] at k2 k3 k4
   have hc:∀ i∈List.range' (pre.length+1) l.length,(if i=pre.length then u else us i)=us i:=fun i hi=>by
    have:=List.mem_range'_1.1 hi
    rw [if_neg (by omega)]
   refine ⟨fun i=>if i=pre.length then u else us i,ft,fun i f hf=>k1 i f ?_,?_,?_,?_⟩
   ·rw [List.getElem?_append_left (List.getElem?_eq_some_iff.1 hf).1];exact hf
   ·rw [List.length_cons,List.range'_succ]
    refine ⟨o,hon,?_,?_,?_,?_⟩
    ·simpa using h1
    ·rw [hfto];exact ⟨fun s hs=>hs,fun s hs hn=>without_mem hs hn,fun s hs=>hs⟩
    ·rw [hfto]
     simp only [if_true]
     have hS:∀ s,s ∉ (footOf e o).ws→s ∉ (footOf e o).ms→SoftEq (e s) (applyU e u s):=fun s hs hm=>h1.softW s fun hh=>hs (without_mem hh hm)
     refine ⟨fun y hy=>?_,hS,fun s hs=>?_⟩
     ·by_cases hsw:y.1∈softO e o
      ·exact .inr (.inl hsw)
      ·by_cases hmw:y.1∈maskO e o
       ·exact .inr (.inr hmw)
       ·exact .inl (without_mem (without_mem (h1.key y hy) hsw) hmw)
     ·by_cases hmw:s∈maskO e o
      ·exact h1.maskW hmw
      ·exact .inl (hS s hs hmw)
    ·simp only [if_true]
     exact Chain.congr (fun i hi=>⟨hc i hi,rfl⟩) k2
   ·intro i hi hl j hj
    by_cases hip:i=pre.length
    ·subst hip
     obtain ⟨fj,hfj⟩:∃ fj,fs[j]?=some fj:=⟨_,List.getElem?_eq_getElem (by omega)⟩
     have:=List.all_eq_true.1 hap (fj,j) (List.mem_zipIdx_iff_getElem?.2 hfj)
     rw [hfto,k1 j fj (by rw [List.getElem?_append_left (List.getElem?_eq_some_iff.1 hfj).1];exact hfj)]
     have hm:(ms.drop pre.length).headD 0=ms.getD pre.length 0:=by
      rw [List.headD_eq_head?_getD,List.head?_drop,List.getD_eq_getElem?_getD]
     rw [hm] at this
     exact Bool.or_eq_true_iff.1 this
    ·exact k3 i (by omega) hl j hj
   ·rw [List.length_cons,List.range'_succ]
    simp only [fin,if_true]
    rw [fin_congr hc]
    exact k4
  ·cases h
theorem clear_spec {a b:Foot} (h:clear1 a b=true):(∀ x,x∈a.ws∨x∈a.es∨x∈a.ms→x ∉ b.rs)∧(∀ x,x∈a.ws∨x∈a.ms→x ∉ b.hs)∧∀ x∈a.ws,x ∉ b.ps:=by
 unfold clear1 at h
 simp only [Bool.and_eq_true] at h
 obtain ⟨h1,h2,h3,h4,h5,h6⟩:=h
 have d:∀ {a b:List Nat},disj a b=true→∀ x∈a,x ∉ b:=fun h x hx hb=>disj_spec h x hx x hb rfl
 exact ⟨fun x hx=>hx.elim (d h1 x) fun hx=>hx.elim (d h4 x) (d h5 x),fun x hx=>hx.elim (d h2 x) (d h6 x),d h3⟩
def Foot.all (f:Foot) (x:Nat):Prop:=x∈f.ws∨x∈f.es∨x∈f.ms
theorem apart_spec {a b:Foot} (h:apart a b=true):(∀ x,a.all x→x ∉ b.rs∧¬ b.all x)∧(∀ x,x∈a.ws∨x∈a.ms→x ∉ b.hs)∧(∀ x∈a.ws,x ∉ b.ps)∧(∀ x,b.all x→x ∉ a.rs∧¬ a.all x)∧(∀ x,x∈b.ws∨x∈b.ms→x ∉ a.hs)∧∀ x∈b.ws,x ∉ a.ps:=by
 unfold apart at h
 simp only [Bool.and_eq_true] at h
 obtain ⟨h1,h2,h3⟩:=h
 obtain ⟨p1,p2,p3⟩:=clear_spec h1
 obtain ⟨q1,q2,q3⟩:=clear_spec h2
 have hd:∀ x,a.all x→¬ b.all x:=fun x hx hb=>disj_spec h3 x (by
  rcases hx with h | h | h
  ·exact List.mem_append_left _ h
  ·exact List.mem_append_right _ (List.mem_append_left _ h)
  ·exact List.mem_append_right _ (List.mem_append_right _ h)) x (by
  rcases hb with h | h | h
  ·exact List.mem_append_left _ h
  ·exact List.mem_append_right _ (List.mem_append_left _ h)
  ·exact List.mem_append_right _ (List.mem_append_right _ h)) rfl
 exact ⟨fun x hx=>⟨p1 x hx,hd x hx⟩,p2,p3,fun x hx=>⟨q1 x hx,fun ha=>hd x ha hx⟩,q2,q3⟩
theorem moved {e e':Env Γ.X} {i:Nat} {o:AOpr Γ.X} {us:Ups Γ.X} {f:Foot} (ht:Took P e i o us) (hr:Reads e o f) (hw:Writes e us f) (h1:∀ s,s∈f.rs∨f.all s→e' s=e s) (h2:∀ s∈f.hs,SoftEq (e s) (e' s)) (h3:∀ s∈f.ps,WeakEq (e s) (e' s)):
  Took P e' i o us∧Reads e' o f∧Writes e' us f:=by
 obtain ⟨k1,⟨k2,k2'⟩,k3⟩:=ht.soft (e':=e') (fun s hs=>h1 s (.inl (hr.r s hs))) (fun s hs hn=>h2 s (hr.h s hs hn)) fun s hs=>h3 s (hr.p s hs)
 have same:∀ s,f.all s→applyU e' us s=applyU e us s:=fun s hs=>(applyU_at (u:=us) (e:=e) (e':=e') (h1 s (.inr hs)).symm).symm
 have off:∀ s,s ∉ f.ws→s ∉ f.es→s ∉ f.ms→applyU e' us s=e' s:=fun s a b c=>applyU_off fun y hy hys=>by
  rcases hw.w y hy with h | h | h
  ·exact a (hys ▸ h)
  ·exact b (hys ▸ h)
  ·exact c (hys ▸ h)
 refine ⟨k1,⟨by rw [k2,k3];exact hr.r,by rw [k2,k2'];exact hr.h,by rw [k2'];exact hr.p⟩,hw.w,fun s hs hm=>?_,fun s hs=>?_⟩
 ·by_cases hes:s∈f.es
  ·rw [same s (.inr (.inl hes)),h1 s (.inr (.inr (.inl hes)))];exact hw.s s hs hm
  ·exact .inl (off s hs hes hm).symm
 ·by_cases hes:s∈f.es
  ·rw [same s (.inr (.inl hes)),h1 s (.inr (.inr (.inl hes)))];exact hw.m s hs
  ·by_cases hm:s∈f.ms
   ·rw [same s (.inr (.inr hm)),h1 s (.inr (.inr (.inr hm)))];exact hw.m s hs
   ·exact .inl (.inl (off s hs hes hm).symm)
theorem Writes.off {e:Env Γ.X} {us:Ups Γ.X} {f:Foot} (h:Writes e us f) {s:Nat} (h1:¬ f.all s):applyU e us s=e s:=
 applyU_off fun y hy hys=>h1 (hys ▸ h.w y hy)
theorem bubble {al:List (AOpr Γ.X)} {us:Nat→Ups Γ.X} {ft:Nat→Foot} {i:Nat} (q:List Nat):∀ (p:List Nat) {e:Env Γ.X},(∀ k∈p,apart (ft k) (ft i)=true)→Chain P al us ft (p++i :: q) e→
  (∃ o,al[i]?=some o∧Took P e (i+1) o (us i)∧Reads e o (ft i)∧Writes e (us i) (ft i))∧Chain P al us ft (p++q) (applyU e (us i))∧fin us (p++q) (applyU e (us i))=fin us (p++i :: q) e
 | [],e,_,⟨o,h1,h2,h3,h4,h5⟩=>⟨⟨o,h1,h2,h3,h4⟩,h5,rfl⟩
 | k :: p,e,ha,⟨ok,h1,h2,h3,h4,h5⟩=>by
  obtain ⟨⟨oi,g1,g2,g3,g4⟩,g5,g6⟩:=bubble q p (fun j hj=>ha j (List.mem_cons_of_mem _ hj)) h5
  obtain ⟨a1,a2,a3,a4,a5,a6⟩:=apart_spec (ha k (List.mem_cons_self ..))
  have offk:∀ s,s∈(ft i).rs∨(ft i).all s→applyU e (us k) s=e s:=fun s hs=>h4.off fun hh=>by
   obtain ⟨b1,b2⟩:=a1 s hh
   rcases hs with h | h
   ·exact b1 h
   ·exact b2 h
  obtain ⟨m1,m2,m3⟩:=moved (e':=e) g2 g3 g4 (fun s hs=>(offk s hs).symm) (fun s hs=>(h4.s s (fun hh=>a2 s (.inl hh) hs) fun hh=>a2 s (.inr hh) hs).symm) fun s hs=>(h4.m s fun hh=>a3 s hh hs).symm
  have offi:∀ s,s∈(ft k).rs∨(ft k).all s→applyU e (us i) s=e s:=fun s hs=>m3.off fun hh=>by
   obtain ⟨b1,b2⟩:=a4 s hh
   rcases hs with h | h
   ·exact b1 h
   ·exact b2 h
  obtain ⟨n1,n2,n3⟩:=moved (e':=applyU e (us i)) h2 h3 h4 offi (fun s hs=>m3.s s (fun hh=>a5 s (.inl hh) hs) fun hh=>a5 s (.inr hh) hs) fun s hs=>m3.m s fun hh=>a6 s hh hs
  have hcomm:applyU (applyU e (us k)) (us i)=applyU (applyU e (us i)) (us k):=applyU_comm fun y hy z hz hyz=>by
   have hy':=h4.w y hy
   have hz':=g4.w z hz
   rw [hyz] at hy'
   exact (a1 z.1 hy').2 hz'
  refine ⟨⟨oi,g1,m1,m2,m3⟩,⟨ok,h1,n1,n2,n3,?_⟩,?_⟩
  ·rw [←hcomm];exact g5
  ·simp only [List.cons_append,fin]
   rw [←hcomm];exact g6
end
end Go.A2
namespace Go.A2
section
variable {P:Program} {Γ:Cx}
section
variable {K:List Nat} {N:Slots} {F0 B U:Nat→Prop} {w0:World} {e:Env Γ.X} {a:Act} {w:World} {C:CK Γ.X}
def usedUp (listed:Array Bool) (g:Nat):Prop:=g < 1∨∃ i,g=i+1∧listed.getD i false=true
theorem Sim.any (hX:TabOk Γ.X) {n:Nat} {lent:List Nat} (hN:N.fits n lent) {ops:Array Oper} {al:List (AOpr Γ.X)} (hal:allO (compOper P Γ K n lent ops) ops.toList=some al) (hok:aheadOk ops=true) {us:Nat→Ups Γ.X} {ft:Nat→Foot}
  (hpair:∀ i,i < ops.size→∀ j,j < i→((masks ops.toList).getD i 0).testBit j=true∨apart (ft j) (ft i)=true) {Q:Exit→Act→World→Prop} {e':Env Γ.X}:
  ∀ (fuel:Nat) (listed:Array Bool) {e:Env Γ.X} {a:Act} {w:World},listed.size=ops.size→(rem listed ops.size).length=fuel→Closed ops listed→Sim N F0 B (usedUp listed) w0 e a w→Chain P al us ft (rem listed ops.size) e→fin us (rem listed ops.size) e=e'→
  (∀ U a' w',(∀ g,U g→g < ops.size+1)→Sim N F0 B U w0 e' a' w'→Q .normal a' w')→wpAny P .any ops Q fuel listed a w:=by
 have hback:∀ (j:Nat) o,ops[j]?=some o→∀ e∈o.after,Region.binds .any e=true→e.on < j:=fun j o hj ed he hb=>by
  have:=List.all_eq_true.1 hok (o,j) (by rw [List.mem_zipIdx_iff_getElem?];simpa using hj)
  have:=Array.all_eq_true_iff_forall_mem.1 this ed he
  simpa [hb] using this
 have hused:∀ {listed:Array Bool},listed.size=ops.size→∀ g,usedUp listed g→g < ops.size+1:=fun {listed} hsz g hg=>by
  rcases hg with hg | ⟨i,rfl,hi⟩
  ·omega
  ·rcases Nat.lt_or_ge i listed.size with h | h
   ·omega
   ·simp [Array.getD_eq_getD_getElem?,Array.getElem?_eq_none h] at hi
 intro fuel
 induction fuel with
 | zero=>
  intro listed e a w hsz hrem hcl h hch hr hQ
  have hnil:rem listed ops.size=[]:=List.eq_nil_of_length_eq_zero hrem
  rw [hnil] at hr
  simp only [fin] at hr;subst hr
  refine ⟨?_,hQ _ _ _ (hused hsz) h⟩
  cases hrd:Region.ready .any ops listed with
  | nil=>rfl
  | cons j l=>
   have hj:=mem_ready.1 (show j∈Region.ready .any ops listed by rw [hrd];simp)
   obtain ⟨h1,o,ho,_⟩:=hj
   have:j∈rem listed ops.size:=List.mem_filter.2 ⟨List.mem_range.2 (Array.getElem?_eq_some_iff.1 ho).1,by rw [h1];rfl⟩
   rw [hnil] at this;cases this
 | succ fuel ih=>
  intro listed e a w hsz hrem hcl h hch hr hQ
  have ready_of:∀ i,i∈Region.ready .any ops listed→i < ops.size∧listed.getD i true=false∧∃ o,ops[i]?=some o∧∀ ed∈o.after,Region.binds .any ed=true→listed.getD ed.on false=true:=fun i hi=>by
   obtain ⟨h1,o,ho,h2⟩:=mem_ready.1 hi
   exact ⟨(Array.getElem?_eq_some_iff.1 ho).1,h1,o,ho,h2⟩
  refine ⟨fun hnil=>?_,fun i hi=>?_⟩
  ·exfalso
   cases hrm:rem listed ops.size with
   | nil=>rw [hrm] at hrem;cases hrem
   | cons j l=>
    have hj:j∈rem listed ops.size:=by rw [hrm];simp
    obtain ⟨hj1,hj2⟩:=List.mem_filter.1 hj
    have hjl:listed.getD j true=false:=by simpa using hj2
    have hjs:=List.mem_range.1 hj1
    have least:∀ k,k < j→listed.getD k false=true:=fun k hk=>by
     obtain ⟨p,q,h1,h2,_⟩:=rem_split hjs hjl
     cases hp:p with
     | nil=>
      cases hkl:listed.getD k false with
      | true=>rfl
      | false=>
       exfalso
       have hk':listed.getD k true=false:=by
        have:k < listed.size:=by omega
        simp [Array.getD_eq_getD_getElem?,this] at hkl ⊢;exact hkl
       have:k∈rem listed ops.size:=List.mem_filter.2 ⟨List.mem_range.2 (by omega),by rw [hk'];rfl⟩
       rw [h1,hp] at this
       have hpw:(rem listed ops.size).Pairwise (· < ·):=List.Pairwise.filter _ (List.pairwise_lt_range)
       rw [h1,hp] at hpw
       simp only [List.nil_append,List.mem_cons] at this
       rcases this with h3 | h3
       ·omega
       ·have:=(List.pairwise_cons.1 hpw).1 k h3;omega
     | cons x p'=>
      exfalso
      rw [hrm] at h1
      rw [hp] at h1 h2
      simp only [List.cons_append,List.cons.injEq] at h1
      have:=(h2 x (by simp)).1
      omega
    have:j∈Region.ready .any ops listed:=mem_ready.2 ⟨hjl,ops[j],Array.getElem?_eq_getElem hjs,fun ed he hb=>least _ (hback j _ (Array.getElem?_eq_getElem hjs) ed he hb)⟩
    rw [hnil] at this;cases this
  ·obtain ⟨his,hil,o,ho,hedges⟩:=ready_of i hi
   obtain ⟨p,q,h1,h2,h3⟩:=rem_split his hil
   rw [h1] at hr hch
   have hap:∀ k∈p,apart (ft k) (ft i)=true:=fun k hk=>by
    obtain ⟨hki,hkl⟩:=h2 k hk
    rcases hpair i his k hki with hbit | hin
    ·have:=closed_bits hcl i o ho hedges k hbit
     rw [getD_ft hkl] at this;cases this
    ·exact hin
   obtain ⟨⟨oi,hoi,htook,_,_⟩,hch1,hfin⟩:=bubble q p hap hch
   have hco:compOper P Γ K n lent ops o=some oi:=by
    obtain ⟨hl1,hl2⟩:=allO_spec hal
    obtain ⟨oi1,g2,g1⟩:=hl2 i o (by simpa using ho)
    rw [hoi] at g2;cases g2;exact g1
   have hset:∀ j,(listed.setIfInBounds i true).getD j false=if j=i then true else listed.getD j false:=fun j=>by
    by_cases hj:j=i
    ·subst hj;simp [Array.getD_eq_getD_getElem?,hsz,his]
    ·rw [if_neg hj];simp [Array.getD_eq_getD_getElem?,Array.getElem?_setIfInBounds_ne (Ne.symm hj)]
   have hcl':Closed ops (listed.setIfInBounds i true):=fun j oj hj hoj ed he hb=>by
    rw [hset]
    split
    ·rfl
    ·rw [hset] at hj
     split at hj
     ·rename_i hji;subst hji
      rw [ho] at hoj;cases hoj
      exact hedges ed he hb
     ·exact hcl j oj hj hoj ed he hb
   have hlen':(rem (listed.setIfInBounds i true) ops.size).length=fuel:=by
    rw [h3];rw [h1] at hrem;simp at hrem ⊢;omega
   have hg:¬ usedUp listed (i+1):=fun hg=>by
    rcases hg with hg | ⟨j,hj,hjl⟩
    ·omega
    ·have:j=i:=by omega
     subst this
     rw [getD_ft hil] at hjl;cases hjl
   have hstep:=h.took hX hg hN hco htook (next:=wpAny P .any ops Q fuel (listed.setIfInBounds i true)) (Q:=Q) fun a' w' h'=>
    ih (listed.setIfInBounds i true) (by simp [hsz]) hlen' hcl' (h'.weakU fun g hg=>by
     rcases hg with (hg | ⟨j,rfl,hj⟩) | hg
     ·exact .inl hg
     ·refine .inr ⟨j,rfl,?_⟩
      rw [hset]
      split
      ·rfl
      ·exact hj
     ·exact .inr ⟨i,hg,by rw [hset,if_pos rfl]⟩) (by rw [h3];exact hch1) (by rw [h3,hfin];exact hr) hQ
   unfold wpOp
   simp only [ho]
   split
   ·rename_i hw
    rw [if_pos hw] at hstep
    exact .inl hstep
   ·rename_i hw
    rw [if_neg hw] at hstep
    exact hstep
end
theorem drawSound (hX:TabOk Γ.X) {C:CK Γ.X} (hC:CSound P C):DrawSound P Γ C:=by
 intro N F0 B w0 e a w r K n lent hN ops al hal hok k hsim hdraw Q hQ
 obtain ⟨us,ft,h1,h2,h3,h4⟩:=drawK_chain hC (al:=al) (ms:=masks ops.toList) (l:=al) (pre:=[]) (fs:=[]) (e:=e) rfl rfl (by simpa using hdraw)
 have hlen:al.length=ops.size:=by simpa using (allO_spec hal).1
 simp only [List.length_nil] at h2 h4
 have hrem:rem (Array.replicate ops.size false) ops.size=List.range' 0 al.length:=by
  unfold rem
  rw [hlen,←List.range_eq_range']
  refine List.filter_eq_self.2 fun j hj=>?_
  have:=List.mem_range.1 hj
  simp [Array.getD_eq_getD_getElem?,this]
 refine Sim.any (K:=K) hX hN hal hok (us:=us) (ft:=ft) (fun i hi j hj=>h3 i (by simp) (by omega) j hj) ops.size _ (by simp) (by rw [hrem];simp [hlen]) ?_ (hsim.weakU fun g hg=>.inl hg) (by rw [hrem];exact h2) rfl ?_
 ·intro j o hj
  simp only [Array.getD_eq_getD_getElem?,Array.getElem?_replicate] at hj
  split at hj<;>cases hj
 ·intro U a' w' hU h'
  rw [hrem] at h'
  exact hQ (ops.size+1) _ a' w' (h'.weakU hU) h4
end
end Go.A2
namespace Go.A2
section
variable {X:Tab} {C:CK X} {r:Ret X}
theorem optK_mono {α R:Type} {r:R} {o:Option α} {k k':α→Option R} (h:optK o k=some r) (hk:∀ x,k x=some r→k' x=some r):optK o k'=some r:=by
 cases o with
 | none=>cases h
 | some x=>exact hk x h
theorem cond_mono {R:Type} {r:R} {b:Bool} {x y x' y':Option R} (h:cond b x y=some r) (h1:b=true→x=some r→x'=some r) (h2:b=false→y=some r→y'=some r):cond b x' y'=some r:=by
 cases b
 ·exact h2 rfl h
 ·exact h1 rfl h
def CMono (C:CK X):Prop:=∀ f args k k' r,C f args k=some r→(∀ x,k x=some r→k' x=some r)→C f args k'=some r
theorem binK_mono {o:BinOp} {x y:AV X} {k k':AV X→Option (Ret X)} (h:binK o x y k=some r) (hk:∀ x,k x=some r→k' x=some r):binK o x y k'=some r:=by
 have key:∀ {ka kb:IntKind} (a:W ka) (b:W kb) (oa ob:Own),binK o (.val (.int ka) a oa) (.val (.int kb) b ob) k=some r→binK o (.val (.int ka) a oa) (.val (.int kb) b ob) k'=some r:=fun {ka kb} a b oa ob h=>by
  have fin:∀ (F:(AV X→Option (Ret X))→W ka→Option (Ret X)),(∀ z,F k z=some r→F k' z=some r)→(match castT (X:=X) (T:=.int kb) b (.int ka) with | some b=>F k b | none=>none)=some r→
    (match castT (X:=X) (T:=.int kb) b (.int ka) with | some b=>F k' b | none=>none)=some r:=fun F hF h=>by
   generalize castT (X:=X) (T:=.int kb) b (.int ka)=c at h ⊢
   cases c with
   | none=>cases h
   | some b'=>exact hF _ h
  have sh:∀ (c:Bool) (x x' y y':Option (Ret X)),(x=some r→x'=some r)→(y=some r→y'=some r)→(if c then x else y)=some r→(if c then x' else y')=some r:=fun c x x' y y' hx hy h=>by
   cases c
   ·exact hy h
   ·exact hx h
  have none_:(none:Option (Ret X))=some r→binK o (.val (.int ka) a oa) (.val (.int kb) b ob) k'=some r:=fun h=>by cases h
  cases o
  case shl=>exact sh kb.signed _ _ _ _ (fun h=>optK_mono h fun _=>hk _) (fun h=>hk _ h) h
  case shr=>exact sh kb.signed _ _ _ _ (fun h=>optK_mono h fun _=>hk _) (fun h=>hk _ h) h
  case quo=>exact fin (fun k z=>optK (W.quo? a z) fun z=>k (.val (.int ka) z .no)) (fun z h=>optK_mono h fun _=>hk _) h
  case rem=>exact fin (fun k z=>optK (W.rem? a z) fun z=>k (.val (.int ka) z .no)) (fun z h=>optK_mono h fun _=>hk _) h
  all_goals exact fin (fun k z=>optK (W.bin (X:=X) _ a z) k) (fun z h=>optK_mono h hk) h
 cases x with
 | val T a oa=>cases T with
  | int ka=>cases y with
   | val T' b ob=>cases T' with
    | int kb=>exact key a b oa ob h
    | _=>cases h
   | _=>cases h
  | _=>cases h
 | _=>cases h
theorem oNatK_mono {e:Env X} {x:Option (AX X)} {k k':Option Nat→Option (Ret X)} (h:oNatK e x k=some r) (hk:∀ n,k n=some r→k' n=some r):oNatK e x k'=some r:=by
 cases x with
 | none=>exact hk _ h
 | some x=>
  have h:natK (Go.A2.rd e x) k=some r:=h
  show natK (Go.A2.rd e x) k'=some r
  generalize Go.A2.rd e x=y at h ⊢
  cases y with
  | val T v o=>cases T with
   | int kk=>exact optK_mono (o:=nat? v) h fun _=>hk _
   | _=>cases h
  | _=>cases h
theorem subK_mono {T:X.Ty} {v:X.den T} {o:Own} {lo hi mx:Option Nat} {k k':AV X→Option (Ret X)} (h:subK T v o lo hi mx k=some r) (hk:∀ n,k n=some r→k' n=some r):subK T v o lo hi mx k'=some r:=by
 cases T with
 | str=>
  cases mx with
  | none=>exact optK_mono (o:=Str.sub? v (lo.getD 0) (hi.getD (Str.l v).length)) h fun _=>hk _
  | some _=>cases h
 | slice b t=>
  cases mx with
  | none=>exact optK_mono (o:=Sl.sub? (b:=b) (α:=A2.den X.D t) v (lo.getD 0) (hi.getD (Sl.l (b:=b) (α:=A2.den X.D t) v).length)) h fun _=>hk _
  | some m=>
   cases hi with
   | none=>cases h
   | some hh=>exact optK_mono (o:=Sl.sub3? (b:=b) (α:=A2.den X.D t) v (lo.getD 0) hh m) h fun _=>hk _
 | _=>cases h
theorem effK_mono (hC:CMono C) {g:Nat} {e:Env X} {d:Option Nat} {op:AOp X} {k k':Env X→Option (Ret X)} (h:effK C g e d op k=some r) (hk:∀ e1,k e1=some r→k' e1=some r):effK C g e d op k'=some r:=by
 cases op with
 | pick c a b=>
  simp only [effK] at h
  split at h
  ·rename_i z o hc
   simp only [effK,hc]
   refine cond_mono h (fun _ h=>?_) (fun _ h=>?_)
   ·split at h
    ·rename_i ha;exact hk _ h
    ·cases h
   ·split at h
    ·rename_i ha;exact hk _ h
    ·cases h
  ·cases h
 | idxA n t x i=>
  simp only [effK] at h
  split at h
  ·rename_i h1 h2
   split at h
   ·rename_i hc;simp only [effK,h1,h2,if_pos hc];exact optK_mono h fun _=>hk _
   ·cases h
  ·rename_i h1 h2
   split at h
   ·rename_i hc;simp only [effK,h1,h2,hc];exact optK_mono h fun _=>hk _
   ·cases h
  ·cases h
 | idxS b t x i=>
  simp only [effK] at h
  split at h
  ·rename_i h1 h2
   split at h
   ·rename_i hc
    split at h
    ·rename_i hq;simp only [effK,h1,h2,hc,if_pos hq];exact optK_mono h fun _=>hk _
    ·cases h
   ·cases h
  ·rename_i h1 h2
   split at h
   ·rename_i ho
    split at h
    ·rename_i hc;simp only [effK,h1,h2,if_pos ho,hc];exact optK_mono h fun _=>hk _
    ·cases h
   ·cases h
  ·cases h
 | view b t x lo hi=>
  simp only [effK] at h ⊢
  refine oNatK_mono h fun lo h=>oNatK_mono h fun hi h=>?_
  split at h
  ·split at h
   ·split at h
    ·rename_i h1 _ _ _ _ h2 h3
     simp only [h2,if_pos h3]
     exact optK_mono h fun _=>hk _
    ·cases h
   ·cases h
  ·split at h
   ·rename_i ho
    split at h
    ·rename_i hc
     simp only [if_pos ho,hc]
     exact optK_mono h fun _=>hk _
    ·cases h
   ·cases h
  ·cases h
 | mlen kk t x=>
  simp only [effK] at h
  split at h
  ·rename_i h1
   simp only [effK,h1]
   exact optK_mono h fun _=>hk _
  ·cases h
 | cat x y=>
  simp only [effK] at h
  split at h
  ·rename_i h1 h2
   simp only [effK,h1,h2]
   exact optK_mono h fun _=>hk _
  ·cases h
 | idxStr x i=>
  simp only [effK] at h
  split at h
  ·rename_i h1 h2
   simp only [effK,h1,h2]
   exact optK_mono h fun _=>hk _
  ·cases h
 | idxV n t x i=>
  simp only [effK] at h
  split at h
  ·rename_i h1 h2
   split at h
   ·rename_i ho
    split at h
    ·rename_i hc;simp only [effK,h1,h2,if_pos ho,hc];exact optK_mono h fun _=>hk _
    ·cases h
   ·cases h
  ·cases h
 | bin o x y=>
  simp only [effK] at h ⊢
  exact binK_mono h fun _=>hk _
 | append b t x y=>
  simp only [effK] at h
  split at h
  ·rename_i b1 t1 l1 u z h1
   split at h
   ·rename_i h2 h3
    split at h
    ·rename_i h4
     simp only [effK,h1,h2,h3,h4]
     cases z with
     | false=>exact optK_mono h fun _=>hk _
     | true=>exact cond_mono h (fun _ h=>optK_mono h fun _=>hk _) fun _=>hk _
    ·cases h
   ·cases h
  ·cases h
 | arrS b n t x lo hi=>
  simp only [effK] at h ⊢
  refine oNatK_mono h fun lo h=>oNatK_mono h fun hi h=>?_
  split at h
  ·split at h
   ·rename_i hok
    rw [if_pos hok]
    exact optK_mono h fun _=>hk _
   ·cases h
  ·split at h
   ·split at h
    ·rename_i hok
     simp only [dif_pos hok]
     exact optK_mono h fun _=>hk _
    ·cases h
   ·cases h
  ·cases h
 | makeSlice b t l c=>
  simp only [effK] at h
  split at h
  ·rename_i h1 h2
   simp only [effK,h1,h2]
   exact optK_mono h fun _=>hk _
  ·cases h
 | slice T x lo hi mx=>
  simp only [effK] at h
  split at h
  ·rename_i h1
   split at h
   ·rename_i h5
    split at h
    ·rename_i h6;simp only [effK,h1,h5,if_pos h6];exact oNatK_mono h fun _ h=>oNatK_mono h fun _ h=>oNatK_mono h fun _ h=>subK_mono h fun _=>hk _
    ·cases h
   ·cases h
  ·cases h
 | call f args=>
  simp only [effK] at h
  split at h
  ·rename_i h1
   simp only [effK,h1]
   exact hC _ _ _ _ _ h fun _ hx=>optK_mono hx fun _=>hk _
  ·cases h
 | callv x args=>
  simp only [effK] at h
  split at h
  ·rename_i h1
   simp only [effK,h1]
   exact hC _ _ _ _ _ h fun _ hx=>optK_mono hx fun _=>hk _
  ·cases h
 | _=>simp only [effK] at h ⊢;exact optK_mono h fun _=>hk _
theorem stepK_mono (hC:CMono C) {g:Nat} {e:Env X} {o:AOpr X} {k k':Env X→Option (Ret X)} (h:stepK C g e o k=some r) (hk:∀ e1,k e1=some r→k' e1=some r):stepK C g e o k'=some r:=by
 obtain ⟨dst,op,guard⟩:=o
 have key:∀ (x:AV X) (A A' B B' D D':Option (Ret X)),(A=some r→A'=some r)→(B=some r→B'=some r)→(D=some r→D'=some r)→(match x with | .val .bool b _=>cond b A B | .tup []=>D | _=>none)=some r→(match x with | .val .bool b _=>cond b A' B' | .tup []=>D' | _=>none)=some r:=fun x A A' B B' D D' hA hB hD h=>by
  cases x with
  | val T v ov=>cases T with
   | bool=>exact cond_mono h (fun _=>hA) fun _=>hB
   | _=>cases h
  | tup l=>cases l with
   | nil=>exact hD h
   | cons _ _=>cases h
  | _=>cases h
 cases guard with
 | none=>exact effK_mono hC h hk
 | some q=>
  obtain ⟨s,want⟩:=q
  cases want with
  | true=>exact key (e s) _ _ _ _ _ _ (fun h=>effK_mono hC h hk) (hk _) (hk _) h
  | false=>exact key (e s) _ _ _ _ _ _ (hk _) (fun h=>effK_mono hC h hk) (hk _) h
theorem runK_mono (hC:CMono C):∀ {l:List (AOpr X)} {g:Nat} {e:Env X} {k k':Env X→Option (Ret X)},runK C g l e k=some r→(∀ e1,k e1=some r→k' e1=some r)→runK C g l e k'=some r
 | [],g,e,k,k',h,hk=>hk _ h
 | o :: l,g,e,k,k',h,hk=>by
  simp only [runK] at h ⊢
  exact stepK_mono hC h fun e1 h1=>runK_mono hC h1 hk
theorem drawK_mono (hC:CMono C):∀ {l:List (AOpr X)} {g:Nat} {ms:List Nat} {fs:List Foot} {e:Env X} {k k':Env X→Option (Ret X)},drawK C g l ms fs e k=some r→(∀ e1,k e1=some r→k' e1=some r)→drawK C g l ms fs e k'=some r
 | [],g,ms,fs,e,k,k',h,hk=>hk _ h
 | o :: l,g,ms,fs,e,k,k',h,hk=>by
  simp only [drawK] at h ⊢
  split at h
  ·rename_i ha
   rw [if_pos ha]
   exact stepK_mono hC h fun e1 h1=>drawK_mono hC h1 hk
  ·cases h
theorem iterK_mono {f f':Env X→Kon X→Option (Ret X)} (hf:∀ e k k',f e k=some r→(∀ x e1,k x e1=some r→k' x e1=some r)→f' e k'=some r):∀ {n:Nat} {e:Env X} {k k':Kon X},iterK f n e k=some r→(∀ x e1,k x e1=some r→k' x e1=some r)→iterK f' n e k'=some r
 | 0,e,k,k',h,hk=>by simp [iterK] at h
 | n+1,e,k,k',h,hk=>by
  simp only [iterK] at h ⊢
  refine hf _ _ _ h fun x e1 hx=>?_
  cases x with
  | normal=>exact iterK_mono hf hx hk
  | exit id=>exact hk _ _ hx
  | ret=>exact hk _ _ hx
def MarksOk (C:CK X) (L:LK X) (K:List Nat) (N:Nat):ACode X→Prop
 | .mark i D a=>∀ e k k' r,L i (marked D e) k=some r→(∀ x e1,k x e1=some r→k' x e1=some r)→execT C K N a (marked D e) k'=some r
 | .seq a b=>MarksOk C L K N a∧MarksOk C L K N b
 | .cond _ a b=>MarksOk C L K N a∧MarksOk C L K N b
 | .block _ a=>MarksOk C L K N a
 | .loop a=>MarksOk C L K N a
 | .trim _ a=>MarksOk C L K N a
 | .dfr _ a=>MarksOk C L K N a
 | _=>True
theorem execK_T (hC:CMono C) {L:LK X} {K:List Nat} {N:Nat}:∀ {a:ACode X} {e:Env X} {k k':Kon X},MarksOk C L K N a→execK C L K N a e k=some r→(∀ x e1,k x e1=some r→k' x e1=some r)→execT C K N a e k'=some r:=by
 intro a
 induction a with
 | skip=>intro e k k' _ h hk;exact hk _ _ h
 | region ops=>intro e k k' _ h hk;exact runK_mono hC h fun _=>hk _ _
 | draw ops ms=>intro e k k' _ h hk;exact drawK_mono hC h fun _=>hk _ _
 | seq a b iha ihb=>
  intro e k k' hm h hk
  refine iha hm.1 h fun x e1 hx=>?_
  cases x with
  | normal=>exact ihb hm.2 hx hk
  | exit id=>exact hk _ _ hx
  | ret=>exact hk _ _ hx
 | cond c a b iha ihb=>
  intro e k k' hm h hk
  simp only [execK,execT] at h ⊢
  split at h
  ·rename_i hb;simp only [hb];exact cond_mono h (fun _ h=>iha hm.1 h hk) fun _ h=>ihb hm.2 h hk
  ·cases h
 | block id a ih=>
  intro e k k' hm h hk
  refine ih hm h fun x e1 hx=>?_
  cases x with
  | normal=>exact hk _ _ hx
  | exit j=>
   simp only [] at hx ⊢
   split at hx
   ·rename_i hj;rw [if_pos hj];exact hk _ _ hx
   ·rename_i hj;rw [if_neg hj];exact hk _ _ hx
  | ret=>exact hk _ _ hx
 | loop a ih=>
  intro e k k' hm h hk
  exact iterK_mono (f:=execK C L K N a) (f':=execT C K N a) (fun e k k' h hk=>ih hm h hk) h hk
 | exit id=>intro e k k' _ h hk;exact hk _ _ h
 | ret=>intro e k k' _ h hk;exact hk _ _ h
 | mark i D a _=>intro e k k' hm h hk;exact hm e k k' r h hk
 | trim D a ih=>intro e k k' hm h hk;exact ih hm h fun x e1 hx=>hk _ _ hx
 | dfr t a ih=>
  intro e k k' hm h hk
  simp only [execK,execT] at h ⊢
  split at h
  ·rename_i f fs cs hr
   split at h
   ·rename_i hf
    simp only [hr,if_pos hf]
    refine ih hm h fun x e1 hx=>?_
    cases x with
    | normal=>cases hx
    | exit id=>cases hx
    | ret=>exact effK_mono hC hx fun e2=>hk _ _
   ·cases h
  ·cases h
 | bad=>intro e k k' _ h hk;cases h
theorem runFnK_T (hC:CMono C) {L:LK X} {N:Nat} {af:AFn X} {args:List (AV X)} {k:Ret X→Option (Ret X)} (hm:MarksOk C L af.keep N af.body) (h:runFnK C L N af args k=some r):runFnT C N af args k=some r:=by
 unfold runFnK at h
 unfold runFnT
 split at h
 ·rename_i hl
  rw [if_pos hl]
  exact execK_T hC hm h fun _ _ h=>h
 ·cases h
structure Ans (X:Tab):Type 1 where
 R:Type
 o:Option R
 enc:R→Ret X
def callC (t:Nat→List (AV X)→Option (Ans X)):CK X:=fun f args k=>match t f args with
 | some A=>optK A.o fun x=>k (A.enc x)
 | none=>none
theorem callC_mono (t:Nat→List (AV X)→Option (Ans X)):CMono (callC t):=by
 intro f args k k' r h hk
 unfold callC at h ⊢
 split at h
 ·exact optK_mono h fun _=>hk _
 ·cases h
def TabOkC (P:Program) (t:Nat→List (AV X)→Option (Ans X)):Prop:=∀ f args A x,t f args=some A→A.o=some x→Spec P f args (A.enc x)
theorem callC_sound {P:Program} {t:Nat→List (AV X)→Option (Ans X)} (ht:TabOkC P t):CSound P (callC t):=by
 intro f args k r h
 unfold callC at h
 split at h
 ·rename_i A hA
  obtain ⟨x,h1,h2⟩:=optK_some h
  exact ⟨_,ht f args A x hA h1,h2⟩
 ·cases h
inductive Rnd (α β:Type) where
 | next (a:α)
 | out (b:β)
def iter {α β:Type} (f:α→Option (Rnd α β)) (n:Nat):α→Option β:=
 Nat.rec (fun _=>none) (fun _ ih a=>match f a with
  | some (.next a')=>ih a'
  | some (.out b)=>some b
  | none=>none) n
theorem iter_zero {α β:Type} (f:α→Option (Rnd α β)) (a:α):iter f 0 a=none:=rfl
theorem iter_succ {α β:Type} (f:α→Option (Rnd α β)) (n:Nat) (a:α):iter f (n+1) a=match f a with
  | some (.next a')=>iter f n a'
  | some (.out b)=>some b
  | none=>none:=rfl
theorem iter_ok (hC:CMono C) {L:LK X} {K:List Nat} {N:Nat} {i:Nat} {D D':List (Nat×Sh)} {b:ACode X} (hm:MarksOk C L K N b) {α β:Type} {enc:α→Env X} {out:β→AExit×Env X} {f:α→Option (Rnd α β)}
  (hstep:∀ a (kn:Env X→Option (Ret X)) (kx:AExit→Env X→Option (Ret X)),execK C L K N b (enc a) (fun x e1=>match x with | .normal=>kn (marked D e1) | x=>kx x (marked D' e1)) =
   optK (f a) fun q=>match q with | .next a'=>kn (enc a') | .out o=>kx (out o).1 (out o).2):
  ∀ {n:Nat} {e:Env X} {a:α} {k k':Kon X} {o:β},marked D e=enc a→iter f n a=some o→k (out o).1 (out o).2=some r→(∀ x e1,k x e1=some r→k' x e1=some r)→
   iterK (execT C K N (.mark i D b)) n e (fun x e1=>k' x (marked D' e1))=some r
 | 0,e,a,k,k',o,he,h,hk,hkk=>by rw [iter_zero] at h;cases h
 | n+1,e,a,k,k',o,he,h,hk,hkk=>by
  rw [iter_succ] at h
  simp only [iterK,execT]
  rw [he]
  split at h
  ·rename_i a' hf
   classical
   have:=hstep a (fun e1=>if e1=enc a' then some r else none) (fun _ _=>none)
   rw [hf] at this
   simp only [optK,if_true] at this
   refine execK_T hC hm this fun x e1 hx=>?_
   cases x with
   | normal=>
    simp only [] at hx ⊢
    split at hx
    ·rename_i hq
     exact iter_ok (i:=i) hC hm hstep hq h hk hkk
    ·cases hx
   | exit id=>cases hx
   | ret=>cases hx
  ·rename_i o' hf
   simp only [Option.some.injEq] at h;subst h
   have:=hstep a (fun _=>none) k
   rw [hf] at this
   simp only [optK] at this
   rw [hk] at this
   refine execK_T hC hm this fun x e1 hx=>?_
   cases x with
   | normal=>cases hx
   | exit id=>exact hkk _ _ hx
   | ret=>exact hkk _ _ hx
  ·cases h
end
end Go.A2
namespace Go.A2
def eqPS:List PS→List PS→Bool
 | [],[]=>true
 | .fld j :: q,.fld k :: r=>j==k&&eqPS q r
 | _,_=>false
theorem eqPS_eq:∀ {q r:List PS},eqPS q r=true→q=r
 | [],[],_=>rfl
 | .fld j :: q,.fld k :: r,h=>by
  simp only [eqPS,Bool.and_eq_true,beq_iff_eq] at h
  rw [h.1,eqPS_eq h.2]
 | [],.fld _ :: _,h=>by cases h
 | [],.idx _ :: _,h=>by cases h
 | .fld _ :: _,[],h=>by cases h
 | .idx _ :: _,[],h=>by cases h
 | .fld _ :: _,.idx _ :: _,h=>by cases h
 | .idx _ :: _,.fld _ :: _,h=>by cases h
 | .idx _ :: _,.idx _ :: _,h=>by cases h
section
variable {X:Tab}
inductive Sk (X:Tab) where
 | undef
 | val (T:X.Ty) (o:Own)
 | box (T:X.Ty) (o:Own)
 | rptr (T:X.Ty)
 | ref (s:Nat) (q:List PS)
 | ptr (s:Nat) (q:List PS)
 | fn (f:Nat) (a b:List (Sk X))
 | rfn (f:Nat) (a b:List (Sk X))
 | fnb (f:Nat) (T:X.Ty) (o:Own)
mutual
def Sk.D:Sk X→Type
 | .val T _=>X.den T
 | .box T _=>X.den T
 | .rptr T=>X.den T
 | .fn _ a b=>SkA a×SkA b
 | .rfn _ a b=>SkA a×SkA b
 | .fnb _ T _=>X.den T
 | _=>Unit
def SkA:List (Sk X)→Type
 | []=>Unit
 | k :: l=>k.D×SkA l
end
mutual
def Sk.put:(k:Sk X)→k.D→AV X
 | .val T o,v=>.val T v o
 | .box T o,v=>.box 0 T v o
 | .rptr T,v=>.rptr T v
 | .ref s q,_=>.ref s q 0
 | .ptr s q,_=>.ptr (.box s 0) q
 | .fn f a b,v=>.fn f (SkA.put a v.1) (SkA.put b v.2)
 | .rfn f a b,v=>.rfn f (SkA.put a v.1) (SkA.put b v.2)
 | .fnb f T o,v=>.fnb f 0 T v o
 | .undef,_=>.undef
def SkA.put:(l:List (Sk X))→SkA l→List (AV X)
 | [],_=>[]
 | k :: l,v=>k.put v.1 :: SkA.put l v.2
end
def asVal (T:X.Ty) (o:Own):AV X→Option (X.den T)
 | .val _ v o'=>if o.eqb o' then castT v T else none
 | _=>none
def asBox (T:X.Ty) (o:Own):AV X→Option (X.den T)
 | .box g _ v o'=>if g==0&&o.eqb o' then castT v T else none
 | _=>none
def asFnb (f:Nat) (T:X.Ty) (o:Own):AV X→Option (X.den T)
 | .fnb f' g _ v o'=>if f==f'&&(g==0&&o.eqb o') then castT v T else none
 | _=>none
def asRptr (T:X.Ty):AV X→Option (X.den T)
 | .rptr _ v=>castT v T
 | _=>none
def asRef (s:Nat) (q:List PS):AV X→Option Unit
 | .ref s' q' g=>if g==0&&s==s'&&eqPS q q' then some () else none
 | _=>none
def asPtr (s:Nat) (q:List PS):AV X→Option Unit
 | .ptr (.box s' g) q'=>if g==0&&s==s'&&eqPS q q' then some () else none
 | _=>none
def asFn (f:Nat):AV X→Option (List (AV X)×List (AV X))
 | .fn f' a b=>if f==f' then some (a,b) else none
 | _=>none
def asRfn (f:Nat):AV X→Option (List (AV X)×List (AV X))
 | .rfn f' a b=>if f==f' then some (a,b) else none
 | _=>none
def asUndef:AV X→Option Unit
 | .undef=>some ()
 | _=>none
def both {α β:Type} (x:Option α) (y:Option β):Option (α×β):=
 match x,y with
 | some a,some b=>some (a,b)
 | _,_=>none
theorem both_some {α β:Type} {x:Option α} {y:Option β} {d:α×β} (h:both x y=some d):x=some d.1∧y=some d.2:=by
 cases x with
 | none=>cases h
 | some a=>cases y with
  | none=>cases h
  | some b=>cases h;exact ⟨rfl,rfl⟩
mutual
def Sk.get:(k:Sk X)→AV X→Option k.D
 | .val T o,x=>asVal T o x
 | .box T o,x=>asBox T o x
 | .rptr T,x=>asRptr T x
 | .ref s q,x=>asRef s q x
 | .ptr s q,x=>asPtr s q x
 | .fn f a b,x=>match asFn f x with
  | some y=>both (SkA.get a y.1) (SkA.get b y.2)
  | none=>none
 | .rfn f a b,x=>match asRfn f x with
  | some y=>both (SkA.get a y.1) (SkA.get b y.2)
  | none=>none
 | .fnb f T o,x=>asFnb f T o x
 | .undef,x=>asUndef x
def SkA.get:(l:List (Sk X))→List (AV X)→Option (SkA l)
 | [],xs=>match xs with
  | []=>some ()
  | _ :: _=>none
 | k :: l,xs=>match xs with
  | []=>none
  | x :: xs=>both (k.get x) (SkA.get l xs)
end
theorem asVal_some {T:X.Ty} {o:Own} {x:AV X} {d:X.den T} (h:asVal T o x=some d):x=.val T d o:=by
 cases x with
 | val T' v o'=>
  unfold asVal at h
  simp only [] at h
  split at h
  ·rename_i ho
   obtain ⟨rfl,h2⟩:=castT_some h
   simp only at h2;subst h2
   rw [Own.eqb_eq ho]
  ·cases h
 | _=>cases h
theorem asBox_some {T:X.Ty} {o:Own} {x:AV X} {d:X.den T} (h:asBox T o x=some d):x=.box 0 T d o:=by
 cases x with
 | box g T' v o'=>
  unfold asBox at h
  simp only [] at h
  split at h
  ·rename_i ho
   simp only [Bool.and_eq_true,beq_iff_eq] at ho
   obtain ⟨rfl,h2⟩:=castT_some h
   simp only at h2;subst h2
   rw [ho.1,Own.eqb_eq ho.2]
  ·cases h
 | _=>cases h
theorem asFnb_some {f:Nat} {T:X.Ty} {o:Own} {x:AV X} {d:X.den T} (h:asFnb f T o x=some d):x=.fnb f 0 T d o:=by
 cases x with
 | fnb f' g T' v o'=>
  unfold asFnb at h
  simp only [] at h
  split at h
  ·rename_i ho
   simp only [Bool.and_eq_true,beq_iff_eq] at ho
   obtain ⟨rfl,h2⟩:=castT_some h
   simp only at h2;subst h2
   rw [ho.1,ho.2.1,Own.eqb_eq ho.2.2]
  ·cases h
 | _=>cases h
theorem asRptr_some {T:X.Ty} {x:AV X} {d:X.den T} (h:asRptr T x=some d):x=.rptr T d:=by
 cases x with
 | rptr T' v=>
  obtain ⟨rfl,h2⟩:=castT_some (show castT v T=some d from h)
  simp only at h2;subst h2;rfl
 | _=>cases h
theorem asRef_some {s:Nat} {q:List PS} {x:AV X} {d:Unit} (h:asRef s q x=some d):x=.ref s q 0:=by
 cases x with
 | ref s' q' g=>
  unfold asRef at h
  simp only [] at h
  split at h
  ·rename_i hc
   simp only [Bool.and_eq_true,beq_iff_eq] at hc
   rw [hc.1.1,hc.1.2,eqPS_eq hc.2]
  ·cases h
 | _=>cases h
theorem asPtr_some {s:Nat} {q:List PS} {x:AV X} {d:Unit} (h:asPtr s q x=some d):x=.ptr (.box s 0) q:=by
 cases x with
 | ptr b q'=>
  cases b with
  | box s' g=>
   unfold asPtr at h
   simp only [] at h
   split at h
   ·rename_i hc
    simp only [Bool.and_eq_true,beq_iff_eq] at hc
    rw [hc.1.1,hc.1.2,eqPS_eq hc.2]
   ·cases h
  | elem=>cases h
 | _=>cases h
theorem asFn_some {f:Nat} {x:AV X} {d:List (AV X)×List (AV X)} (h:asFn f x=some d):x=.fn f d.1 d.2:=by
 cases x with
 | fn f' a b=>
  unfold asFn at h
  simp only [] at h
  split at h
  ·rename_i hc
   simp only [beq_iff_eq] at hc
   cases h;rw [hc]
  ·cases h
 | _=>cases h
theorem asRfn_some {f:Nat} {x:AV X} {d:List (AV X)×List (AV X)} (h:asRfn f x=some d):x=.rfn f d.1 d.2:=by
 cases x with
 | rfn f' a b=>
  unfold asRfn at h
  simp only [] at h
  split at h
  ·rename_i hc
   simp only [beq_iff_eq] at hc
   cases h;rw [hc]
  ·cases h
 | _=>cases h
theorem asUndef_some {x:AV X} {d:Unit} (h:asUndef x=some d):x=.undef:=by
 cases x with
 | undef=>rfl
 | _=>cases h
mutual
theorem Sk.get_put:∀ {k:Sk X} {x:AV X} {d:k.D},k.get x=some d→x=k.put d
 | .val T o,x,d,h=>asVal_some h
 | .box T o,x,d,h=>asBox_some h
 | .rptr T,x,d,h=>asRptr_some h
 | .ref s q,x,d,h=>asRef_some h
 | .ptr s q,x,d,h=>asPtr_some h
 | .fn f a b,x,d,h=>by
  have h:(match asFn f x with
   | some y=>both (SkA.get a y.1) (SkA.get b y.2)
   | none=>none)=some d:=h
  split at h
  ·rename_i y hy
   obtain ⟨h1,h2⟩:=both_some h
   rw [asFn_some hy,SkA.get_put h1,SkA.get_put h2];rfl
  ·cases h
 | .rfn f a b,x,d,h=>by
  have h:(match asRfn f x with
   | some y=>both (SkA.get a y.1) (SkA.get b y.2)
   | none=>none)=some d:=h
  split at h
  ·rename_i y hy
   obtain ⟨h1,h2⟩:=both_some h
   rw [asRfn_some hy,SkA.get_put h1,SkA.get_put h2];rfl
  ·cases h
 | .fnb f T o,x,d,h=>asFnb_some h
 | .undef,x,d,h=>asUndef_some h
theorem SkA.get_put:∀ {l:List (Sk X)} {xs:List (AV X)} {d:SkA l},SkA.get l xs=some d→xs=SkA.put l d
 | [],xs,d,h=>by
  cases xs with
  | nil=>rfl
  | cons x xs=>cases h
 | k :: l,xs,d,h=>by
  cases xs with
  | nil=>cases h
  | cons x xs=>
   obtain ⟨h1,h2⟩:=both_some (show both (k.get x) (SkA.get l xs)=some d from h)
   rw [Sk.get_put h1,SkA.get_put h2];rfl
end
abbrev SkL (X:Tab):=List (Nat×Sk X)
def SkL.ks (l:SkL X):List (Sk X):=l.map Prod.snd
def SkL.D (l:SkL X):Type:=SkA l.ks
def SkL.env (l:SkL X) (d:l.D):Env X:=mkE ((l.map Prod.fst).zip (SkA.put l.ks d))
def SkL.get (l:SkL X) (e:Env X):Option l.D:=SkA.get l.ks (l.map fun q=>e q.1)
theorem SkL.get_env {l:SkL X} {e e0:Env X} (he:e=mkE (l.map fun q=>(q.1,norm e0 (e0 q.1)))) {d:l.D} (hn:nodupB (l.map (·.1))=true) (h:l.get e=some d):e=l.env d:=by
 have h1:=SkA.get_put (l:=l.ks) (xs:=l.map fun q:Nat×Sk X=>e q.1) (d:=d) h
 unfold SkL.env
 rw [←h1]
 clear h1
 have gen:∀ (l:SkL X) (f:Nat→AV X),nodupB (l.map (·.1))=true→∀ (q:Nat×Sk X),q∈l→mkE (l.map fun q=>(q.1,f q.1)) q.1=f q.1:=fun l f=>by
  induction l with
  | nil=>intro _ q hq;cases hq
  | cons x l ih=>
   intro hn q hq
   simp only [List.map_cons,nodupB,Bool.and_eq_true] at hn
   simp only [List.map_cons,mkE]
   by_cases hx:q.1=x.1
   ·rw [if_pos hx,hx]
   ·rw [if_neg hx]
    rcases List.mem_cons.1 hq with rfl | hq
    ·exact absurd rfl hx
    ·exact ih hn.2 q hq
 have hat:∀ q∈l,e q.1=norm e0 (e0 q.1):=fun q hq=>by
  have:=gen l (fun s=>norm e0 (e0 s)) hn q hq
  rw [←he] at this;exact this
 have hz:((l.map Prod.fst).zip (l.map fun q=>e q.1))=l.map fun q=>(q.1,norm e0 (e0 q.1)):=by
  clear h gen hn he d
  induction l with
  | nil=>rfl
  | cons x l ih=>
   simp only [List.map_cons,List.zip_cons_cons]
   rw [ih (fun q hq=>hat q (List.mem_cons_of_mem _ hq)),hat x (List.mem_cons_self ..)]
 rw [hz];exact he
abbrev Outs (X:Tab):=List (AExit×SkL X)
def OutT:Outs X→Type
 | []=>Empty
 | [x]=>x.2.D
 | x :: y :: l=>x.2.D⊕OutT (y :: l)
def outK {S:Type}:(l:Outs X)→OutT l→(AExit→Env X→Option S)→Option S
 | [x],p,k=>k x.1 (x.2.env p)
 | x :: y :: l,o,k=>sumK o (fun p=>k x.1 (x.2.env p)) (fun o'=>outK (y :: l) o' k)
def outE:(l:Outs X)→OutT l→AExit×Env X
 | [x],p=>(x.1,x.2.env p)
 | x :: _ :: _,.inl p=>(x.1,x.2.env p)
 | _ :: y :: l,.inr o=>outE (y :: l) o
theorem outK_eq {S:Type}:∀ (l:Outs X) (o:OutT l) (k:AExit→Env X→Option S),outK l o k=k (outE l o).1 (outE l o).2
 | [],o,k=>nomatch (show Empty from o)
 | [x],p,k=>rfl
 | x :: y :: l,.inl p,k=>rfl
 | x :: y :: l,.inr o,k=>outK_eq (y :: l) o k
structure MarkK (X:Tab) where
 sk:SkL X
 outs:Outs X
 f:sk.D→Option (OutT outs)
def markL (t:Nat→Option (MarkK X)):LK X:=fun i e k=>match t i with
 | some m=>optK (m.sk.get e) fun st=>optK (m.f st) fun o=>outK m.outs o k
 | none=>none
def marksOf:ACode X→List (Nat×List (Nat×Sh)×ACode X)
 | .mark i D a=>[(i,D,a)]
 | .seq a b=>marksOf a++marksOf b
 | .cond _ a b=>marksOf a++marksOf b
 | .block _ a=>marksOf a
 | .loop a=>marksOf a
 | .trim _ a=>marksOf a
 | .dfr _ a=>marksOf a
 | _=>[]
def MarkOk (C:CK X) (L:LK X) (K:List Nat) (N:Nat) (i:Nat) (D:List (Nat×Sh)) (a:ACode X):Prop:=MarksOk C L K N (.mark i D a)
theorem marksOk_of {C:CK X} {L:LK X} {K:List Nat} {N:Nat}:∀ {a:ACode X},(∀ m∈marksOf a,MarkOk C L K N m.1 m.2.1 m.2.2)→MarksOk C L K N a:=by
 intro a
 induction a with
 | mark i D a _=>intro h;exact h _ (List.mem_singleton.2 rfl)
 | seq a b iha ihb=>intro h;exact ⟨iha fun m hm=>h m (List.mem_append_left _ hm),ihb fun m hm=>h m (List.mem_append_right _ hm)⟩
 | cond c a b iha ihb=>intro h;exact ⟨iha fun m hm=>h m (List.mem_append_left _ hm),ihb fun m hm=>h m (List.mem_append_right _ hm)⟩
 | block id a ih=>intro h;exact ih h
 | loop a ih=>intro h;exact ih h
 | trim D a ih=>intro h;exact ih h
 | dfr t a ih=>intro h;exact ih h
 | _=>intro _;trivial
theorem restrict_map (D:List (Nat×Sh)) (e:Env X) {l:SkL X} (hl:l.map (·.1)=D.map (·.1)):marked D e=mkE (l.map fun q=>(q.1,norm (shaped D (frozen e D)) (shaped D (frozen e D) q.1))):=by
 unfold marked restrict
 rw [←hl,List.map_map];rfl
theorem no_mark {C:CK X} {t:Nat→Option (MarkK X)} {K:List Nat} {N i:Nat} {D:List (Nat×Sh)} {a:ACode X} (ht:t i=none):MarkOk C (markL t) K N i D a:=by
 intro e k k' r h hk
 unfold markL at h
 rw [ht] at h
 cases h
theorem loop_mark {C:CK X} (hC:CMono C) {t:Nat→Option (MarkK X)} {K:List Nat} {N i i2:Nat} {D D':List (Nat×Sh)} {b:ACode X} {m:MarkK X} (ht:t i=some m) (hD:m.sk.map (·.1)=D.map (·.1)) (hn:nodupB (D.map (·.1))=true)
  (hid:∀ a,marked D (m.sk.env a)=m.sk.env a) (hb:∀ m∈marksOf b,MarkOk C (markL t) K N m.1 m.2.1 m.2.2) {B:m.sk.D→Tree (Rnd m.sk.D (OutT m.outs))} (hf:∀ a,m.f a=iter (fun a=>(B a).eval) N a)
  (hstep:∀ a (kn:Env X→Option (Ret X)) (kx:AExit→Env X→Option (Ret X)),execK C (markL t) K N b (m.sk.env a) (fun x e1=>match x with | .normal=>kn (marked D e1) | x=>kx x (marked D' e1)) =
   (B a).run fun q=>match q with | .next a'=>kn (m.sk.env a') | .out o=>kx (outE m.outs o).1 (outE m.outs o).2):MarkOk C (markL t) K N i D (.trim D' (.loop (.mark i2 D b))):=by
 intro e k k' r h hk
 unfold markL at h
 rw [ht] at h
 obtain ⟨st,h1,h2⟩:=optK_some h
 obtain ⟨o,h3,h4⟩:=optK_some h2
 have he:marked D e=m.sk.env st:=SkL.get_env (restrict_map D e hD) (by rw [hD];exact hn) h1
 rw [hf] at h3
 rw [outK_eq] at h4
 show iterK (execT C K N (.mark i2 D b)) N (marked D e) (fun x e1=>k' x (marked D' e1))=some r
 rw [he]
 refine iter_ok hC (marksOk_of hb) (enc:=m.sk.env) (out:=outE m.outs) (f:=fun a=>(B a).eval) (fun a kn kx=>?_) (hid st) h3 h4 hk
 refine (hstep a kn kx).trans ?_
 rw [Tree.run_eq]
 show ((B a).eval.bind _)=optK (B a).eval _
 generalize (B a).eval=z
 cases z with
 | none=>rfl
 | some z=>cases z<;>rfl
end
end Go.A2
namespace Go.A2
section
variable {X:Tab}
structure FnK (X:Tab):Type 1 where
 sk:List (Sk X)
 R:Type
 f:SkA sk→Option R
 enc:R→Ret X
def pickK:List (FnK X)→List (AV X)→Option (Ans X)
 | [],_=>none
 | K :: l,args=>match SkA.get K.sk args with
  | some d=>some ⟨K.R,K.f d,K.enc⟩
  | none=>pickK l args
def fnsC (t:Nat→List (FnK X)):CK X:=callC fun f args=>pickK (t f) args
def FnOk (P:Program) (f:Nat) (K:FnK X):Prop:=∀ d r,K.f d=some r→Spec P f (SkA.put K.sk d) (K.enc r)
theorem pickK_ok {P:Program} {f:Nat}:∀ {l:List (FnK X)},(∀ K∈l,FnOk P f K)→∀ {args:List (AV X)} {A:Ans X} {x:A.R},pickK l args=some A→A.o=some x→Spec P f args (A.enc x)
 | [],_,args,A,x,h,hx=>by cases h
 | K :: l,hl,args,A,x,h,hx=>by
  simp only [pickK] at h
  split at h
  ·rename_i d hd
   cases h
   rw [SkA.get_put hd]
   exact hl K (List.mem_cons_self ..) d x hx
  ·exact pickK_ok (fun K hK=>hl K (List.mem_cons_of_mem _ hK)) h hx
theorem fnsC_sound {P:Program} {t:Nat→List (FnK X)} (ht:∀ f,∀ K∈t f,FnOk P f K):CSound P (fnsC t):=callC_sound fun f _ _ _ h hx=>pickK_ok (ht f) h hx
theorem fnsC_mono (t:Nat→List (FnK X)):CMono (fnsC t):=callC_mono _
end
section
variable {P:Program} {Γ:Cx}
theorem compiled_of {x:FnX} {f:Nat} {af:AFn Γ.X} (h:compFn P Γ x f=some af) (hd:isDf Γ.X f=true→hasDfr Γ af.body=false) (hn:(match P.funcs[f]? with | some fn=>fn.name == "runtime.NumGoroutine" | none=>true)=false):Compiled P Γ f af:=by
 unfold compFn at h
 split at h
 ·rename_i fn hf
  rw [hf] at hn
  unfold compBody at h
  split at h
  ·rename_i c hc
   split at h
   ·rename_i body j res h1 h2
    split at h
    ·rename_i h3
     cases h
     exact ⟨x,fn,c,j,hf,hc,hn,⟨body,h1,rfl⟩,h2,h3.2,h3.1,rfl,rfl,hd⟩
    ·cases h
   ·cases h
  ·cases h
 ·cases h
theorem compiled_of' {x:FnX} {f:Nat} {fn:Func} {af:AFn Γ.X} (hf:P.funcs[f]?=some fn) (h:compBody P Γ x fn=some af) (hd:isDf Γ.X f=true→hasDfr Γ af.body=false) (hn:(fn.name == "runtime.NumGoroutine")=false):Compiled P Γ f af:=
 compiled_of (by unfold compFn;rw [hf];exact h) hd (by rw [hf];exact hn)
theorem fn_ok (hm:P.follows .mixedOrders=true) (hX:TabOk Γ.X) {t:Nat→List (FnK Γ.X)} (ht:∀ f,∀ K∈t f,FnOk P f K) {f N:Nat} {af:AFn Γ.X} (hcomp:Compiled P Γ f af) {tm:Nat→Option (MarkK Γ.X)}
  (hmk:∀ m∈marksOf af.body,MarkOk (fnsC t) (markL tm) af.keep N m.1 m.2.1 m.2.2) {K:FnK Γ.X} {T:SkA K.sk→Tree K.R} (hT:∀ d,K.f d=(T d).eval)
  (hk:∀ d (k:Ret Γ.X→Option (Ret Γ.X)),runFnK (fnsC t) (markL tm) N af (SkA.put K.sk d) k=(T d).run fun r=>k (K.enc r)):FnOk P f K:=by
 intro d r h
 have hC:=fnsC_sound ht
 refine fn_sound hm hX hC (drawSound hX hC) hcomp (Nf:=N) (runFnK_T (fnsC_mono t) (marksOk_of hmk) ((hk d some).trans ?_))
 rw [hT] at h
 rw [Tree.run_eq,h];rfl
theorem marks_cons {X:Tab} {Q:Nat×List (Nat×Sh)×ACode X→Prop} {m:Nat×List (Nat×Sh)×ACode X} {l:List (Nat×List (Nat×Sh)×ACode X)} (h:Q m) (hl:∀ m∈l,Q m):∀ m'∈m :: l,Q m':=by
 intro m' hm
 rcases List.mem_cons.1 hm with rfl | hm
 ·exact h
 ·exact hl m' hm
theorem mcons {X:Tab} {C:CK X} {M:LK X} {K:List Nat} {N i:Nat} {D:List (Nat×Sh)} {b:ACode X} {l:List (Nat×List (Nat×Sh)×ACode X)} (h:MarkOk C M K N i D b) (hl:∀ m∈l,MarkOk C M K N m.1 m.2.1 m.2.2):∀ m'∈(i,D,b) :: l,MarkOk C M K N m'.1 m'.2.1 m'.2.2:=
 marks_cons (Q:=fun m=>MarkOk C M K N m.1 m.2.1 m.2.2) h hl
theorem marks_nil {X:Tab} {Q:Nat×List (Nat×Sh)×ACode X→Prop}:∀ m'∈([]:List (Nat×List (Nat×Sh)×ACode X)),Q m':=fun m hm=>by cases hm
def gOf (P:Program) (Γ:Cx) (x:FnX) (fn:Func):AFn Γ.X:=(compBody P Γ x fn).getD ⟨0,[],[],.bad,[]⟩
theorem compiled_g {x:FnX} {f:Nat} {fn:Func} (hf:P.funcs[f]?=some fn) (h:((compBody P Γ x fn).isSome&&!(isDf Γ.X f&&hasDfr Γ (gOf P Γ x fn).body))=true) (hn:(fn.name == "runtime.NumGoroutine")=false):Compiled P Γ f (gOf P Γ x fn):=by
 rw [Bool.and_eq_true] at h
 obtain ⟨h,hd⟩:=h
 obtain ⟨af,ha⟩:=Option.isSome_iff_exists.1 h
 have:gOf P Γ x fn=af:=by unfold gOf;rw [ha];rfl
 rw [this] at hd ⊢
 exact compiled_of' hf ha (fun hh=>by
  rw [hh] at hd
  simpa using hd) hn
def findM {X:Tab} (i:Nat):ACode X→Option (ACode X)
 | .mark j _ a=>if i==j then some a else findM i a
 | .seq a b=>match findM i a with | some x=>some x | none=>findM i b
 | .cond _ a b=>match findM i a with | some x=>some x | none=>findM i b
 | .block _ a=>findM i a
 | .loop a=>findM i a
 | .trim _ a=>findM i a
 | .dfr _ a=>findM i a
 | _=>none
def mOf {X:Tab} (g:AFn X) (i:Nat):ACode X:=(findM i g.body).getD .bad
def tbl {X:Tab}:List (Nat×FnK X)→Nat→List (FnK X)
 | [],_=>[]
 | q :: l,f=>if q.1==f then q.2 :: tbl l f else tbl l f
def mtbl {X:Tab}:List (Nat×MarkK X)→Nat→Option (MarkK X)
 | [],_=>none
 | q :: l,i=>if q.1==i then some q.2 else mtbl l i
theorem tbl_nil {X:Tab} {P:Program}:∀ f,∀ K∈tbl ([]:List (Nat×FnK X)) f,FnOk P f K:=fun f K h=>by cases h
theorem tbl_cons {X:Tab} {P:Program} {g:Nat} {K0:FnK X} {l:List (Nat×FnK X)} (h0:FnOk P g K0) (hl:∀ f,∀ K∈tbl l f,FnOk P f K):∀ f,∀ K∈tbl ((g,K0) :: l) f,FnOk P f K:=fun f K h=>by
 unfold tbl at h
 split at h
 ·rename_i hg
  rcases List.mem_cons.1 h with rfl | h
  ·have:g=f:=by simpa using hg
   rw [←this];exact h0
  ·exact hl f K h
 ·exact hl f K h
def FnE {X:Tab} (t:Nat→List (FnK X)) (q:Nat→Option (MarkK X)) (N:Nat) (g:AFn X) (K:FnK X) (T:SkA K.sk→Tree K.R):Prop:=∀ d (k:Ret X→Option (Ret X)),runFnK (fnsC t) (markL q) N g (SkA.put K.sk d) k=(T d).run fun r=>k (K.enc r)
def MarksE {X:Tab} (t:Nat→List (FnK X)) (q:Nat→Option (MarkK X)) (N:Nat) (K:List Nat) (a:ACode X):Prop:=∀ m∈marksOf a,MarkOk (fnsC t) (markL q) K N m.1 m.2.1 m.2.2
theorem marksE {X:Tab} {t:Nat→List (FnK X)} {q:Nat→Option (MarkK X)} {N:Nat} {K:List Nat} {a:ACode X} {l:List (Nat×List (Nat×Sh)×ACode X)} (h:marksOf a=l) (hl:∀ m∈l,MarkOk (fnsC t) (markL q) K N m.1 m.2.1 m.2.2):MarksE t q N K a:=by
 unfold MarksE;rw [h];exact hl
theorem fn_ok' (hm:P.follows .mixedOrders=true) (hX:TabOk Γ.X) {t:Nat→List (FnK Γ.X)} (ht:∀ f,∀ K∈t f,FnOk P f K) {f N:Nat} {x:FnX} {fn:Func} (hf:P.funcs[f]?=some fn) (hc:((compBody P Γ x fn).isSome&&!(isDf Γ.X f&&hasDfr Γ (gOf P Γ x fn).body))=true) (hn:(fn.name == "runtime.NumGoroutine")=false) {tm:Nat→Option (MarkK Γ.X)}
  (hmk:MarksE t tm N (gOf P Γ x fn).keep (gOf P Γ x fn).body) {K:FnK Γ.X} {T:SkA K.sk→Tree K.R} (hk:FnE t tm N (gOf P Γ x fn) K T) (hT:∀ d,K.f d=(T d).eval):FnOk P f K:=
 fn_ok hm hX ht (compiled_g hf hc hn) hmk hT hk
def fuel:Nat:=281474976710656
end
def slOk (b n:Nat):Bool:=Nat.ble (n*b) room&&Nat.ble n room
def Sl.lit {α:Type} (b:Nat) (l:List α) (h:slOk b l.length=true):Sl b α:=⟨l,by
 unfold slOk at h
 rw [Bool.and_eq_true] at h
 exact ⟨Nat.le_of_ble_eq_true h.1,Nat.le_of_ble_eq_true h.2⟩⟩
def Arr.lit {α:Type} (n:Nat) (l:List α) (h:Nat.beq l.length n=true):Arr n α:=⟨l,Nat.eq_of_beq_eq_true h⟩
section
variable {X:Tab}
def zerosT (X:Tab):(ts:List X.Ty)→X.Tup ts
 | []=>()
 | t :: ts=>(X.zero t,zerosT X ts)
theorem getT_zeros:∀ {ts:List X.Ty} {j:Nat} {t:X.Ty} {x:X.den t},getT ts (zerosT X ts) j=some ⟨t,x⟩→x=X.zero t
 | [],j,t,x,h=>by cases h
 | t' :: ts,0,t,x,h=>by
  simp only [getT,Option.some.injEq,Sigma.mk.injEq] at h
  obtain ⟨rfl,h⟩:=h
  exact (eq_of_heq h).symm
 | t' :: ts,j+1,t,x,h=>getT_zeros (ts:=ts) (j:=j) h
theorem eqT_iff {α:Type} [DecidableEq α] {x y:α}:eqT x y=true ↔ x=y:=decide_eq_true_iff
end
end Go.A2
