/- A2Run: the typed machine's runs, with what comes behind them in hand. No statement of the seat is proved here. -/
import Derived.Test.YtchpjkadpdajkaaGreatDoorA2Core
set_option linter.unusedSimpArgs false
set_option linter.unusedVariables false
namespace Go.A2
mutual
def Own.eqb:Own→Own→Bool
 | .no,.no=>true
 | .full,.full=>true
 | .yes g,.yes g'=>g==g'
 | .dead,.dead=>true
 | .st l,.st l'=>Own.eqbL l l'
 | _,_=>false
def Own.eqbL:List Own→List Own→Bool
 | [],[]=>true
 | x :: l,y :: l'=>x.eqb y&&Own.eqbL l l'
 | _,_=>false
end
mutual
theorem Own.eqb_eq:∀ {x y:Own},x.eqb y=true→x=y
 | .no,y,h=>by cases y<;>first | rfl | cases h
 | .full,y,h=>by cases y<;>first | rfl | cases h
 | .yes g,y,h=>by cases y<;>first | (simp [Own.eqb] at h;rw [h]) | cases h
 | .dead,y,h=>by cases y<;>first | rfl | cases h
 | .st l,y,h=>by
  cases y with
  | st l'=>simp only [Own.eqb] at h;rw [Own.eqbL_eq h]
  | _=>cases h
theorem Own.eqbL_eq:∀ {x y:List Own},Own.eqbL x y=true→x=y
 | [],y,h=>by cases y<;>first | rfl | cases h
 | x :: l,y,h=>by
  cases y with
  | nil=>cases h
  | cons y l'=>
   simp only [Own.eqbL,Bool.and_eq_true] at h
   rw [Own.eqb_eq h.1,Own.eqbL_eq h.2]
end
section
variable {X:Tab}
inductive AExit where
 | normal
 | exit (id:Nat)
 | ret
inductive Tree (R:Type):Type 1 where
 | ret (r:R)
 | fail
 | ite (b:Bool) (t e:Tree R)
 | opt {α:Type} (o:Option α) (f:α→Tree R)
 | sum {α β:Type} (o:α⊕β) (f:α→Tree R) (g:β→Tree R)
def optK {α R:Type} (o:Option α) (k:α→Option R):Option R:=
 match o with
 | some a=>k a
 | none=>none
def sumK {α β R:Type} (o:α⊕β) (f:α→Option R) (g:β→Option R):Option R:=
 match o with
 | .inl a=>f a
 | .inr b=>g b
def Tree.run {R S:Type} (t:Tree R) (k:R→Option S):Option S:=
 match t with
 | .ret r=>k r
 | .fail=>none
 | .ite b t e=>cond b (t.run k) (e.run k)
 | .opt o f=>optK o fun a=>(f a).run k
 | .sum o f g=>sumK o (fun a=>(f a).run k) (fun b=>(g b).run k)
def Tree.eval {R:Type} (t:Tree R):Option R:=t.run some
theorem Tree.run_eq {R S:Type} (t:Tree R) (k:R→Option S):t.run k=t.eval.bind k:=by
 induction t with
 | ret r=>rfl
 | fail=>rfl
 | ite b t e iht ihe=>cases b<;>simp [Tree.run,Tree.eval] at*<;> assumption
 | opt o f ih=>cases o with
  | none=>rfl
  | some a=>simpa [Tree.run,Tree.eval,optK] using ih a
 | sum o f g ihf ihg=>cases o with
  | inl a=>simpa [Tree.run,Tree.eval,sumK] using ihf a
  | inr b=>simpa [Tree.run,Tree.eval,sumK] using ihg b
abbrev CK (X:Tab):=Nat→List (AV X)→(Ret X→Option (Ret X))→Option (Ret X)
abbrev Kon (X:Tab):=AExit→Env X→Option (Ret X)
abbrev LK (X:Tab):=Nat→Env X→Kon X→Option (Ret X)
def setB (e:Env X) (c:AX X) (b:Bool):Env X:=
 match c with
 | .t s=>match e s with | .val .bool _ o=>upd e s (.val .bool b o) | _=>e
 | .v s=>match e s with | .val .bool _ o=>upd e s (.val .bool b o) | _=>e
 | .c _=>e
def binK (o:BinOp) (x y:AV X) (k:AV X→Option (Ret X)):Option (Ret X):=
 match x,y with
 | .val (.int ka) a _,.val (.int kb) b _=>
  if isShift o then
   match o with
   | .shl=>if kb.signed then optK (W.shl? a b) fun z=>k (.val (.int ka) z .no) else k (.val (.int ka) (W.shl a b) .no)
   | .shr=>if kb.signed then optK (W.shr? a b) fun z=>k (.val (.int ka) z .no) else k (.val (.int ka) (W.shr a b) .no)
   | _=>none
  else match castT (X:=X) (T:=.int kb) b (.int ka) with
   | some b=>match o with
    | .quo=>optK (W.quo? a b) fun z=>k (.val (.int ka) z .no)
    | .rem=>optK (W.rem? a b) fun z=>k (.val (.int ka) z .no)
    | _=>optK (W.bin (X:=X) o a b) k
   | none=>none
 | _,_=>none
def natK (v:AV X) (k:Option Nat→Option (Ret X)):Option (Ret X):=
 match v with
 | .val (.int _) i _=>optK (nat? i) fun n=>k (some n)
 | _=>none
def oNatK (e:Env X) (x:Option (AX X)) (k:Option Nat→Option (Ret X)):Option (Ret X):=
 match x with
 | none=>k none
 | some x=>natK (rd e x) k
def subK (T:X.Ty) (v:X.den T) (o:Own) (lo hi mx:Option Nat) (k:AV X→Option (Ret X)):Option (Ret X):=
 match T,v with
 | .str,s=>match mx with
  | none=>optK (Str.sub? s (lo.getD 0) (hi.getD (Str.l s).length)) fun r=>k (.val .str r .no)
  | some _=>none
 | .slice b t,l=>match mx,hi with
  | none,hi=>optK (Sl.sub? l (lo.getD 0) (hi.getD (Sl.l l).length)) fun l'=>k (.val (.slice b t) l' (match o,hi with | .full,none=>.full | _,_=>.no))
  | some m,some h=>optK (Sl.sub3? l (lo.getD 0) h m) fun l'=>k (.val (.slice b t) l' .full)
  | some _,none=>none
 | _,_=>none
def effK (C:CK X) (g:Nat) (e:Env X) (d:Option Nat) (op:AOp X) (k:Env X→Option (Ret X)):Option (Ret X):=
 let out (v:AV X):Option (Ret X):=k (applyU e (outU d v))
 match op with
 | .pick c a b=>match rd e c with
  | .val .bool z _=>cond z (match rd e a with | .val .bool q _=>k (applyU (setB e c true) (outU d (.val .bool q .no))) | _=>none)
    (match rd e b with | .val .bool q _=>k (applyU (setB e c false) (outU d (.val .bool q .no))) | _=>none)
  | _=>none
 | .idxA n t x i=>match rd e x,rd e i with
  | .ptr b q,.val (.int _) i _=>if ptrTy e b q=some (.arr n t) then optK (idx? n i) fun j=>out (.ptr b (q++[.idx j])) else none
  | .rptr T v,.val (.int _) i _=>match castT v (.arr n t) with
   | some v=>optK (idx? n i) fun j=>out (.rptr t (v.l.getD j (X.zero t)))
   | none=>none
  | _,_=>none
 | .idxS b t x i=>match rd e x,rd e i with
  | .ref s q g',.val (.int _) i _=>match cont e s q g' with
   | some ⟨b',t',l⟩=>if b=b'∧t=t' then optK (idx? l.l.length i) fun j=>out (.ptr (.elem s q g' j) []) else none
   | none=>none
  | .val T l o,.val (.int _) i _=>if o.pure then match castT l (.slice b t) with
    | some l=>optK (Sl.get? l i) fun x=>out (.rptr t x)
    | none=>none
   else none
  | _,_=>none
 | .view b t x lo hi=>oNatK e lo fun lo=>oNatK e hi fun hi=>match rd e x with
  | .ref s q g'=>match cont e s q g' with
   | some ⟨b',t',l⟩=>if b=b'∧t=t' then optK (vw? l.l.length lo hi) fun _=>out (.view s q g' (lo.getD 0) hi) else none
   | none=>none
  | .val T v o=>if o.pure then match castT v (.slice b t) with
    | some v=>optK (Sl.sub? v (lo.getD 0) (hi.getD (Sl.l v).length)) fun r=>out (.val (.slice b t) r .no)
    | none=>none
   else none
  | _=>none
 | .cat x y=>match rd e x,rd e y with
  | .val .str a _,.val .str b _=>optK (Str.cat? a b) fun s=>out (.val .str s .no)
  | _,_=>none
 | .idxStr x i=>match rd e x,rd e i with
  | .val .str s _,.val (.int _) i _=>optK (Str.get? s i) fun b=>out (.val (.int .u8) b .no)
  | _,_=>none
 | .idxV n t x i=>match rd e x,rd e i with
  | .val T v o,.val (.int _) i _=>if o.pure then match castT v (.arr n t) with
    | some v=>optK (idx? n i) fun j=>out (.val t (v.l.getD j (X.zero t)) .no)
    | none=>none
   else none
  | _,_=>none
 | .bin o x y=>binK o (rd e x) (rd e y) out
 | .append b t x y=>match grab e x with
  | some ⟨b1,t1,l1,u,z⟩=>match castT (X:=X) (T:=.slice b1 t1) l1 (.slice b t),slOf e (rd e y) with
   | some l1,some ⟨b2,t2,l2⟩=>match castT (X:=X) (T:=.slice b2 t2) l2 (.slice b t) with
    | some l2=>match z with
     | false=>optK (Sl.app? l1 l2) fun l=>k (applyU e (u++outU d (.val (.slice b t) l (.yes g))))
     | true=>cond (hasOne l2.l) (optK (Sl.app? l1 l2) fun l=>k (applyU e (u++outU d (.val (.slice b t) l (.yes g))))) (k (applyU e (u++outU d (.val (.slice b t) l1 .full))))
    | none=>none
   | _,_=>none
  | none=>none
 | .arrS b n t x lo hi=>oNatK e lo fun lo=>oNatK e hi fun hi=>match rd e x with
  | .ptr bs q=>if ptrTy e bs q=some (.arr n t) then optK (vw? n lo hi) fun _=>out (.aview bs q b n t (lo.getD 0) (hi.getD n)) else none
  | .rptr T v=>match castT v (.arr n t) with
   | some v=>if h:okA b n=true then optK (Sl.sub? (Arr.sl b v h) (lo.getD 0) (hi.getD n)) fun r=>out (.val (.slice b t) r .no) else none
   | none=>none
  | _=>none
 | .makeSlice b t l c=>match rd e l,rd e c with
  | .val (.int _) n _,.val (.int _) m _=>optK (Sl.make? b (X.zero t) n m) fun l=>out (.val (.slice b t) l (.yes g))
  | _,_=>none
 | .slice T x lo hi mx=>match take e x with
  | some ⟨_,v,o,u⟩=>match castT v T with
   | some v=>if o.alive then oNatK e lo fun lo=>oNatK e hi fun hi=>oNatK e mx fun mx=>subK T v o lo hi mx fun r=>k (applyU e (u++outU d r)) else none
   | none=>none
  | none=>none
 | .mlen k t x=>match mapOf e k t (rd e x) with
  | some l=>optK (mLen? l) fun n=>out (.val (.int .i64) n .no)
  | none=>none
 | .call f args=>match callArgs e (.call f args) with
  | some (f,as)=>C f (as.map (·.a)) fun r=>optK (afterCall true e g as d r) fun u=>k (applyU e u)
  | none=>none
 | .callv x args=>match callArgs e (.callv x args) with
  | some (f,as)=>C f (as.map (·.a)) fun r=>optK (afterCall false e g as d r) fun u=>k (applyU e u)
  | none=>none
 | op=>optK (eff (.undef,[]) g e d op) fun u=>k (applyU e u)
def argFz (e:Env X):AX X→Option (Nat×AV X)
 | .c _=>none
 | .t s | .v s=>match e s with
  | .val (.slice _ _) _ (.yes _)=>none
  | .val T v o=>if o.pure then none else if o.alive then some (s,.val T v .no) else none
  | _=>none
def frzU (e:Env X):List (AX X)→Ups X
 | []=>[]
 | x :: l=>match argFz e x with
  | some u=>u :: frzU e l
  | none=>frzU e l
def AOp.args:AOp X→List (AX X)
 | .call _ l=>l
 | .callv _ l=>l
 | .part _ _ x=>[x]
 | _=>[]
def pre (e:Env X) (op:AOp X):Env X:=applyU e (frzU e op.args)
def stepK (C:CK X) (g:Nat) (e:Env X) (o:AOpr X) (k:Env X→Option (Ret X)):Option (Ret X):=
 match o.guard with
 | none=>effK C g (pre e o.op) o.dst o.op k
 | some (s,true)=>match e s with
  | .val .bool b _=>cond b (effK C g (pre (setB e (.t s) true) o.op) o.dst o.op k) (k (applyU (setB e (.t s) false) (outU o.dst (.tup []))))
  | .tup []=>k (applyU e (outU o.dst (.tup [])))
  | _=>none
 | some (s,false)=>match e s with
  | .val .bool b _=>cond b (k (applyU (setB e (.t s) true) (outU o.dst (.tup [])))) (effK C g (pre (setB e (.t s) false) o.op) o.dst o.op k)
  | .tup []=>k (applyU e (outU o.dst (.tup [])))
  | _=>none
def runK (C:CK X):Nat→List (AOpr X)→Env X→(Env X→Option (Ret X))→Option (Ret X)
 | _,[],e,k=>k e
 | g,o :: l,e,k=>stepK C g e o fun e1=>runK C (g+1) l e1 k
def rootOf:AV X→List Nat
 | .ref s _ _=>[s]
 | .ptr (.box s _) _=>[s]
 | .ptr (.elem s _ _ _) _=>[s]
 | .view s _ _ _ _=>[s]
 | .mref s _=>[s]
 | .fref s _=>[s]
 | .aview (.box s _) _ _ _ _ _ _=>[s]
 | .aview (.elem s _ _ _) _ _ _ _ _ _=>[s]
 | _=>[]
def rootsL:List (AV X)→List Nat
 | []=>[]
 | v :: l=>rootOf v++rootsL l
def roots1:AV X→List Nat
 | .rfn _ a b=>rootsL a++rootsL b
 | v=>rootOf v
def rootsL1:List (AV X)→List Nat
 | []=>[]
 | v :: l=>roots1 v++rootsL1 l
def rootsOf:AV X→List Nat
 | .fn _ a b=>rootsL1 a++rootsL1 b
 | v=>roots1 v
def slotX:AX X→List Nat
 | .t s=>[s]
 | .v s=>[s]
 | .c _=>[]
def touchX (e:Env X) (x:AX X):List Nat:=slotX x++rootsOf (rd e x)
def touch (e:Env X) (o:AOpr X):List Nat:=(match o.guard with | some (s,_)=>[s] | none=>[])++o.op.xs.flatMap (touchX e)
def keys (u:Ups X):List Nat:=u.map (·.1)
def disj (a b:List Nat):Bool:=a.all fun x=>b.all fun y=>!(x==y)
structure Foot where
 rs:List Nat
 ws:List Nat
 hs:List Nat
 es:List Nat
 ps:List Nat
 ms:List Nat
def clear1 (a b:Foot):Bool:=
 disj a.ws b.rs&&(disj a.ws b.hs&&(disj a.ws b.ps&&(disj a.es b.rs&&(disj a.ms b.rs&&disj a.ms b.hs))))
def apart (a b:Foot):Bool:=clear1 a b&&(clear1 b a&&disj (a.ws++(a.es++a.ms)) (b.ws++(b.es++b.ms)))
def apartAll (m:Nat) (fs:List Foot) (f:Foot):Bool:=fs.zipIdx.all fun q=>m.testBit q.2 || apart q.1 f
def tk (e:Env X):AX X→List Nat
 | .c _=>[]
 | .t s | .v s=>match e s with
  | .val _ _ o=>if o.pure then [] else [s]
  | .ref r _ _=>[r]
  | _=>[]
def mvK (e:Env X):AX X→List Nat
 | .c _=>[]
 | .t s=>match e s with
  | .val _ _ o=>if o.pure then [] else [s]
  | .tup _=>[s]
  | _=>[]
 | .v s=>match e s with
  | .val (.slice _ _) _ (.yes _)=>[]
  | .val (.map _ _) _ (.yes _)=>[]
  | .val _ _ o=>if o.pure then [] else [s]
  | _=>[]
def exK (e:Env X) (i:Nat):AX X→List Nat
 | .t s=>match e s with
  | .tup l=>match l[i]? with
   | some (.val _ _ o)=>if o.pure then [] else [s]
   | _=>[]
  | _=>[]
 | _=>[]
def grabK (e:Env X):AX X→List Nat
 | .c _=>[]
 | .t s | .v s=>match e s with
  | .val (.slice _ _) _ .full=>[]
  | .val _ _ _=>[s]
  | .ref r _ _=>[r]
  | _=>[]
def loadK (e:Env X):AV X→List Nat
 | .ptr (.box s _) q=>match e s with
  | .box _ _ _ o=>match ownAt o q with
   | .st l=>if Own.pureL l then [] else [s]
   | _=>[]
  | _=>[]
 | _=>[]
def capRoots (e:Env X) (x:AX X):List Nat:=match rd e x with
 | .fn f _ b=>if isLf X f then rootsL1 b else []
 | .fref s _=>[s]
 | _=>[]
def keysOf (e:Env X) (d:Option Nat) (op:AOp X):List Nat:=
 d.toList++match op with
 | .store _ x v=>tk e v++rootOf (rd e x)
 | .load _ x=>loadK e (rd e x)
 | .loadM _ x=>rootOf (rd e x)
 | .append _ _ x _=>grabK e x
 | .copy _ _ x _ | .clr _ _ x=>rootOf (rd e x)
 | .mset _ _ x _ _ | .mdel _ _ x _=>rootOf (rd e x)
 | .storeF x _=>slotX x
 | .box _ x | .slice _ x _ _ _ | .moveT x=>tk e x
 | .build _ ps | .buildA _ _ ps | .buildSlice _ _ _ ps=>ps.flatMap fun q=>tk e q.2
 | .move x=>mvK e x
 | .extract x i=>exK e i x
 | .call _ args=>args.flatMap fun x=>rootsOf (rd e x)
 | .callv x args=>capRoots e x++args.flatMap fun x=>rootsOf (rd e x)
 | _=>[]
def touchO (e:Env X) (o:AOpr X):List Nat:=touch e o++touch (pre e o.op) o
def keysO (e:Env X) (o:AOpr X):List Nat:=keys (frzU e o.op.args)++keysOf (pre e o.op) o.dst o.op
def formP:AV X→List Nat
 | .ptr (.box s _) _=>[s]
 | _=>[]
def formM (e:Env X):AX X→List Nat
 | .v n=>match rd e (.v n) with
  | .ref s _ _=>[s]
  | v=>formP v
 | x=>formP (rd e x)
def formR (e:Env X) (op:AOp X):List Nat:=
 match op with
 | .move x=>formM e x
 | .nilCheck x=>formP (rd e x)
 | .idxA _ _ x _=>formP (rd e x)
 | .arrS _ _ _ x none none=>formP (rd e x)
 | .fld _ _ x=>match rd e x with
  | .ptr (.box s _) _=>[s]
  | _=>[]
 | .load _ x=>match rd e x with
  | .ptr (.box s _) q=>match e s with
   | .box _ _ _ o=>match ownAt o q with
    | .yes _=>if onlyFld q then [s] else []
    | _=>[]
   | _=>[]
  | _=>[]
 | _=>[]
def maskNo (e:Env X):AX X→Bool
 | .c (.val _ _ .no)=>true
 | .t s | .v s=>match e s with
  | .val _ _ .no=>true
  | _=>false
 | _=>false
def keepsM (x:AV X) (q:List PS):Bool:=
 match x with
 | .box _ _ _ o=>match setO o q .no with
  | some o1=>o1.eqb o
  | none=>false
 | _=>false
def softW (e:Env X) (op:AOp X):List Nat:=
 match op with
 | .store _ x v=>match tk e v with
  | []=>match rd e x with
   | .ptr (.elem s _ _ _) _=>[s]
   | .ptr (.box s _) q=>if maskNo e v&&keepsM (e s) q then [s] else []
   | _=>[]
  | _=>[]
 | _=>[]
def weakR (e:Env X) (op:AOp X):List Nat:=
 match op with
 | .move x=>formP (rd e x)
 | .nilCheck x=>formP (rd e x)
 | .fld _ _ x=>formP (rd e x)
 | _=>[]
def maskS (e:Env X):AV X→List Nat
 | .ref r q _=>if q.isEmpty then [] else match e r with
  | .box _ _ _ _=>[r]
  | _=>[]
 | _=>[]
def maskW (e:Env X) (op:AOp X):List Nat:=
 match op with
 | .append _ _ x _=>match x with
  | .t s | .v s=>maskS e (e s)
  | .c _=>[]
 | _=>[]
def without (l m:List Nat):List Nat:=l.filter fun x=>!m.any (·==x)
def formO (e:Env X) (o:AOpr X):List Nat:=match o.guard with
 | none=>formR e o.op
 | some _=>[]
def softO (e:Env X) (o:AOpr X):List Nat:=match o.guard with
 | none=>softW e o.op
 | some _=>[]
def weakO (e:Env X) (o:AOpr X):List Nat:=match o.guard with
 | none=>weakR e o.op
 | some _=>[]
def maskO (e:Env X) (o:AOpr X):List Nat:=match o.guard with
 | none=>(maskW e o.op).filter fun s=>!(o.dst==some s)
 | some _=>[]
def footOf (e:Env X) (o:AOpr X):Foot:=⟨without (touchO e o) (formO e o),without (without (keysO e o) (softO e o)) (maskO e o),without (formO e o) (weakO e o),softO e o,weakO e o,maskO e o⟩
def drawK (C:CK X):Nat→List (AOpr X)→List Nat→List Foot→Env X→(Env X→Option (Ret X))→Option (Ret X)
 | _,[],_,_,e,k=>k e
 | g,o :: l,ms,fs,e,k=>
  let f:Foot:=footOf e o
  if apartAll (ms.headD 0) fs f then stepK C g e o fun e1=>drawK C (g+1) l ms.tail (fs++[f]) e1 k else none
def normB (e:Env X):AV X→AV X
 | .ref s q g=>match cont e s q g with
  | some _=>.ref s q 0
  | none=>.undef
 | .ptr (.box s g) q=>match e s with
  | .box g' _ _ _=>if g=g' then .ptr (.box s 0) q else .undef
  | _=>.undef
 | .ptr (.elem s p g i) q=>match cont e s p g with
  | some _=>.ptr (.elem s p 0 i) q
  | none=>.undef
 | .view _ _ _ _ _=>.undef
 | .mref _ _=>.undef
 | .fref _ _=>.undef
 | .fnew _=>.undef
 | .aview _ _ _ _ _ _ _=>.undef
 | v=>v
def capK:AV X→Bool
 | .ptr _ _=>true
 | .rptr _ _=>true
 | .val _ _ _=>true
 | .undef=>true
 | _=>false
def normC (e:Env X):AV X→AV X
 | .rfn f a b=>if a.all capK&&b.all capK then .rfn f (a.map (normB e)) (b.map (normB e)) else .undef
 | v=>normB e v
def capK2:AV X→Bool
 | .rfn _ _ _=>true
 | v=>capK v
def norm (e:Env X):AV X→AV X
 | .val T v o=>.val T v (o.gen 0)
 | .box _ T v o=>.box 0 T v (o.gen 0)
 | .fnb f _ T v o=>.fnb f 0 T v (o.gen 0)
 | .fn f a b=>if a.all capK2&&b.all capK2 then .fn f (a.map (normC e)) (b.map (normC e)) else .undef
 | .rfn f a b=>if a.all capK&&b.all capK then .rfn f (a.map (normB e)) (b.map (normB e)) else .undef
 | .tup _=>.undef
 | v=>normB e v
def restrict (K:List Nat) (e:Env X):Env X:=mkE (K.map fun k=>(k,norm e (e k)))
def shape:Sh→AV X→AV X
 | .own,.val (.slice b t) l .full=>match l.l with
  | []=>.val (.slice b t) l (.yes 1)
  | _=>.undef
 | .pure,.val T v o=>if o.pure then .val T v .no else .undef
 | _,v=>v
def shaped (D:List (Nat×Sh)) (e:Env X):Env X:=mkE (D.map fun q=>(q.1,shape q.2 (e q.1)))
def isFz:Sh→Bool
 | .fz=>true
 | _=>false
def freezeV:AV X→AV X
 | .val T v o=>if o.alive then .val T v .no else .val T v o
 | .box g T v o=>if o.alive then .box g T v .no else .box g T v o
 | v=>v
def frozen (e:Env X):List (Nat×Sh)→Env X
 | []=>e
 | q :: l=>frozen (if isFz q.2 then upd e q.1 (freezeV (e q.1)) else e) l
def marked (D:List (Nat×Sh)) (e:Env X):Env X:=restrict (D.map (·.1)) (shaped D (frozen e D))
def iterK (f:Env X→Kon X→Option (Ret X)):Nat→Env X→Kon X→Option (Ret X)
 | 0,_,_=>none
 | n+1,e,k=>f e fun x e1=>match x with
  | .normal=>iterK f n e1 k
  | x=>k x e1
def execK (C:CK X) (L:LK X) (K:List Nat) (N:Nat):ACode X→Env X→Kon X→Option (Ret X)
 | .skip,e,k=>k .normal e
 | .region ops,e,k=>runK C 1 ops e fun e1=>k .normal (restrict K e1)
 | .draw ops ms,e,k=>drawK C 1 ops ms [] e fun e1=>k .normal (restrict K e1)
 | .seq a b,e,k=>execK C L K N a e fun x e1=>match x with
  | .normal=>execK C L K N b e1 k
  | x=>k x e1
 | .cond c a b,e,k=>match rd e c with
  | .val .bool v _=>cond v (execK C L K N a (setB e c true) k) (execK C L K N b (setB e c false) k)
  | _=>none
 | .block id a,e,k=>execK C L K N a e fun x e1=>match x with
  | .exit j=>if j=id then k .normal e1 else k (.exit j) e1
  | x=>k x e1
 | .loop a,e,k=>iterK (execK C L K N a) N e k
 | .exit id,e,k=>k (.exit id) e
 | .ret,e,k=>k .ret e
 | .mark i D _,e,k=>L i (marked D e) k
 | .trim D a,e,k=>execK C L K N a e fun x e1=>k x (marked D e1)
 | .dfr t a,e,k=>match rd e (.v t) with
  | .fn f _ _=>if isDf X f then execK C L K N a e fun x e1=>match x with
    | .ret=>effK C 1 e1 none (.callv (.v t) []) fun e2=>k .ret (restrict K e2)
    | _=>none
   else none
  | _=>none
 | .bad,_,_=>none
def resOne (e:Env X):ARes X×Bool→Option (AV X×Env X)
 | (.tmp s,fz)=>match e s with
  | .ref r q g=>match cont e r q g,(if q.isEmpty then some [(r,.undef)] else setMask e r q .dead) with
   | some ⟨b,t,l⟩,some u=>some (.val (.slice b t) l (if fz then .no else .yes 0),applyU e u)
   | _,_=>none
  | .val T v o=>if o.alive then some (.val T v (if fz then .no else o.gen 0),upd e s .undef) else none
  | .fn f as bs=>match allO (capArg e) as,allO (capArg e) bs with
   | some A,some B=>some (.fn f (A.map (·.a)) (B.map (·.a)),dropAll e ((A++B).flatMap (·.caps)))
   | _,_=>none
  | _=>none
 | (.cell s T,fz)=>match e s with
  | .box _ T' v o=>match castT v T with
   | some v=>if o.alive then some (.val T v (if fz then .no else o.gen 0),upd e s .undef) else none
   | none=>none
  | _=>none
def resAll (e:Env X):List (ARes X×Bool)→Option (List (AV X)×Env X)
 | []=>some ([],e)
 | r :: l=>match resOne e r with
  | some (v,e1)=>match resAll e1 l with
   | some (vs,e2)=>some (v :: vs,e2)
   | none=>none
  | none=>none
def one:List (AV X)→AV X
 | [v]=>v
 | vs=>.tup vs
def outsOf (e:Env X) (n:Nat) (lent:List Nat):List (AV X):=
 (List.range n).map fun i=>if lent.any (·==i) then (match e i with | .box _ T v o=>.box 0 T v (o.gen 0) | .val (.slice b t) l o=>.val (.slice b t) l (o.gen 0) | .fnb f _ T v o=>.fnb f 0 T v (o.gen 0) | _=>.undef) else .undef
def results (e:Env X) (af:AFn X):Option (Ret X):=
 match resAll e af.res with
 | some (vs,e1)=>some (one vs,outsOf e1 af.np af.lent)
 | none=>none
def endK (af:AFn X) (k:Ret X→Option (Ret X)):Kon X
 | .normal,e=>optK (results e af) k
 | .ret,e=>optK (results e af) k
 | .exit _,_=>none
def entry (args:List (AV X)):Env X:=mkE (args.zipIdx.map fun (v,i)=>(i,genV 0 v))
def runFnK (C:CK X) (L:LK X) (N:Nat) (af:AFn X) (args:List (AV X)) (k:Ret X→Option (Ret X)):Option (Ret X):=
 if args.length=af.np then execK C L af.keep N af.body (entry args) (endK af k) else none
end
end Go.A2
