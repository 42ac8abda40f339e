/- A2Env: the typed environment against the model's frame and memory. No statement of the seat is proved here. -/
import Derived.Test.YtchpjkadpdajkaaGreatDoorA2Lens
set_option linter.unusedSimpArgs false
set_option linter.unusedVariables false
namespace Go.A2
section
variable {X:Tab}
theorem valOk_cells {T:X.Ty} {cs:List Value} {u:Value} (h:valOk T cs u) (h1:∀ c∈cs,c.oneCell'=true):u.cells.toList=cs:=by
 unfold valOk at h
 split at h
 ·subst h;rfl
 ·subst h
  have:=h1 u (by simp)
  cases u<;>first | rfl | simp [Value.oneCell'] at this
inductive URep (w:World) (F:Nat→Prop):AV X→Value→List Nat→Prop where
 | undef (u:Value):URep w F .undef u []
 | val (T:X.Ty) (v:X.den T) (o:Own) (u:Value) (cs:List Value) (S:List Nat) (h:VRep w F T v o cs S) (hu:valOk T cs u):URep w F (.val T v o) u S
 | rptr (T:X.Ty) (v:X.den T) (b o:Nat) (cs:List Value) (hb:F b) (hc:∀ (j:Nat) u,cs[j]?=some u→w.cell? ⟨b,o+j,none⟩=some u) (h:PRep w F T v cs):
   URep w F (.rptr T v) (.pointer (some ⟨b,o,none⟩)) []
theorem URep.mono {w w':World} {F F':Nat→Prop} (hF:∀ b,F b→F' b) (hw:∀ b,F b→w'.heap[b]?=w.heap[b]?) {x:AV X} {u:Value} {S:List Nat} (h:URep w F x u S) (hS:∀ b∈S,w'.heap[b]?=w.heap[b]?):
  URep w' F' x u S:=by
 cases h with
 | undef u=>exact .undef u
 | val T v o u cs S h hu=>exact .val T v o u cs S (h.mono hF hw hS) hu
 | rptr T v b o cs hb hc h=>exact .rptr T v b o cs (hF b hb) (fun j u hj=>(World.cell?_of_block (w:=w) (hw b hb)).trans (hc j u hj)) (h.mono hF hw)
def hdr (e:Env X) (a:Act) (w:World) (s:Nat) (q:List PS):Option Value:=
 match e s with
 | .val T _ _=>(a.tmps.getD s undef).cells[offQ q T]?
 | .box _ T _ _=>match a.tmps.getD s undef with
  | .pointer (some ad)=>w.cell? ⟨ad.block,offQ q T,none⟩
  | _=>none
 | _=>none
inductive SRep (e:Env X) (a:Act) (w:World) (F:Nat→Prop):AV X→Value→List Nat→Prop where
 | u {x:AV X} {u:Value} {S:List Nat} (h:URep w F x u S):SRep e a w F x u S
 | tup (l:List (AV X)) (us:List Value) (Ss:Nat→List Nat) (hl:l.length=us.length) (h:∀ (i:Nat) x u,l[i]?=some x→us[i]?=some u→SRep e a w F x u (Ss i)):SRep e a w F (.tup l) (.tuple us.toArray) (cat Ss l.length)
 | fn (f:Nat) (as bs:List (AV X)) (us vs:List Value) (hl:as.length=us.length) (hl':bs.length=vs.length) (h:∀ (i:Nat) x u,as[i]?=some x→us[i]?=some u→SRep e a w F x u [])
   (h':∀ (i:Nat) x u,bs[i]?=some x→vs[i]?=some u→SRep e a w F x u []):SRep e a w F (.fn f as bs) (.func (.func f) us.toArray vs.toArray) []
 | box (g:Nat) (T:X.Ty) (v:X.den T) (o:Own) (b:Nat) (cells:Array Value) (ty:TypeId) (S:List Nat) (hg:w.heap[b]?=some (.cells cells ty (0,0))) (h:VRep w F T v o cells.toList S):
   SRep e a w F (.box g T v o) (.pointer (some ⟨b,0,none⟩)) (b :: S)
 | ref (s:Nat) (q:List PS) (g:Nat) (u:Value) (hq:onlyFld q=true) (h:(cont e s q g).isSome=true→hdr e a w s q=some u):SRep e a w F (.ref s q g) u []
 | ptrB (s g:Nat) (q:List PS) (u:Value) (h:∀ T v o,e s=.box g T v o→∃ b,a.tmps.getD s undef=.pointer (some ⟨b,0,none⟩)∧u=.pointer (some ⟨b,offQ q T,none⟩)∧(tyQ q T).isSome=true):
   SRep e a w F (.ptr (.box s g) q) u []
 | ptrE (s:Nat) (p:List PS) (g i:Nat) (q:List PS) (u:Value) (hp:onlyFld p=true)
   (h:∀ b t l,cont e s p g=some ⟨b,t,l⟩→i < l.l.length∧(tyQ q t).isSome=true∧∃ blk n c,hdr e a w s p=some (.slice (some ⟨blk,0,none⟩) n c)∧u=.pointer (some ⟨blk,i*X.sz t+offQ q t,none⟩)):
   SRep e a w F (.ptr (.elem s p g i) q) u []
 | view (s:Nat) (q:List PS) (g off:Nat) (hi:Option Nat) (u:Value) (hq:onlyFld q=true)
   (h:∀ b t l,cont e s q g=some ⟨b,t,l⟩→off≤hi.getD l.l.length∧hi.getD l.l.length≤l.l.length∧∃ ad c m c',hdr e a w s q=some (.slice ad l.l.length c)∧u=.slice m (hi.getD l.l.length - off) c'∧hi.getD l.l.length - off≤c'∧(off < hi.getD l.l.length→m=ad.map (·.add (off*X.sz t)))):
   SRep e a w F (.view s q g off hi) u []
 | rfn (f:Nat) (as bs:List (AV X)) (us vs:List Value) (blk:Nat) (hb:F blk) (hc:w.cell? ⟨blk,0,none⟩=some (.func (.func f) us.toArray vs.toArray)) (hl:as.length=us.length) (hl':bs.length=vs.length)
   (h:∀ (i:Nat) x u,as[i]?=some x→us[i]?=some u→SRep e a w F x u []) (h':∀ (i:Nat) x u,bs[i]?=some x→vs[i]?=some u→SRep e a w F x u []):SRep e a w F (.rfn f as bs) (.pointer (some ⟨blk,0,none⟩)) []
 | fnew (g blk:Nat) (c:Value) (ty:TypeId) (hg:w.heap[blk]?=some (.cells #[c] ty (0,0))):SRep e a w F (.fnew g) (.pointer (some ⟨blk,0,none⟩)) [blk]
 | fnb (f g:Nat) (T:X.Ty) (v:X.den T) (o:Own) (b:Nat) (cells:Array Value) (ty:TypeId) (S:List Nat) (hg:w.heap[b]?=some (.cells cells ty (0,0))) (h:VRep w F T v o cells.toList S):
   SRep e a w F (.fnb f g T v o) (.func (.func f) #[] #[.pointer (some ⟨b,0,none⟩)]) (b :: S)
 | fref (s g:Nat) (u:Value) (h:∀ f T v o,e s=.fnb f g T v o→u=a.tmps.getD s undef):SRep e a w F (.fref s g) u []
 | mref (s g:Nat) (u:Value) (h:∀ k t l,e s=.val (.map k t) l (.yes g)→u=a.tmps.getD s undef):SRep e a w F (.mref s g) u []
 | aview (bs:Base) (q:List PS) (b n:Nat) (t:X.Ty) (off hi blk o c:Nat) (m:Option Addr) (hp:SRep e a w F (.ptr bs q) (.pointer (some ⟨blk,o,none⟩)) []) (h1:off≤hi) (h2:hi≤n) (hc:hi - off≤c) (hm:off < hi→m=some ⟨blk,o+off*X.sz t,none⟩):
   SRep e a w F (.aview bs q b n t off hi) (.slice m (hi - off) c) []
mutual
def OGen (P:Nat→Prop):Own→Prop
 | .yes g=>P g
 | .st l=>OGenL P l
 | _=>True
def OGenL (P:Nat→Prop):List Own→Prop
 | []=>True
 | o :: l=>OGen P o∧OGenL P l
end
mutual
def OwnsG (P:Nat→Prop):AV X→Prop
 | .val _ _ o=>OGen P o
 | .box g _ _ o=>P g∧OGen P o
 | .fnb _ g _ _ o=>P g∧OGen P o
 | .tup l=>OwnsGL P l
 | .fnew g=>P g
 | _=>True
def OwnsGL (P:Nat→Prop):List (AV X)→Prop
 | []=>True
 | x :: l=>OwnsG P x∧OwnsGL P l
end
mutual
def RefG (P:Nat→Prop):AV X→Prop
 | .ref _ _ g=>P g
 | .ptr (.box _ g) _=>P g
 | .ptr (.elem _ _ g _) _=>P g
 | .view _ _ g _ _=>P g
 | .mref _ g=>P g
 | .fref _ g=>P g
 | .aview (.box _ g) _ _ _ _ _ _=>P g
 | .aview (.elem _ _ g _) _ _ _ _ _ _=>P g
 | .tup l=>RefGL P l
 | .fn _ a b=>RefGL P a∧RefGL P b
 | .rfn _ a b=>RefGL P a∧RefGL P b
 | _=>True
def RefGL (P:Nat→Prop):List (AV X)→Prop
 | []=>True
 | x :: l=>RefG P x∧RefGL P l
end
theorem RefGL_get {P:Nat→Prop} {l:List (AV X)} (h:RefGL P l):∀ {i:Nat} {x:AV X},l[i]?=some x→RefG P x:=by
 induction l with
 | nil=>intro i x hi;simp at hi
 | cons y l ih=>
  intro i x hi
  cases i with
  | zero=>simp at hi;subst hi;exact h.1
  | succ i=>exact ih h.2 (by simpa using hi)
theorem RefGL_mk {P:Nat→Prop} {l:List (AV X)} (h:∀ x∈l,RefG P x):RefGL P l:=by
 induction l with
 | nil=>trivial
 | cons y l ih=>exact ⟨h y (by simp),ih fun x hx=>h x (by simp [hx])⟩
theorem OGenL_getD {P:Nat→Prop} {l:List Own} (h:OGenL P l) (j:Nat):OGen P (l.getD j .no):=by
 induction l generalizing j with
 | nil=>trivial
 | cons o l ih=>cases j with
  | zero=>exact h.1
  | succ j=>simpa using ih h.2 j
structure Slots where
 n:Nat
 V:List (Nat×Value)
 D:List Deferred:=[]
 pd:Bool:=true
def Slots.ok (N:Slots) (d:Nat):Prop:=d < N.n∧∀ q∈N.V,q.1 ≠ d
structure BelowP (B:Nat→Prop) (w w':World):Prop where
 os:w'.os=w.os
 tape:w'.tape=w.tape
 output:w'.output=w.output
 size:w.heap.size≤w'.heap.size
 block:∀ k,k < w.heap.size→¬ B k→w'.heap[k]?=w.heap[k]?
theorem BelowP.refl (B:Nat→Prop) (w:World):BelowP B w w:=⟨rfl,rfl,rfl,Nat.le_refl _,fun _ _ _=>rfl⟩
theorem BelowP.trans {B:Nat→Prop} {a b c:World} (h:BelowP B a b) (k:BelowP B b c):BelowP B a c:=
 ⟨k.os.trans h.os,k.tape.trans h.tape,k.output.trans h.output,Nat.le_trans h.size k.size,fun i hi hb=>(k.block i (Nat.lt_of_lt_of_le hi h.size) hb).trans (h.block i hi hb)⟩
theorem BelowP.wider {B B':Nat→Prop} {a b:World} (h:BelowP B a b) (hB:∀ k,k < a.heap.size→B k→B' k):BelowP B' a b:=
 ⟨h.os,h.tape,h.output,h.size,fun i hi hb=>h.block i hi fun hb'=>hb (hB i hi hb')⟩
def GlobIn (X:Tab) (F0:Nat→Prop) (w0:World):Prop:=∀ q∈X.gl,F0 q.1∧q.1 < w0.heap.size∧∀ (j:Nat) u,q.2.2[j]?=some u→w0.cell? ⟨q.1,0+j,none⟩=some u
structure EnvRel (N:Slots) (F0 B U:Nat→Prop) (w0:World) (F:Nat→Prop) (S:Nat→List Nat) (e:Env X) (a:Act) (w:World):Prop where
 size:a.tmps.size=N.n
 lent:∀ s u,(s,u)∈N.V→a.tmps.getD s undef=u
 defers:a.defers=N.D
 rep:∀ s,SRep e a w F (e s) (a.tmps.getD s undef) (S s)
 owns:∀ s,OwnsG U (e s)
 refs:∀ s,RefG U (e s)
 nodup:∀ s,(S s).Nodup
 apart:∀ s t b,s ≠ t→b∈S s→b ∉ S t
 own:∀ s b,b∈S s→B b∧b < w.heap.size∧¬ F b
 free:∀ b,F b→b < w.heap.size
 old:∀ b,F b→F0 b∨B b
 keeps:∀ b,F0 b→F b
 below:BelowP B w0 w
 base:∀ b,w.heap.size≤b→B b
 gl:GlobIn X F0 w0∧∀ b,b < w0.heap.size→F0 b→¬ B b
structure Hand (B U F:Nat→Prop) (S:Nat→List Nat) (e:Env X) (a:Act) (w:World) (x:AV X) (u:Value) (T:List Nat):Prop where
 rep:SRep e a w F x u T
 refs:RefG U x
 nodup:T.Nodup
 own:∀ b∈T,B b∧b < w.heap.size∧¬ F b
 apart:∀ b∈T,∀ s,b ∉ S s
def updS (S:Nat→List Nat) (s:Nat) (x:List Nat):Nat→List Nat:=fun t=>if t=s then x else S t
theorem updS_same (S:Nat→List Nat) (s:Nat) (v:List Nat):updS S s v s=v:=by simp [updS]
theorem updS_ne (S:Nat→List Nat) {s t:Nat} (v:List Nat) (h:t ≠ s):updS S s v t=S t:=by simp [updS,h]
theorem upd_same (e:Env X) (s:Nat) (v:AV X):upd e s v s=v:=by simp [upd]
theorem upd_ne (e:Env X) {s t:Nat} (v:AV X) (h:t ≠ s):upd e s v t=e t:=by simp [upd,h]
structure Kept (U:Nat→Prop) (e:Env X) (a:Act) (w:World) (e':Env X) (a':Act) (w':World):Prop where
 ref:∀ s q g b t l',onlyFld q=true→U g→cont e' s q g=some ⟨b,t,l'⟩→∃ l,cont e s q g=some ⟨b,t,l⟩∧l.l.length=l'.l.length∧hdr e' a' w' s q=hdr e a w s q
 box:∀ s g T v o,U g→e' s=.box g T v o→∃ v' o',e s=.box g T v' o'∧a'.tmps.getD s undef=a.tmps.getD s undef
 fb:∀ s f g T v o,U g→e' s=.fnb f g T v o→∃ v' o',e s=.fnb f g T v' o'∧a'.tmps.getD s undef=a.tmps.getD s undef
 mp:∀ s g k t l,U g→e' s=.val (.map k t) l (.yes g)→∃ l',e s=.val (.map k t) l' (.yes g)∧a'.tmps.getD s undef=a.tmps.getD s undef
theorem SRep.step {U F F':Nat→Prop} {e e':Env X} {a a':Act} {w w':World} (hF:∀ b,F b→F' b) (hw:∀ b,F b→w'.heap[b]?=w.heap[b]?) (hk:Kept U e a w e' a' w') {x:AV X} {u:Value} {S:List Nat}
  (h:SRep e a w F x u S) (hr:RefG U x) (hS:∀ b∈S,w'.heap[b]?=w.heap[b]?):SRep e' a' w' F' x u S:=by
 induction h with
 | u h=>exact .u (h.mono hF hw hS)
 | tup l us Ss hl _ ih=>
  refine .tup l us Ss hl fun i x u hx hu=>ih i x u hx hu (RefGL_get hr hx) fun b hb=>hS b (mem_cat.2 ⟨i,(List.getElem?_eq_some_iff.1 hx).1,hb⟩)
 | fn f as bs us vs hl hl' _ _ ih ih'=>
  exact .fn f as bs us vs hl hl' (fun i x u hx hu=>ih i x u hx hu (RefGL_get hr.1 hx) (by simp)) fun i x u hx hu=>ih' i x u hx hu (RefGL_get hr.2 hx) (by simp)
 | box g T v o b cells ty S hg h=>exact .box g T v o b cells ty S ((hS b (by simp)).trans hg) (h.mono hF hw fun b' hb'=>hS b' (by simp [hb']))
 | ref s q g u hq h=>
  refine .ref s q g u hq fun hc=>?_
  cases hcc:cont e' s q g with
  | none=>simp [hcc] at hc
  | some y=>
   obtain ⟨b,t,l'⟩:=y
   obtain ⟨l,h1,_,h2⟩:=hk.ref s q g b t l' hq hr hcc
   rw [h2];exact h (by rw [h1];rfl)
 | ptrB s g q u h=>
  refine .ptrB s g q u fun T v o hb=>?_
  obtain ⟨v',o',h1,h2⟩:=hk.box s g T v o hr hb
  obtain ⟨b,h3,h4,h5⟩:=h T v' o' h1
  exact ⟨b,h2.trans h3,h4,h5⟩
 | ptrE s p g i q u hp h=>
  refine .ptrE s p g i q u hp fun b t l' hc=>?_
  obtain ⟨l,h1,h2,h3⟩:=hk.ref s p g b t l' hp hr hc
  obtain ⟨h4,h5,blk,n,c,h6,h7⟩:=h b t l h1
  exact ⟨by omega,h5,blk,n,c,by rw [h3];exact h6,h7⟩
 | view s q g off hi u hq h=>
  refine .view s q g off hi u hq fun b t l' hc=>?_
  obtain ⟨l,h1,h2,h3⟩:=hk.ref s q g b t l' hq hr hc
  obtain ⟨h4,h5,ad,c,m,c',h6,h7,h9,h8⟩:=h b t l h1
  rw [←h2]
  exact ⟨h4,h5,ad,c,m,c',by rw [h3];exact h6,h7,h9,h8⟩
 | rfn f as bs us vs blk hb hc hl hl' _ _ ih ih'=>
  exact .rfn f as bs us vs blk (hF blk hb) ((World.cell?_of_block (w:=w) (hw blk hb)).trans hc) hl hl' (fun i x u hx hu=>ih i x u hx hu (RefGL_get hr.1 hx) (by simp)) fun i x u hx hu=>ih' i x u hx hu (RefGL_get hr.2 hx) (by simp)
 | fnew g blk c ty hg=>exact .fnew g blk c ty ((hS blk (by simp)).trans hg)
 | fnb f g T v o b cells ty S hg h=>exact .fnb f g T v o b cells ty S ((hS b (by simp)).trans hg) (h.mono hF hw fun b' hb'=>hS b' (by simp [hb']))
 | fref s g u h=>
  refine .fref s g u fun f T v o hb=>?_
  obtain ⟨v',o',h1,h2⟩:=hk.fb s f g T v o hr hb
  rw [h2];exact h f T v' o' h1
 | aview bs q b n t off hi blk o c m _ h1 h2 hc hm ih=>exact .aview bs q b n t off hi blk o c m (ih (by cases bs<;>exact hr) (by simp)) h1 h2 hc hm
 | mref s g u h=>
  refine .mref s g u fun k t l hl=>?_
  obtain ⟨l',h1,h2⟩:=hk.mp s g k t l hr hl
  rw [h2];exact h k t l' h1
theorem slotC_own {x:AV X} {P:Nat→Prop} (h:OwnsG P x) {T:X.Ty} {v:X.den T} {o:Own} (hs:slotC x=some ⟨T,v,o⟩):OGen P o:=by
 cases x with
 | val T v o=>simp only [slotC,Option.some.injEq,Sigma.mk.injEq] at hs;obtain ⟨rfl,hs⟩:=hs;cases hs;exact h
 | box g T v o=>simp only [slotC,Option.some.injEq,Sigma.mk.injEq] at hs;obtain ⟨rfl,hs⟩:=hs;cases hs;exact h.2
 | _=>cases hs
theorem ownAt_gen {P:Nat→Prop}:∀ {q:List PS} {o:Own} {g:Nat},OGen P o→ownAt o q=.yes g→P g
 | [],o,g,h,ho=>by simp only [ownAt] at ho;subst ho;exact h
 | .fld j :: q,o,g,h,ho=>by
  simp only [ownAt] at ho
  refine ownAt_gen (o:=o.fldD j) ?_ ho
  cases o with
  | st l=>exact OGenL_getD h j
  | _=>trivial
 | .idx j :: q,o,g,h,ho=>by cases o<;>simp [ownAt] at ho
theorem cont_gen {e:Env X} {P:Nat→Prop} {s:Nat} {q:List PS} {g:Nat} {x} (h:OwnsG P (e s)) (hc:cont e s q g=some x):P g:=by
 unfold cont at hc
 split at hc
 ·rename_i T v o hs
  split at hc
  ·rename_i g' hg ho
   split at hc
   ·rename_i hgg
    subst hgg
    exact ownAt_gen (slotC_own h hs) ho
   ·cases hc
  ·cases hc
 ·cases hc
theorem cont_congr {e e':Env X} {s:Nat} (h:e' s=e s) (q:List PS) (g:Nat):cont e' s q g=cont e s q g:=by
 unfold cont;rw [h]
theorem hdr_congr {e e':Env X} {a a':Act} {w w':World} {s:Nat} (h:e' s=e s) (ha:a'.tmps.getD s undef=a.tmps.getD s undef)
  (hp:∀ g T v o,e s=.box g T v o→∃ b,a.tmps.getD s undef=.pointer (some ⟨b,0,none⟩)∧w'.heap[b]?=w.heap[b]?) (q:List PS):hdr e' a' w' s q=hdr e a w s q:=by
 unfold hdr
 rw [h,ha]
 cases hes:e s with
 | box g T v o=>
  obtain ⟨b,hb,hw⟩:=hp g T v o hes
  simp only [hb]
  exact World.cell?_of_block (w:=w) hw
 | _=>rfl
section
variable {N:Slots} {F0 B U:Nat→Prop} {w0:World} {F:Nat→Prop} {S:Nat→List Nat} {e:Env X} {a:Act} {w:World}
theorem getD_put (a:Act) (d s:Nat) (v:Value) (hd:d < a.tmps.size):(a.put (some d) v).tmps.getD s undef=if s=d then v else a.tmps.getD s undef:=by
 simp only [Act.put,Array.getD_eq_getD_getElem?]
 by_cases h:s=d
 ·subst h;simp [hd]
 ·rw [if_neg h,Array.getElem?_setIfInBounds_ne (Ne.symm h)]
theorem EnvRel.boxAt (h:EnvRel N F0 B U w0 F S e a w) {s g:Nat} {T:X.Ty} {v:X.den T} {o:Own} (hs:e s=.box g T v o):
  ∃ b cells ty S',a.tmps.getD s undef=.pointer (some ⟨b,0,none⟩)∧w.heap[b]?=some (.cells cells ty (0,0))∧VRep w F T v o cells.toList S'∧S s=b :: S':=by
 have hr:=h.rep s
 rw [hs] at hr
 generalize a.tmps.getD s undef=u at hr
 generalize S s=R at hr
 cases hr with
 | u h=>cases h
 | box _ _ _ _ b cells ty S' hg h=>exact ⟨b,cells,ty,S',rfl,hg,h,rfl⟩
theorem EnvRel.fnbAt (h:EnvRel N F0 B U w0 F S e a w) {s f g:Nat} {T:X.Ty} {v:X.den T} {o:Own} (hs:e s=.fnb f g T v o):
  ∃ b cells ty S',a.tmps.getD s undef=.func (.func f) #[] #[.pointer (some ⟨b,0,none⟩)]∧w.heap[b]?=some (.cells cells ty (0,0))∧VRep w F T v o cells.toList S'∧S s=b :: S':=by
 have hr:=h.rep s
 rw [hs] at hr
 generalize a.tmps.getD s undef=u at hr
 generalize S s=R at hr
 cases hr with
 | u h=>cases h
 | fnb _ _ _ _ _ b cells ty S' hg h=>exact ⟨b,cells,ty,S',rfl,hg,h,rfl⟩
theorem EnvRel.valAt (h:EnvRel N F0 B U w0 F S e a w) {s:Nat} {T:X.Ty} {v:X.den T} {o:Own} (hs:e s=.val T v o):
  ∃ cs,VRep w F T v o cs (S s)∧valOk T cs (a.tmps.getD s undef):=by
 have hr:=h.rep s
 rw [hs] at hr
 generalize a.tmps.getD s undef=u at hr
 generalize S s=R at hr
 cases hr with
 | u h=>cases h with
  | val _ _ _ _ cs _ h hu=>exact ⟨cs,h,hu⟩
theorem EnvRel.kept (h:EnvRel N F0 B U w0 F S e a w) {e':Env X} {a':Act} {w':World} (hs:∀ s,(e' s=e s∧a'.tmps.getD s undef=a.tmps.getD s undef∧∀ b∈S s,w'.heap[b]?=w.heap[b]?)∨OwnsG (fun g=>¬ U g) (e' s)):Kept U e a w e' a' w':=by
 refine ⟨fun s q g b t l' hq hg hc=>?_,fun s g T v o hg hb=>?_,fun s f g T v o hg hb=>?_,fun s g k t l hg hb=>?_⟩
 ·rcases hs s with ⟨h1,h2,h3⟩ | hn
  ·rw [cont_congr h1] at hc
   refine ⟨l',hc,rfl,hdr_congr h1 h2 (fun g T v o hes=>?_) q⟩
   obtain ⟨b',cells,ty,S',k1,k2,k3,k4⟩:=h.boxAt hes
   exact ⟨b',k1,h3 b' (by rw [k4];simp)⟩
  ·exact absurd hg (cont_gen hn hc)
 ·rcases hs s with ⟨h1,h2,_⟩ | hn
  ·exact ⟨v,o,by rw [←h1,hb],h2⟩
  ·rw [hb] at hn;exact absurd hg hn.1
 ·rcases hs s with ⟨h1,h2,_⟩ | hn
  ·exact ⟨v,o,by rw [←h1,hb],h2⟩
  ·rw [hb] at hn;exact absurd hg hn.1
 ·rcases hs s with ⟨h1,h2,_⟩ | hn
  ·exact ⟨l,by rw [←h1,hb],h2⟩
  ·rw [hb] at hn;exact absurd hg hn
end
end
end Go.A2
