/- A2Take: operands, read and taken. No statement of the seat is proved here. -/
import Derived.Test.YtchpjkadpdajkaaGreatDoorA2Mask
set_option linter.unusedSimpArgs false
set_option linter.unusedVariables false
namespace Go.A2
section
variable {Γ:Cx}
theorem tupOf_sound {w:World} {F:Nat→Prop} {f:(T:Γ.X.Ty)→List Value→Option (Γ.X.den T×List Value)} (hf:∀ T l v r,f T l=some (v,r)→∃ cs,l=cs++r∧PRep w F T v cs):
  ∀ {ts:List Γ.X.Ty} {l r:List Value} {x:Γ.X.Tup ts},tupOf Γ f ts l=some (x,r)→∃ css,l=cat css ts.length++r∧∀ j t y,getT ts x j=some ⟨t,y⟩→PRep w F t y (css j)
 | [],l,r,x,h=>by
  simp only [tupOf] at h
  cases h
  exact ⟨fun _=>[],by simp [cat],fun j t y hj=>by simp [getT] at hj⟩
 | t :: ts,l,r,x,h=>by
  simp only [tupOf] at h
  cases h1:f t l with
  | none=>simp [h1] at h
  | some p=>
   obtain ⟨v,l1⟩:=p
   simp only [h1] at h
   cases h2:tupOf Γ f ts l1 with
   | none=>simp [h2] at h
   | some p2=>
    obtain ⟨vs,l2⟩:=p2
    simp only [h2,Option.some.injEq,Prod.mk.injEq] at h
    obtain ⟨rfl,rfl⟩:=h
    obtain ⟨cs,rfl,hp⟩:=hf t l v l1 h1
    obtain ⟨css,rfl,hps⟩:=tupOf_sound hf h2
    refine ⟨fun j=>match j with | 0=>cs | j+1=>css j,?_,fun j t' y hj=>?_⟩
    ·rw [←List.append_assoc]
     congr 1
     have gen:∀ n,cat (fun j=>match j with | 0=>cs | j+1=>css j) (n+1)=cs++cat css n:=fun n=>by
      induction n with
      | zero=>simp [cat]
      | succ n ih=>rw [cat_succ,ih,cat_succ,List.append_assoc]
     exact (gen _).symm
    ·cases j with
     | zero=>simp only [getT,Option.some.injEq,Sigma.mk.injEq] at hj;obtain ⟨rfl,hj⟩:=hj;cases hj;exact hp
     | succ j=>exact hps j t' y hj
theorem arrOf_sound {α:Type} {f:List Value→Option (α×List Value)} {Q:α→List Value→Prop} (hf:∀ l v r,f l=some (v,r)→∃ cs,l=cs++r∧Q v cs):
  ∀ {n:Nat} {l r:List Value} {vs:List α},arrOf f n l=some (vs,r)→∃ css,l=cat css n++r∧∀ (j:Nat) y,vs[j]?=some y→Q y (css j)
 | 0,l,r,vs,h=>by
  simp only [arrOf,Option.some.injEq,Prod.mk.injEq] at h
  obtain ⟨rfl,rfl⟩:=h
  exact ⟨fun _=>[],by simp [cat],fun j y hj=>by simp at hj⟩
 | n+1,l,r,vs,h=>by
  simp only [arrOf] at h
  cases h1:f l with
  | none=>simp [h1] at h
  | some p=>
   obtain ⟨v,l1⟩:=p
   simp only [h1] at h
   cases h2:arrOf f n l1 with
   | none=>simp [h2] at h
   | some p2=>
    obtain ⟨vs',l2⟩:=p2
    simp only [h2,Option.some.injEq,Prod.mk.injEq] at h
    obtain ⟨rfl,rfl⟩:=h
    obtain ⟨cs,rfl,hp⟩:=hf l v l1 h1
    obtain ⟨css,rfl,hps⟩:=arrOf_sound hf h2
    refine ⟨fun j=>match j with | 0=>cs | j+1=>css j,?_,fun j y hj=>?_⟩
    ·rw [←List.append_assoc]
     congr 1
     have gen:∀ n,cat (fun j=>match j with | 0=>cs | j+1=>css j) (n+1)=cs++cat css n:=fun n=>by
      induction n with
      | zero=>simp [cat]
      | succ n ih=>rw [cat_succ,ih,cat_succ,List.append_assoc]
     exact (gen _).symm
    ·cases j with
     | zero=>simp at hj;subst hj;exact hp
     | succ j=>exact hps j y (by simpa using hj)
theorem valC_sound (hX:TabOk Γ.X) (w:World) (F:Nat→Prop):∀ (d:Nat) (T:Γ.X.Ty) (l:List Value) (v:Γ.X.den T) (r:List Value),valC Γ d T l=some (v,r)→∃ cs,l=cs++r∧PRep w F T v cs
 | 0,T,l,v,r,h=>by simp [valC] at h
 | d+1,T,l,v,r,h=>by
  cases T with
  | int k=>
   cases l with
   | nil=>simp [valC] at h
   | cons c l=>
    cases c with
    | int k' n=>
     simp only [valC] at h
     split at h
     ·rename_i hc
      obtain ⟨rfl,hn⟩:=hc
      cases h
      have:PRep (X:=Γ.X) w F (.int k) (W.of k n) [.int k (W.of k n).n]:=.int k _
      refine ⟨[.int k n],rfl,?_⟩
      have e:(W.of k n).n=n:=hn
      rw [e] at this
      exact this
     ·cases h
    | _=>simp [valC] at h
  | bool=>
   cases l with
   | nil=>simp [valC] at h
   | cons c l=>cases c with
    | bool b=>
     simp only [valC] at h
     cases h
     exact ⟨[.bool v],rfl,.bool v⟩
    | _=>simp [valC] at h
  | str=>
   cases l with
   | nil=>simp [valC] at h
   | cons c l=>cases c with
    | string s=>
     simp only [valC] at h
     split at h
     ·rename_i hl
      cases h
      have:=PRep.str (X:=Γ.X) (w:=w) (F:=F) (⟨s.data.toList,hl⟩:Str)
      exact ⟨[.string s],rfl,by simpa using this⟩
     ·cases h
    | _=>simp [valC] at h
  | slice b t=>
   cases l with
   | nil=>simp [valC] at h
   | cons c l=>cases c with
    | slice a n m=>
     cases a with
     | some a=>simp [valC] at h
     | none=>
      cases n with
      | succ n=>simp [valC] at h
      | zero=>cases m with
       | succ m=>simp [valC] at h
       | zero=>
        simp only [valC] at h
        cases h
        exact ⟨[.slice none 0 0],rfl,.slice b t Sl.nil none 0 (fun _=>[]) (Nat.le_refl _) (fun h=>absurd rfl h) fun i x hi=>by simp [Sl.nil] at hi⟩
    | _=>simp [valC] at h
  | map k t=>cases l<;>simp [valC] at h
  | named i=>
   simp only [valC] at h
   have hh:(match tupOf Γ (valC Γ d) (Γ.X.fields i) l with | some (x,l1)=>some (Γ.X.of i x,l1) | none=>none)=some (v,r):=by cases l<;>exact h
   split at hh
   ·rename_i x l1 hx
    cases hh
    obtain ⟨css,h1,h2⟩:=tupOf_sound (fun T l v r hv=>valC_sound hX w F d T l v r hv) hx
    exact ⟨_,h1,.named i _ css fun j t y hj=>h2 j t y (by rw [hX.to_of] at hj;exact hj)⟩
   ·cases hh
  | arr n t=>
   have hh:(match h:arrOf (valC Γ d t) n l with | some (vs,l1)=>some ((⟨vs,arrOf_length h⟩:Arr n (Γ.X.den t)),l1) | none=>none)=some (v,r):=by cases l<;>exact h
   split at hh
   ·rename_i vs l1 hx
    cases hh
    obtain ⟨css,h1,h2⟩:=arrOf_sound (Q:=fun v cs=>PRep w F t v cs) (fun l v r hv=>valC_sound hX w F d t l v r hv) hx
    exact ⟨_,h1,.arr n t _ css h2⟩
   ·cases hh
theorem cvC_sound (hX:TabOk Γ.X) {T:Option Γ.X.Ty} {v:Value} {x:AV Γ.X} (h:cvC Γ T v=some x) (w:World) (F:Nat→Prop):∃ T' y o cs,x=.val T' y o∧o.pure=true∧VRep w F T' y o cs []∧valOk T' cs v:=by
 unfold cvC at h
 split at h
 ·simp only [Option.some.injEq] at h;subst h
  exact ⟨_,_,_,_,rfl,rfl,.pure (.bool _),rfl⟩
 ·split at h
  ·rename_i k n hn
   simp only [Option.some.injEq] at h;subst h
   refine ⟨_,_,_,[.int k n],rfl,rfl,.pure ?_,rfl⟩
   have:=PRep.int (X:=Γ.X) (w:=w) (F:=F) k (W.of k n)
   have e:(W.of k n).n=n:=hn
   rw [e] at this
   exact this
  ·cases h
 ·split at h
  ·rename_i s hl
   simp only [Option.some.injEq] at h;subst h
   refine ⟨_,_,_,[.string s],rfl,rfl,.pure ?_,rfl⟩
   have:=PRep.str (X:=Γ.X) (w:=w) (F:=F) (⟨s.data.toList,hl⟩:Str)
   simpa using this
  ·cases h
 ·split at h
  ·rename_i b t
   simp only [Option.some.injEq] at h;subst h
   exact ⟨_,_,_,[.slice none 0 0],rfl,rfl,.full b t Sl.nil none (.slice b t Sl.nil none 0 (fun _=>[]) (Nat.le_refl _) (fun h=>absurd rfl h) fun i x hi=>by simp [Sl.nil] at hi),rfl⟩
  ·cases h
 ·rename_i cs
  split at h
  ·rename_i T'
   split at h
   ·rename_i hagg
    split at h
    ·rename_i y hy
     simp only [Option.some.injEq] at h;subst h
     obtain ⟨cs',h1,h2⟩:=valC_sound hX w F _ _ _ _ _ hy
     simp only [List.append_nil] at h1
     refine ⟨_,_,_,cs',rfl,rfl,.pure h2,?_⟩
     unfold valOk
     rw [if_pos hagg,←h1]
    ·cases h
   ·cases h
  ·cases h
 ·cases h
section
variable {K:List Nat} {N:Slots} {F0 B U:Nat→Prop} {w0:World} {F:Nat→Prop} {S:Nat→List Nat} {e:Env Γ.X} {a:Act} {w:World}
theorem compX_slot {T:Option Γ.X.Ty} {Y:Operand} {s:Nat} (h:compX Γ K T Y=some (.t s)∨compX Γ K T Y=some (.v s)):Y=.tmp s:=by
 cases Y with
 | tmp t=>
  rcases h with h | h<;>simp only [compX,Option.some.injEq] at h<;>split at h<;>first | (cases h;rfl) | cases h
 | const v=>rcases h with h | h<;>(simp only [compX] at h;cases hc:cvX Γ T v<;>simp [hc] at h)
 | func f=>rcases h with h | h<;>simp [compX] at h
 | global g=>rcases h with h | h<;>(simp only [compX,glC] at h;split at h<;>(try split at h)<;>simp at h)
theorem EnvRel.rd (hX:TabOk Γ.X) (h:EnvRel N F0 B U w0 F S e a w) {T:Option Γ.X.Ty} {Y:Operand} {x:AX Γ.X} (hx:compX Γ K T Y=some x):
  ∃ R,SRep e a w F (Go.A2.rd e x) (a.eval Y) R∧RefG U (Go.A2.rd e x)∧∀ b∈R,∃ s,b∈S s:=by
 have key:∀ s,∃ R,SRep e a w F (Go.A2.rd e (.v s)) (a.tmps.getD s Go.undef) R∧RefG U (Go.A2.rd e (.v s))∧∀ b∈R,∃ s,b∈S s:=fun s=>by
  have hs:Go.A2.rd e (.v s)=e s→∃ R,SRep e a w F (Go.A2.rd e (.v s)) (a.tmps.getD s Go.undef) R∧RefG U (Go.A2.rd e (.v s))∧∀ b∈R,∃ s,b∈S s:=fun hr=>by
   rw [hr];exact ⟨S s,h.rep s,h.refs s,fun b hb=>⟨s,hb⟩⟩
  cases hes:e s with
  | val T v o=>
   cases T with
   | slice b t=>
    cases o with
    | yes g=>
     have hr:Go.A2.rd e (.v s)=.ref s [] g:=by simp only [Go.A2.rd,hes]
     rw [hr]
     obtain ⟨cs,k1,k2⟩:=h.valAt hes
     refine ⟨[],.ref s [] g _ rfl fun _=>?_,?_,by simp⟩
     ·unfold hdr
      rw [hes]
      have hcs:(a.tmps.getD s Go.undef).cells.toList=cs:=valOk_cells k2 k1.one
      show (a.tmps.getD s Go.undef).cells[0]?=_
      rw [←Array.getElem?_toList,hcs]
      unfold valOk at k2
      rw [if_neg (by simp [aggB])] at k2
      rw [k2];rfl
     ·have:=h.owns s
      rw [hes] at this
      exact this
    | _=>exact hs (by simp only [Go.A2.rd,hes])
   | map k t=>
    cases o with
    | yes g=>
     have hr:Go.A2.rd e (.v s)=.mref s g:=by simp only [Go.A2.rd,hes]
     rw [hr]
     refine ⟨[],.mref s g _ fun k t l hl=>rfl,?_,by simp⟩
     have:=h.owns s
     rw [hes] at this
     exact this
    | _=>exact hs (by simp only [Go.A2.rd,hes])
   | _=>exact hs (by simp only [Go.A2.rd,hes])
  | fnb f g T v o=>
   have hr:Go.A2.rd e (.v s)=.fref s g:=by simp only [Go.A2.rd,hes]
   rw [hr]
   refine ⟨[],.fref s g _ fun f T v o _=>rfl,?_,by simp⟩
   have:=h.owns s
   rw [hes] at this
   exact this.1
  | box g T v o=>
   have hr:Go.A2.rd e (.v s)=.ptr (.box s g) []:=by simp only [Go.A2.rd,hes]
   rw [hr]
   obtain ⟨b,cells,ty,S',k1,k2,k3,k4⟩:=h.boxAt hes
   refine ⟨[],.ptrB s g [] _ fun T' v' o' hb=>?_,?_,by simp⟩
   ·rw [hes] at hb;cases hb
    exact ⟨b,k1,by rw [k1];simp [offQ],rfl⟩
   ·have:=h.owns s
    rw [hes] at this
    exact this.1
  | _=>exact hs (by simp only [Go.A2.rd,hes])
 cases Y with
 | tmp s=>
  simp only [compX,Option.some.injEq] at hx
  subst hx
  have:Go.A2.rd e (if inK K s then AX.v s else AX.t s)=Go.A2.rd e (.v s):=by split<;>rfl
  rw [this]
  exact key s
 | const v=>
  simp only [compX] at hx
  cases hc:cvX Γ T v with
  | none=>simp [hc] at hx
  | some y=>
   simp [hc] at hx;subst hx
   unfold cvX at hc
   split at hc
   ·cases hc
    exact ⟨[],.u (.undef _),trivial,by simp⟩
   ·obtain ⟨T',y',o,cs,rfl,_,h2,h3⟩:=cvC_sound hX hc w F
    exact ⟨[],.u (.val _ _ _ _ cs _ h2 h3),trivial,by simp⟩
 | func f=>
  simp only [compX,Option.some.injEq] at hx;subst hx
  exact ⟨[],.fn f [] [] [] [] rfl rfl (by simp) (by simp),⟨trivial,trivial⟩,by simp⟩
 | global g=>
  simp only [compX,glC] at hx
  split at hx
  ·rename_i q n T' cs hq
   split at hx
   ·rename_i v hv
    simp only [Option.map_some,Option.some.injEq] at hx;subst hx
    have hmem:=List.mem_of_find?_eq_some hq
    have hn:=List.find?_some hq
    simp only [beq_iff_eq] at hn
    obtain ⟨cs',h1,h2⟩:=valC_sound hX w F depthC T' cs v [] hv
    rw [List.append_nil] at h1;subst h1
    obtain ⟨g1,g2,g3⟩:=h.gl.1 _ hmem
    simp only at g1 g2 g3
    rw [hn] at g1 g2 g3
    refine ⟨[],.u (.rptr T' v g 0 cs (h.keeps _ g1) (fun j u hj=>?_) h2),trivial,by simp⟩
    exact (World.cell?_of_block (h.below.block g g2 (h.gl.2 g g2 g1))).trans (g3 j u hj)
   ·simp at hx
  ·simp at hx
theorem SRep.valInv {T:Γ.X.Ty} {v:Γ.X.den T} {o:Own} {u:Value} {R:List Nat} (h:SRep e a w F (.val T v o) u R):∃ cs,VRep w F T v o cs R∧valOk T cs u:=by
 cases h with
 | u h=>cases h with
  | val _ _ _ _ cs _ h hu=>exact ⟨cs,h,hu⟩
theorem EnvRel.rdVal (hX:TabOk Γ.X) (h:EnvRel N F0 B U w0 F S e a w) {T0:Option Γ.X.Ty} {Y:Operand} {x:AX Γ.X} (hx:compX Γ K T0 Y=some x) {T:Γ.X.Ty} {v:Γ.X.den T} {o:Own} (hr:Go.A2.rd e x=.val T v o):
  ∃ cs R,VRep w F T v o cs R∧valOk T cs (a.eval Y):=by
 obtain ⟨R,h1,_,_⟩:=h.rd hX hx
 rw [hr] at h1
 obtain ⟨cs,h2,h3⟩:=h1.valInv
 exact ⟨cs,R,h2,h3⟩
theorem cont_some {e:Env Γ.X} {s:Nat} {q:List PS} {g b:Nat} {t:Γ.X.Ty} {l:Sl b (Γ.X.den t)} (h:cont e s q g=some ⟨b,t,l⟩):∃ T v o,slotC (e s)=some ⟨T,v,o⟩∧getQ q T v=some ⟨.slice b t,l⟩∧ownAt o q=.yes g:=by
 unfold cont at h
 split at h
 ·rename_i T v o hs
  split at h
  ·rename_i b' t' l' g' h1 h2
   split at h
   ·rename_i hg
    cases h
    subst hg
    exact ⟨T,v,o,hs,h1,h2⟩
   ·cases h
  ·cases h
 ·cases h
theorem EnvRel.refAt (h:EnvRel N F0 B U w0 F S e a w) {s:Nat} {q:List PS} {g b:Nat} {t:Γ.X.Ty} {l:Sl b (Γ.X.den t)} (hc:cont e s q g=some ⟨b,t,l⟩) {u:Value} {R:List Nat} (hr:SRep e a w F (.ref s q g) u R):
  onlyFld q=true∧hdr e a w s q=some u:=by
 cases hr with
 | u h=>cases h
 | ref _ _ _ _ hq h=>exact ⟨hq,h (by rw [hc];rfl)⟩
theorem applyU_one (e:Env Γ.X) (s:Nat) (v:AV Γ.X):applyU e [(s,v)]=upd e s v:=rfl
theorem applyU_append (e:Env Γ.X):∀ (u u':Ups Γ.X),applyU e (u++u')=applyU (applyU e u) u'
 | [],_=>rfl
 | (s,v) :: u,u'=>applyU_append (upd e s v) u u'
theorem EnvRel.freezeRef (hX:TabOk Γ.X) (h:EnvRel N F0 B U w0 F S e a w) {s:Nat} {q:List PS} {g b:Nat} {t:Γ.X.Ty} {l:Sl b (Γ.X.den t)} (hc:cont e s q g=some ⟨b,t,l⟩) {us:Ups Γ.X} (hm:setMask e s q .no=some us) {u:Value} {R:List Nat}
  (hr:SRep e a w F (.ref s q g) u R):∃ F1 S1,EnvRel N F0 B U w0 F1 S1 (applyU e us) a w∧Less F S F1 S1∧PRep w F1 (.slice b t) l [u]:=by
 obtain ⟨T,v,o,h1,h2,h3⟩:=cont_some hc
 obtain ⟨T',v',o',m,k1,k2,rfl⟩:=setMask_some hm
 rw [h1] at k1;cases k1
 obtain ⟨hq,hh⟩:=h.refAt hc hr
 obtain ⟨F1,S1,cx,g1,g2,g3,g4,_⟩:=h.freezeAt hX h1 (tyQ_of_getQ hq h2) h2 k2 (by rw [h3];rfl)
 refine ⟨F1,S1,g1,g2,?_⟩
 have hl:=g3.length hX
 simp only [Tab.sz] at hl
 cases cx with
 | nil=>simp at hl
 | cons c cx=>
  cases cx with
  | cons=>simp at hl
  | nil=>
   have:=g4 c rfl
   rw [hh] at this
   cases this
   exact g3
theorem EnvRel.take (hX:TabOk Γ.X) (h:EnvRel N F0 B U w0 F S e a w) {T0:Option Γ.X.Ty} {Y:Operand} {x:AX Γ.X} (hx:compX Γ K T0 Y=some x) {T:Γ.X.Ty} {v:Γ.X.den T} {o:Own} {us:Ups Γ.X} (ht:Go.A2.take e x=some ⟨T,v,o,us⟩):
  ∃ F1 S1 cs R,EnvRel N F0 B U w0 F1 S1 (applyU e us) a w∧Less F S F1 S1∧VRep w F1 T v o cs R∧valOk T cs (a.eval Y)∧R.Nodup∧(∀ b∈R,B b∧b < w.heap.size∧¬ F1 b)∧(∀ b∈R,∀ s,b ∉ S1 s)∧∀ b∈R,∃ s,b∈S s:=by
 have pureAt:∀ {s:Nat} {T:Γ.X.Ty} {v:Γ.X.den T} {o:Own},e s=.val T v o→o.pure=true→∃ cs,VRep w F T v o cs []∧valOk T cs (a.tmps.getD s Go.undef):=fun {s T v o} hes ho=>by
  obtain ⟨cs,k1,k2⟩:=h.valAt hes
  obtain ⟨_,hS⟩:=k1.toPure ho
  rw [hS] at k1
  exact ⟨cs,k1,k2⟩
 have refCase:∀ {s r:Nat} {q:List PS} {g:Nat},Y=.tmp s→e s=.ref r q g→takeRef e r q g=some ⟨T,v,o,us⟩→
   ∃ F1 S1 cs R,EnvRel N F0 B U w0 F1 S1 (applyU e us) a w∧Less F S F1 S1∧VRep w F1 T v o cs R∧valOk T cs (a.eval Y)∧R.Nodup∧(∀ b∈R,B b∧b < w.heap.size∧¬ F1 b)∧(∀ b∈R,∀ s,b ∉ S1 s)∧∀ b∈R,∃ s,b∈S s:=fun {s r q g} hY hes hm=>by
  subst hY
  unfold takeRef at hm
  split at hm
  ·rename_i b t l u hc hmk
   cases hm
   have hr:=h.rep s
   rw [hes] at hr
   obtain ⟨F1,S1,g1,g2,g3⟩:=h.freezeRef hX hc hmk hr
   exact ⟨F1,S1,_,[],g1,g2,.pure g3,rfl,List.nodup_nil,by simp,by simp,by simp⟩
  ·cases hm
 cases x with
 | c y=>
  cases y with
  | val T' v' o'=>
   simp only [Go.A2.take] at ht
   split at ht
   ·rename_i ho
    cases ht
    obtain ⟨R,h1,_,h2⟩:=h.rd hX hx
    obtain ⟨cs,k1,k2⟩:=SRep.valInv h1
    obtain ⟨_,hR⟩:=k1.toPure ho
    subst hR
    exact ⟨F,S,cs,[],h,.refl _ _,k1,k2,List.nodup_nil,by simp,by simp,by simp⟩
   ·cases ht
  | _=>simp [Go.A2.take] at ht
 | t s=>
  have hY:=compX_slot (.inl hx)
  simp only [Go.A2.take] at ht
  cases hes:e s with
  | val T' v' o'=>
   simp only [hes] at ht
   subst hY
   split at ht
   ·rename_i ho
    cases ht
    obtain ⟨cs,k1,k2⟩:=pureAt hes ho
    exact ⟨F,S,cs,[],h,.refl _ _,k1,k2,List.nodup_nil,by simp,by simp,by simp⟩
   ·cases ht
    have hh:=h.handOf s
    rw [hes] at hh
    obtain ⟨cs,k1,k2⟩:=SRep.valInv hh.rep
    refine ⟨F,_,cs,S s,h.drop s,⟨fun _ h=>h,fun _ h=>.inl h,fun t b hb=>?_⟩,k1,k2,hh.nodup,hh.own,hh.apart,fun b hb=>⟨s,hb⟩⟩
    by_cases hts:t=s
    ·subst hts;rw [updS_same] at hb;cases hb
    ·rwa [updS_ne S _ hts] at hb
  | ref r q g=>simp only [hes] at ht;exact refCase hY hes ht
  | _=>simp [hes] at ht
 | v s=>
  have hY:=compX_slot (.inr hx)
  simp only [Go.A2.take] at ht
  cases hes:e s with
  | val T' v' o'=>
   simp only [hes] at ht
   subst hY
   split at ht
   ·rename_i ho
    cases ht
    obtain ⟨cs,k1,k2⟩:=pureAt hes ho
    exact ⟨F,S,cs,[],h,.refl _ _,k1,k2,List.nodup_nil,by simp,by simp,by simp⟩
   ·split at ht
    ·rename_i hal
     cases ht
     obtain ⟨F1,S1,cx,g1,g2,g3,g4,_⟩:=h.freezeAt hX (s:=s) (q:=[]) (by rw [hes];rfl) rfl rfl rfl hal
     rw [hes] at g1
     obtain ⟨cs,k1,k2⟩:=g1.valAt (s:=s) (by rw [upd_same];rfl)
     obtain ⟨k3,_⟩:=k1.toPure rfl
     exact ⟨F1,S1,cs,[],g1,g2,.pure k3,k2,List.nodup_nil,by simp,by simp,by simp⟩
    ·cases ht
  | ref r q g=>simp only [hes] at ht;exact refCase hY hes ht
  | _=>simp [hes] at ht
end
end
end Go.A2
