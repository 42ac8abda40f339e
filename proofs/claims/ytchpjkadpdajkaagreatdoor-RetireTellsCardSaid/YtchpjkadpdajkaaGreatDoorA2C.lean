/- YtchpjkadpdajkaaGreatDoorA2C: parts of the machine and its laws, in one text. No statement of the seat is proved here. -/
import Derived.Test.YtchpjkadpdajkaaGreatDoorA2B
import Derived.Laws.MakeOwn
import Derived.Laws.Slices
import Derived.Laws.BytesString
import Derived.Defers
set_option linter.unusedSimpArgs false
set_option linter.unusedVariables false
namespace Go.A2
section
variable {P:Program} {Γ:Cx}
theorem cat_mem {α:Type} {f:Nat→List α} {n:Nat} {p:α→Prop} (h:∀ i,i < n→∀ x∈f i,p x):∀ x∈cat f n,p x:=fun x hx=>by
 obtain ⟨i,hi,hx⟩:=mem_cat.1 hx
 exact h i hi x hx
theorem firstCells' {w:World} {size m c:Nat} {ad:Option Addr} {news:List Value} (hl:news.length=m*size) (h:news ≠ []→∃ blk o,ad=some ⟨blk,o,none⟩∧∀ (j:Nat) u,news[j]?=some u→w.cell? ⟨blk,o+j,none⟩=some u):
  (Builtin.firstCells size m (.slice ad m c)).run P w=.ok news.toArray w:=by
 cases ad with
 | none=>
  cases news with
  | nil=>exact run_firstCells_none w size m m c
  | cons=>obtain ⟨_,_,h,_⟩:=h (by simp);cases h
 | some a=>
  refine run_firstCells_some w size m a m c news hl fun j v hj=>?_
  obtain ⟨blk,o,h1,h2⟩:=h (by intro hn;rw [hn] at hj;simp at hj)
  cases h1
  rw [addr_add]
  exact h2 j v hj
theorem run_append_room' {w:World} {t t2 ty el el2:TypeId} {i:TypeInfo} (ht:P.underlying t=some (.slice el)) (ht2:P.underlying t2=some (.slice el2)) (hi:P.info? el=some i) {base:Option Addr} {sLen sCap:Nat} {ad:Option Addr} {m c:Nat} {news:List Value} (hl:news.length=m*i.size)
  (hn:news ≠ []→∃ blk o,ad=some ⟨blk,o,none⟩∧∀ (j:Nat) u,news[j]?=some u→w.cell? ⟨blk,o+j,none⟩=some u) (hroom:sLen+m≤sCap) {w':World}
  (hst:∀ a,base=some a→(storeCells (a.add (sLen*i.size)) news).run P w=.ok () w') (hb:base=none→w'=w):
  (Builtin.append_ #[t,t2] ty #[.slice base sLen sCap,.slice ad m c]).run P w=.ok (.slice base (sLen+m) sCap) w':=by
 have hf:=firstCells' (P:=P) (w:=w) (size:=i.size) (m:=m) (c:=c) hl hn
 cases base with
 | none=>rw [hb rfl];simp [Builtin.append_,run_underlying ht,run_underlying ht2,sizeOf,typeInfo,hi,Builtin.lenOf,hroom,hf]
 | some a=>simp [Builtin.append_,run_underlying ht,run_underlying ht2,sizeOf,typeInfo,hi,Builtin.lenOf,hroom,hf,hst a rfl]
theorem run_append_grow' {w:World} {t t2 ty el el2:TypeId} {i:TypeInfo} {z:Value} (ht:P.underlying t=some (.slice el)) (ht2:P.underlying t2=some (.slice el2)) (hi:P.info? el=some i) (hz:i.zero=some z) {base:Option Addr} {sLen sCap:Nat} {ad:Option Addr} {m c:Nat} {olds news:List Value}
  (hlo:olds.length=sLen*i.size) (ho:olds ≠ []→∃ blk o,base=some ⟨blk,o,none⟩∧∀ (j:Nat) u,olds[j]?=some u→w.cell? ⟨blk,o+j,none⟩=some u)
  (hl:news.length=m*i.size) (hn:news ≠ []→∃ blk o,ad=some ⟨blk,o,none⟩∧∀ (j:Nat) u,news[j]?=some u→w.cell? ⟨blk,o+j,none⟩=some u)
  (hg:sCap < sLen+m) (h63:((sLen+m:Nat):Int)≤9223372036854775807) (hfit:Builtin.nextslicecap (sLen+m) sCap*i.bytes≤281474976710656):
  (Builtin.append_ #[t,t2] ty #[.slice base sLen sCap,.slice ad m c]).run P w =
   .ok (.slice (some ⟨w.heap.size,0,none⟩) (sLen+m) (grownCap w (sLen+m) sCap el))
    (w.drew.alloc (.cells (olds.toArray++news.toArray++Builtin.zeroCells z.cells (grownCap w (sLen+m) sCap el - (sLen+m))) el)):=by
 have hnn:¬ (sLen+m≤sCap):=by omega
 have h63':¬ (9223372036854775807 < ((sLen:Int)+(m:Int))):=by omega
 have h48':¬ (281474976710656 < Builtin.nextslicecap (sLen+m) sCap*i.bytes):=by omega
 have hf:=firstCells' (P:=P) (w:=w.drew) (size:=i.size) (m:=m) (c:=c) hl (by simpa using hn)
 have hfo:=firstCells' (P:=P) (w:=w.drew) (size:=i.size) (m:=sLen) (c:=sCap) hlo (by simpa using ho)
 simp [Builtin.append_,run_underlying ht,run_underlying ht2,sizeOf,typeInfo,zeroValue,hi,hz,Builtin.lenOf,hnn,h63',h48',Question.forced,hf,hfo,newRow,grownCap]
 congr 2
 apply Array.ext'
 simp [List.append_assoc]
theorem made_get {z:Array Value} {n i j:Nat} (hi:i < n) (hj:j < z.size):(madeCells z (n*z.size))[i*z.size+j]?=z[j]?:=by
 have h1:(i+1)*z.size≤n*z.size:=Nat.mul_le_mul_right _ hi
 rw [Nat.succ_mul] at h1
 unfold madeCells
 rw [Array.getElem?_map,Array.getElem?_range,if_pos (by omega)]
 simp only [Option.map_some]
 have:(i*z.size+j) % z.size=j:=by rw [Nat.mul_comm,Nat.mul_add_mod];exact Nat.mod_eq_of_lt hj
 rw [this,Array.getElem?_eq_getElem hj]
 simp [hj]
section
variable {K:List Nat} {N:Slots} {F0 B U:Nat→Prop} {w0:World} {F:Nat→Prop} {S:Nat→List Nat} {e:Env Γ.X} {a:Act} {w:World}
theorem EnvRel.newRow' (h:EnvRel N F0 B U w0 F S e a w) {b:Nat} {t:Γ.X.Ty} {l:Sl b (Γ.X.den t)} {w1:World} {cells:Array Value} {ty:TypeId} {cap:Nat} {css:Nat→List Value} (g:Nat) (hw1:w1.heap=w.heap∧w1.os=w.os∧w1.tape=w.tape∧w1.output=w.output)
  (hsz:cells.size=cap*Γ.X.sz t) (hcap:l.l.length≤cap) (hmx:cap≤maxLen) (hc:∀ (i j:Nat) u,i < l.l.length→(css i)[j]?=some u→cells[i*Γ.X.sz t+j]?=some u) (hp:∀ (i:Nat) x,l.l[i]?=some x→PRep w F t x (css i)):
  EnvRel N F0 B U w0 F S e a (w1.alloc (.cells cells ty))∧Hand B U F S e a (w1.alloc (.cells cells ty)) (.val (.slice b t) l (.yes g)) (.slice (some ⟨w.heap.size,0,none⟩) l.l.length cap) [w.heap.size]:=by
 obtain ⟨e1,e2,e3,e4⟩:=hw1
 have hold:∀ b',b' < w.heap.size→(w1.alloc (.cells cells ty)).heap[b']?=w.heap[b']?:=fun b' hb'=>by rw [heap_alloc_old w1 _ b' (by rw [e1];exact hb'),e1]
 have h1:=h.world (w':=w1.alloc (.cells cells ty)) (F':=F) (fun _ h=>h) (fun b hb=>hold b (h.free b hb)) (fun t b hb=>hold b (h.own t b hb).2.1)
  ⟨e2,e3,e4,by simp [e1],fun k hk _=>hold k hk⟩ fun b hb=>.inl hb
 refine ⟨h1,?_,trivial,by simp,?_,?_⟩
 ·refine .u (.val (.slice b t) l (.yes g) _ _ [w.heap.size] (.own b t l g w.heap.size cap cells ty css ?_ hsz hcap hmx hc fun i x hi=>(hp i x hi).mono (fun _ h=>h) fun b' hb'=>hold b' (h.free b' hb')) (by unfold valOk;rw [if_neg (by simp [aggB])]))
  rw [←e1];exact heap_alloc_new w1 _
 ·intro b' hb'
  simp at hb';subst hb'
  exact ⟨h.base _ (Nat.le_refl _),by simp [e1],fun hf=>by have:=h.free _ hf;omega⟩
 ·intro b' hb' s hs
  simp at hb';subst hb'
  have:=(h.own s _ hs).2.1;omega
theorem maxLen_room {n:Nat} (h:n≤room):n≤maxLen:=by unfold room at h;unfold maxLen;omega
theorem EnvRel.grab (hX:TabOk Γ.X) (h:EnvRel N F0 B U w0 F S e a w) {T0:Option Γ.X.Ty} {Y:Operand} {x:AX Γ.X} (hx:compX Γ K T0 Y=some x) {b:Nat} {t:Γ.X.Ty} {l:Sl b (Γ.X.den t)} {us:Ups Γ.X} {z:Bool} (hgr:Go.A2.grab e x=some ⟨b,t,l,us,z⟩):
  ∃ S1 m R,EnvRel N F0 B U w0 F S1 (applyU e us) a w∧VRep w F (.slice b t) l m [a.eval Y] R∧(m=.full∧(z=true∨l.l=[])∨∃ g,m=.yes g)∧(∀ b∈R,B b∧b < w.heap.size∧¬ F b)∧(∀ b∈R,∀ s,b ∉ S1 s)∧(∀ b∈R,∃ s,b∈S s)∧∀ s b,b∈S1 s→b∈S s:=by
 have dropSub:∀ s t b,b∈updS S s [] t→b∈S t:=fun s t b hb=>by
  by_cases ht:t=s
  ·subst ht;rw [updS_same] at hb;cases hb
  ·rwa [updS_ne S _ ht] at hb
 have slot:∀ {s:Nat},Y=.tmp s→Go.A2.grab e (.v s)=some ⟨b,t,l,us,z⟩→
   ∃ S1 m R,EnvRel N F0 B U w0 F S1 (applyU e us) a w∧VRep w F (.slice b t) l m [a.eval Y] R∧(m=.full∧(z=true∨l.l=[])∨∃ g,m=.yes g)∧(∀ b∈R,B b∧b < w.heap.size∧¬ F b)∧(∀ b∈R,∀ s,b ∉ S1 s)∧(∀ b∈R,∃ s,b∈S s)∧∀ s b,b∈S1 s→b∈S s:=fun {s} hY hgr=>by
  subst hY
  simp only [Go.A2.grab] at hgr
  split at hgr
  ·rename_i b' t' l' hes
   cases hgr
   obtain ⟨cs,k1,k2⟩:=h.valAt hes
   obtain ⟨_,hS⟩:=k1.toPure rfl
   rw [hS] at k1
   unfold valOk at k2;rw [if_neg (by simp [aggB])] at k2
   subst k2
   exact ⟨S,.full,[],h,k1,.inl ⟨rfl,.inl rfl⟩,by simp,by simp,by simp,fun _ _ h=>h⟩
  ·rename_i b' t' l' g' hes
   cases hgr
   have hh:=h.handOf s
   rw [hes] at hh
   obtain ⟨cs,k1,k2⟩:=SRep.valInv hh.rep
   unfold valOk at k2;rw [if_neg (by simp [aggB])] at k2
   subst k2
   exact ⟨_,_,S s,h.drop s,k1,.inr ⟨_,rfl⟩,hh.own,hh.apart,fun b hb=>⟨s,hb⟩,dropSub s⟩
  ·rename_i r q g' hes
   split at hgr
   ·rename_i b' t' l' u hc hm
    cases hgr
    have hr:=h.rep s
    rw [hes] at hr
    obtain ⟨hq,hh⟩:=h.refAt hc hr
    obtain ⟨T,v,o,c1,c2,c3⟩:=cont_some hc
    split at hm
    ·rename_i hqe
     cases hm
     have:q=[]:=by cases q<;>first | rfl | cases hqe
     subst this
     simp only [getQ,Option.some.injEq] at c2
     cases c2
     simp only [ownAt] at c3;subst c3
     obtain ⟨cx,Sx,p1,p2,p3⟩:=h.place hX (q:=[]) c1 rfl rfl
     have hl:=p1.length hX
     simp only [Tab.sz] at hl
     cases cx with
     | nil=>simp at hl
     | cons c cx=>cases cx with
      | cons=>simp at hl
      | nil=>
       have:=p3 c rfl
       rw [hh] at this;cases this
       refine ⟨_,_,Sx,h.drop r,p1,.inr ⟨_,rfl⟩,fun b hb=>h.own r b (p2 b hb),fun b hb t=>?_,fun b hb=>⟨r,p2 b hb⟩,dropSub r⟩
       by_cases ht:t=r
       ·subst ht;rw [updS_same];simp
       ·rw [updS_ne S _ ht];exact h.apart r t b (Ne.symm ht) (p2 b hb)
    ·obtain ⟨T',v',o',m,k1,k2,rfl⟩:=setMask_some hm
     rw [c1] at k1;cases k1
     obtain ⟨cx,Sx,p1,p2,_,p3,_,p5⟩:=h.remask hX c1 (tyQ_of_getQ hq c2) c2 k2 (o':=.dead) trivial
     rw [c3] at p1
     have hl:=p1.length hX
     simp only [Tab.sz] at hl
     cases cx with
     | nil=>simp at hl
     | cons c cx=>cases cx with
      | cons=>simp at hl
      | nil=>
       have:=p3 c rfl
       rw [hh] at this;cases this
       obtain ⟨S',g1,g2,g3⟩:=p5 F (fun _ h=>h) (fun b hb=>.inl hb) (.dead b t l _ (p1.one _ (by simp)))
       refine ⟨S',_,Sx,g1,p1,.inr ⟨_,rfl⟩,fun b hb=>h.own r b (p2 b hb),fun b hb t=>?_,fun b hb=>⟨r,p2 b hb⟩,fun t b hb=>?_⟩
       ·by_cases ht:t=r
        ·subst ht;exact fun hb'=>(g3 b hb').2 hb
        ·rw [g2 t ht];exact h.apart r t b (Ne.symm ht) (p2 b hb)
       ·by_cases ht:t=r
        ·subst ht;exact (g3 b hb).1
        ·rwa [g2 t ht] at hb
   ·cases hgr
  ·cases hgr
 cases x with
 | c y=>
  cases y with
  | val T v o=>
   cases T with
   | slice b' t'=>
    cases o with
    | full=>
     simp only [Go.A2.grab] at hgr
     split at hgr
     ·rename_i hnil
      cases hgr
      obtain ⟨R,h1,_,_⟩:=h.rd hX hx
      obtain ⟨cs,k1,k2⟩:=SRep.valInv h1
      obtain ⟨_,hR⟩:=k1.toPure rfl
      subst hR
      unfold valOk at k2;rw [if_neg (by simp [aggB])] at k2
      subst k2
      exact ⟨S,.full,[],h,k1,.inl ⟨rfl,.inr hnil⟩,by simp,by simp,by simp,fun _ _ h=>h⟩
     ·cases hgr
    | _=>simp [Go.A2.grab] at hgr
   | _=>simp [Go.A2.grab] at hgr
  | _=>simp [Go.A2.grab] at hgr
 | t s=>exact slot (compX_slot (.inl hx)) hgr
 | v s=>exact slot (compX_slot (.inr hx)) hgr
theorem grabbed {b:Nat} {t:Γ.X.Ty} {l:Sl b (Γ.X.den t)} {m:Own} {u:Value} {R:List Nat} (h:VRep w F (.slice b t) l m [u] R) (hm:m=.full∨∃ g,m=.yes g):
  ∃ (base:Option Addr) (cap:Nat) (css:Nat→List Value),u=.slice base l.l.length cap∧l.l.length≤cap∧(∀ (i:Nat) x,l.l[i]?=some x→PRep w F t x (css i)) ∧
   ((cap=l.l.length∧R=[]∧(l.l ≠ []→m=.full∧∃ blk o,base=some ⟨blk,o,none⟩∧F blk∧∀ (i j:Nat) u,i < l.l.length→(css i)[j]?=some u→w.cell? ⟨blk,o+i*Γ.X.sz t+j,none⟩=some u)) ∨
   ∃ blk cells ty,base=some ⟨blk,0,none⟩∧R=[blk]∧w.heap[blk]?=some (.cells cells ty (0,0))∧cells.size=cap*Γ.X.sz t∧cap≤maxLen∧∀ (i j:Nat) u,i < l.l.length→(css i)[j]?=some u→cells[i*Γ.X.sz t+j]?=some u):=by
 have key:∀ {T:Γ.X.Ty} {v:Γ.X.den T} {o:Own} {cs:List Value} {S:List Nat},VRep w F T v o cs S→T=.slice b t→HEq v l→o=m→cs=[u]→S=R→
   ∃ (base:Option Addr) (cap:Nat) (css:Nat→List Value),u=.slice base l.l.length cap∧l.l.length≤cap∧(∀ (i:Nat) x,l.l[i]?=some x→PRep w F t x (css i)) ∧
   ((cap=l.l.length∧R=[]∧(l.l ≠ []→m=.full∧∃ blk o,base=some ⟨blk,o,none⟩∧F blk∧∀ (i j:Nat) u,i < l.l.length→(css i)[j]?=some u→w.cell? ⟨blk,o+i*Γ.X.sz t+j,none⟩=some u)) ∨
   ∃ blk cells ty,base=some ⟨blk,0,none⟩∧R=[blk]∧w.heap[blk]?=some (.cells cells ty (0,0))∧cells.size=cap*Γ.X.sz t∧cap≤maxLen∧∀ (i j:Nat) u,i < l.l.length→(css i)[j]?=some u→cells[i*Γ.X.sz t+j]?=some u):=fun hv hT hvl ho hcs hS=>by
  cases hv with
  | full b' t' v ad hp=>
   cases hT;cases hvl
   simp only [List.cons.injEq,and_true] at hcs
   subst hcs
   generalize hcc:[Value.slice ad l.l.length l.l.length]=cc at hp
   cases hp with
   | slice _ _ _ ad' cap' css hcap ha hp=>
    simp only [List.cons.injEq,Value.slice.injEq,and_true] at hcc
    obtain ⟨rfl,_,rfl⟩:=hcc
    refine ⟨ad,l.l.length,css,rfl,Nat.le_refl _,hp,.inl ⟨rfl,hS.symm,fun hne=>⟨ho.symm,?_⟩⟩⟩
    obtain ⟨blk,o,q1,q2,q3⟩:=ha hne
    exact ⟨blk,o,q1,q2,q3⟩
  | ownNil b' t' v g' ad hv=>
   cases hT;cases hvl
   simp only [List.cons.injEq,and_true] at hcs
   exact ⟨ad,0,fun _=>[],by rw [←hcs,hv];rfl,by rw [hv];simp,fun i x hi=>by rw [hv] at hi;simp at hi,.inl ⟨by rw [hv];rfl,hS.symm,fun hne=>absurd hv hne⟩⟩
  | own b' t' v g' blk cap cells ty css hg hsz hcap hmx hcc hp=>
   cases hT;cases hvl
   simp only [List.cons.injEq,and_true] at hcs
   exact ⟨_,cap,css,hcs.symm,hcap,hp,.inr ⟨blk,cells,ty,rfl,hS.symm,hg,hsz,hmx,hcc⟩⟩
  | pure=>rcases hm with rfl | ⟨g,rfl⟩<;>cases ho
  | st=>rcases hm with rfl | ⟨g,rfl⟩<;>cases ho
  | dead=>rcases hm with rfl | ⟨g,rfl⟩<;>cases ho
  | ownM=>cases hT
 exact key h rfl HEq.rfl rfl rfl rfl
theorem app_l {b:Nat} {α:Type} {x y z:Sl b α} (h:Sl.app? x y=some z):z.l=x.l++y.l:=by
 unfold Sl.app? at h
 split at h
 ·rename_i hx
  cases h;rw [hx];rfl
 ·unfold Sl.mk? at h
  split at h
  ·cases h;rfl
  ·cases h
theorem full_inv {b:Nat} {T:Γ.X.Ty} {l:Sl b (Γ.X.den T)} {cs:List Value} {R:List Nat} (h:VRep w F (.slice b T) l .full cs R):∃ ad,cs=[.slice ad l.l.length l.l.length]:=by
 have key:∀ {T':Γ.X.Ty} {v:Γ.X.den T'} {o:Own} {cs:List Value} {S:List Nat},VRep w F T' v o cs S→T'=.slice b T→HEq v l→o=.full→∃ ad,cs=[.slice ad l.l.length l.l.length]:=fun hv hT hvl ho=>by
  cases hv with
  | full b' t' v ad hp=>
   cases hT;cases hvl
   exact ⟨ad,rfl⟩
  | _=>cases ho
 exact key h rfl HEq.rfl rfl
theorem grab_true {x:AX Γ.X} {b:Nat} {t:Γ.X.Ty} {l:Sl b (Γ.X.den t)} {u:Ups Γ.X} (h:Go.A2.grab e x=some ⟨b,t,l,u,true⟩):u=[]∧∃ s,(x=.t s∨x=.v s)∧e s=.val (.slice b t) l .full:=by
 cases x with
 | t s=>
  unfold Go.A2.grab at h
  simp only [] at h
  split at h
  ·rename_i hes;cases h;exact ⟨rfl,s,.inl rfl,hes⟩
  ·cases h
  ·split at h<;>cases h
  ·cases h
 | v s=>
  unfold Go.A2.grab at h
  simp only [] at h
  split at h
  ·rename_i hes;cases h;exact ⟨rfl,s,.inr rfl,hes⟩
  ·cases h
  ·split at h<;>cases h
  ·cases h
 | c y=>
  unfold Go.A2.grab at h
  split at h
  ·split at h<;>cases h
  ·cases h
  ·rename_i h';cases h'
  ·rename_i h';cases h'
section steps
variable {T0 T1 T2:Option Γ.X.Ty} {g:Nat} {o:Oper} {us:Ups Γ.X} {ans:Ret Γ.X} (hX:TabOk Γ.X) (h:EnvRel N F0 B U w0 F S e a w) (hg:¬ U g) (hd:∀ k,o.dst=some k→N.ok k)
variable {next:Act→World→Prop} {Q:Exit→Act→World→Prop} (hnext:∀ a' w',Sim N F0 B (withG U g) w0 (applyU e us) a' w'→next a' w')
include hX h hg hd hnext
theorem step_app_core {b:Nat} {T:Γ.X.Ty} {el:TypeId} {i:TypeInfo} {z:Value} {Y:Operand} {x:AX Γ.X} (hcY:compX Γ K T0 Y=some x) (hsize:i.size=Γ.X.sz T) (hbytes:i.bytes=b) (hzl:z.cells.size=Γ.X.sz T)
  {v1 v2 lr:Sl b (Γ.X.den T)} {u:Ups Γ.X} {zf:Bool} (hgr:Go.A2.grab e x=some ⟨b,T,v1,u,zf⟩) (hone:(!zf || hasOne v2.l)=true) (hlr:Sl.app? v1 v2=some lr) {css2:Nat→List Value} (p2:∀ (i:Nat) x,v2.l[i]?=some x→PRep w F T x (css2 i))
  (hroomR:∀ base cap w',a.eval Y=.slice base v1.l.length cap→v1.l.length+v2.l.length≤cap→(∀ a',base=some a'→(storeCells (a'.add (v1.l.length*i.size)) (cat css2 v2.l.length)).run P w=.ok () w')→(base=none→w'=w)→(execOp a.eval o).run P w=.ok (.value (.slice base (v1.l.length+v2.l.length) cap)) w')
  (hgrowR:∀ (base:Option Addr) cap (olds:List Value),a.eval Y=.slice base v1.l.length cap→olds.length=v1.l.length*i.size→(olds ≠ []→∃ blk o,base=some ⟨blk,o,none⟩∧∀ (j:Nat) u,olds[j]?=some u→w.cell? ⟨blk,o+j,none⟩=some u)→cap < v1.l.length+v2.l.length→Builtin.nextslicecap (v1.l.length+v2.l.length) cap*i.bytes≤281474976710656→
   (execOp a.eval o).run P w=.ok (.value (.slice (some ⟨w.heap.size,0,none⟩) (v1.l.length+v2.l.length) (grownCap w (v1.l.length+v2.l.length) cap el))) (w.drew.alloc (.cells (olds.toArray++(cat css2 v2.l.length).toArray++Builtin.zeroCells z.cells (grownCap w (v1.l.length+v2.l.length) cap el - (v1.l.length+v2.l.length))) el)))
  (hus:us=u++outU o.dst (.val (.slice b T) lr (.yes g))):o.wp P a w next Q:=by
 subst hus
 obtain ⟨S1,m,R,k1,k2,k3,k4,k5,_⟩:=h.grab hX hcY hgr
 obtain ⟨base,cap,css1,u1,c1,p1,alt⟩:=grabbed k2 (by rcases k3 with ⟨h,_⟩ | h;exact .inl h;exact .inr h)
 have hll:=app_l hlr
 have hlen:lr.l.length=v1.l.length+v2.l.length:=by rw [hll,List.length_append]
 have hroom:=lr.h
 rw [hlen] at hroom
 have cl1:∀ i,i < v1.l.length→(css1 i).length=Γ.X.sz T:=fun i hi=>(p1 i _ (List.getElem?_eq_getElem hi)).length hX
 have cl2:∀ i,i < v2.l.length→(css2 i).length=Γ.X.sz T:=fun i hi=>(p2 i _ (List.getElem?_eq_getElem hi)).length hX
 have hnl:(cat css2 v2.l.length).length=v2.l.length*i.size:=by rw [hsize];exact cat_length cl2
 have hol:(cat css1 v1.l.length).length=v1.l.length*i.size:=by rw [hsize];exact cat_length cl1
 have holds:cat css1 v1.l.length ≠ []→∃ blk o,base=some ⟨blk,o,none⟩∧∀ (j:Nat) u,(cat css1 v1.l.length)[j]?=some u→w.cell? ⟨blk,o+j,none⟩=some u:=fun hne=>by
  have hv1ne:v1.l ≠ []:=fun hn=>hne (by rw [hn];rfl)
  rcases alt with ⟨_,_,q⟩ | ⟨blk,cells,ty,q1,_,q2,_,_,q3⟩
  ·obtain ⟨_,blk,o',q1,_,q3⟩:=q hv1ne
   refine ⟨blk,o',q1,fun j u hj=>?_⟩
   obtain ⟨i',r,r1,r2,r3⟩:=cat_at cl1 hj
   rw [r2,←Nat.add_assoc]
   exact q3 i' r u r1 r3
  ·refine ⟨blk,0,q1,fun j u hj=>?_⟩
   obtain ⟨i',r,r1,r2,r3⟩:=cat_at cl1 hj
   rw [Nat.zero_add,cell_of q2,r2]
   exact q3 i' r u r1 r3
 have hp:∀ (k:Nat) xx,lr.l[k]?=some xx→PRep w F T xx (if k < v1.l.length then css1 k else css2 (k - v1.l.length)):=fun k xx hk=>by
  rw [hll] at hk
  by_cases hkl:k < v1.l.length
  ·rw [List.getElem?_append_left hkl] at hk
   rw [if_pos hkl];exact p1 k xx hk
  ·rw [List.getElem?_append_right (by omega)] at hk
   rw [if_neg hkl];exact p2 _ xx hk
 have fin:∀ {S2:Nat→List Nat} {v':Value} {w':World} {R':List Nat},(execOp a.eval o).run P w=.ok (.value v') w'→EnvRel N F0 B U w0 F S2 (applyU e u) a w'→
   Hand B U F S2 (applyU e u) a w' (.val (.slice b T) lr (.yes g)) v' R'→o.wp P a w next Q:=fun {S2 v' w' R'} hr q1 q2=>by
  unfold Oper.wp
  rw [hr]
  refine hnext _ _ ?_
  have:=q1.out hd hg q2 rfl
  rw [applyU_append]
  exact this
 by_cases hfit:v1.l.length+v2.l.length≤cap
 ·rcases alt with ⟨q1,rfl,q2⟩ | ⟨blk,cells,ty,rfl,rfl,q3,q4,q5,q6⟩
  ·
   have hv2n:v2.l=[]:=List.eq_nil_of_length_eq_zero (by omega)
   have hv1n:v1.l=[]:=by
    rcases k3 with ⟨_,hz1 | hz1⟩ | ⟨g',rfl⟩
    ·rw [hz1,hv2n] at hone;simp [hasOne] at hone
    ·exact hz1
    ·by_cases hne:v1.l=[]
     ·exact hne
     ·have:=(q2 hne).1;cases this
   have hr:=hroomR base cap w u1 hfit (fun a' _=>by rw [hv2n];simp [cat,storeCells]) (fun _=>rfl)
   refine fin hr k1 ⟨.u (.val (.slice b T) lr (.yes g) _ [_] [] ?_ (by unfold valOk;rw [if_neg (by simp [aggB])])),trivial,List.nodup_nil,by simp,by simp⟩
   rw [hv1n] at q1
   rw [q1,hv1n,hv2n]
   exact .ownNil b T lr g base (by rw [hll,hv1n,hv2n];rfl)
  ·
   have hk1:=k4 blk (by simp)
   have hk2:=k5 blk (by simp)
   generalize hnc:(cells.toList.take (v1.l.length*Γ.X.sz T)++cat css2 v2.l.length++cells.toList.drop (v1.l.length*Γ.X.sz T+(cat css2 v2.l.length).length)).toArray=nc
   have hnl':(cat css2 v2.l.length).length=v2.l.length*Γ.X.sz T:=by rw [hnl,hsize]
   have hcapm:(v1.l.length+v2.l.length)*Γ.X.sz T≤cap*Γ.X.sz T:=Nat.mul_le_mul_right _ hfit
   rw [Nat.add_mul] at hcapm
   have hncs:nc.size=cells.size:=by rw [←hnc];simp;omega
   have hin:∀ (j:Nat) u,(cat css2 v2.l.length)[j]?=some u→nc[v1.l.length*Γ.X.sz T+j]?=some u:=fun j u hj=>by
    have hjl:j < (cat css2 v2.l.length).length:=(List.getElem?_eq_some_iff.1 hj).1
    rw [←hnc,List.getElem?_toArray,List.append_assoc,List.getElem?_append_right (by simp;omega),List.getElem?_append_left (by simp;omega)]
    rw [←hj];congr 1;simp;omega
   have hout:∀ j,j < v1.l.length*Γ.X.sz T→nc[j]?=cells[j]?:=fun j hj=>by
    rw [←hnc,List.getElem?_toArray,List.append_assoc,List.getElem?_append_left (by simp;omega),List.getElem?_take_of_lt hj,Array.getElem?_toList]
   have hst:=run_storeCells_at P blk (v1.l.length*Γ.X.sz T) ty (cat css2 v2.l.length) 0 cells w q3 (by simp only [Nat.add_zero];omega) (cat_mem fun i hi c hc=>(p2 i _ (List.getElem?_eq_getElem hi)).one c hc)
   simp only [Nat.add_zero] at hst
   rw [hnc] at hst
   have hr:=hroomR (some ⟨blk,0,none⟩) cap (w.setRow blk nc) u1 hfit
    (fun a' ha'=>by cases ha';rw [hsize];simpa [addr_add] using hst) (fun h=>by cases h)
   have hF':∀ b',F b'→(w.setRow blk nc).heap[b']?=w.heap[b']?:=fun b' hb'=>row_other fun he=>hk1.2.2 (he ▸ hb')
   have hS':∀ t,∀ b'∈S1 t,(w.setRow blk nc).heap[b']?=w.heap[b']?:=fun t b' hb'=>row_other fun he=>hk2 t (he ▸ hb')
   have henv:=k1.world (w':=w.setRow blk nc) (F':=F) (fun _ h=>h) hF' hS' (belowP_setRow hk1.1 w nc) fun b' hb'=>.inl hb'
   refine fin (R':=[blk]) hr henv ⟨.u (.val (.slice b T) lr (.yes g) _ [_] [blk] ?_ (by unfold valOk;rw [if_neg (by simp [aggB])])),trivial,by simp,fun b' hb'=>?_,fun b' hb'=>?_⟩
   ·rw [←hlen]
    refine .own b T lr g blk cap nc ty (fun k=>if k < v1.l.length then css1 k else css2 (k - v1.l.length)) (setRow_heap w blk cells nc ty (0,0) q3) (by rw [hncs,q4]) (by omega) q5 (fun k j u hk hj=>?_) fun k xx hk=>(hp k xx hk).mono (fun _ h=>h) hF'
    by_cases hkl:k < v1.l.length
    ·rw [if_pos hkl] at hj
     have hjl:j < Γ.X.sz T:=by rw [←cl1 k hkl];exact (List.getElem?_eq_some_iff.1 hj).1
     have hk3:(k+1)*Γ.X.sz T≤v1.l.length*Γ.X.sz T:=Nat.mul_le_mul_right _ hkl
     rw [Nat.succ_mul] at hk3
     rw [hout _ (by omega)]
     exact q6 k j u hkl hj
    ·rw [if_neg hkl] at hj
     have hk2':k - v1.l.length < v2.l.length:=by omega
     have hjl:j < Γ.X.sz T:=by rw [←cl2 _ hk2'];exact (List.getElem?_eq_some_iff.1 hj).1
     have hg2:=cat_get (f:=css2) (n:=v2.l.length) (m:=Γ.X.sz T) cl2 hk2' hjl
     rw [hj] at hg2
     have:=hin _ _ hg2
     rw [←this];congr 1
     rw [Nat.sub_mul]
     have:v1.l.length*Γ.X.sz T≤k*Γ.X.sz T:=Nat.mul_le_mul_right _ (by omega)
     omega
   ·simp at hb';subst hb';exact ⟨hk1.1,by simpa using hk1.2.1,hk1.2.2⟩
   ·simp at hb';subst hb';exact hk2
 ·
  have hneed:cap < v1.l.length+v2.l.length:=by omega
  have hb47:(v1.l.length+v2.l.length)*i.bytes≤140737488355328:=by rw [hbytes];exact hroom.1
  have h63:v1.l.length+v2.l.length≤maxLen:=maxLen_room hroom.2
  have hr:=hgrowR base cap _ u1 hol holds hneed (growslice_fits hneed hb47)
  have hge:=grownCap_ge w (v1.l.length+v2.l.length) cap el
  have hcm:=grownCap_le_maxLen w (v1.l.length+v2.l.length) cap el h63
  generalize grownCap w (v1.l.length+v2.l.length) cap el=nc at hr hge hcm
  have hnl':(cat css2 v2.l.length).length=v2.l.length*Γ.X.sz T:=by rw [hnl,hsize]
  have hol':(cat css1 v1.l.length).length=v1.l.length*Γ.X.sz T:=by rw [hol,hsize]
  obtain ⟨g1,g2⟩:=k1.newRow' (w1:=w.drew) (b:=b) (t:=T) (l:=lr) (cells:=(cat css1 v1.l.length).toArray++(cat css2 v2.l.length).toArray++Builtin.zeroCells z.cells (nc - (v1.l.length+v2.l.length))) (ty:=el) (cap:=nc)
   (css:=fun k=>if k < v1.l.length then css1 k else css2 (k - v1.l.length)) g ⟨rfl,rfl,rfl,rfl⟩
   (by
    simp only [Array.size_append,List.size_toArray,size_zeroCells,hzl,hnl',hol',←Nat.add_mul]
    congr 1;omega) (by omega) hcm
   (fun k j u hk hj=>by
    rw [←Array.getElem?_toList]
    simp only [Array.toList_append]
    by_cases hkl:k < v1.l.length
    ·rw [if_pos hkl] at hj
     have hjl:j < Γ.X.sz T:=by rw [←cl1 k hkl];exact (List.getElem?_eq_some_iff.1 hj).1
     have hk3:(k+1)*Γ.X.sz T≤v1.l.length*Γ.X.sz T:=Nat.mul_le_mul_right _ hkl
     rw [Nat.succ_mul] at hk3
     rw [List.append_assoc,List.getElem?_append_left (by omega),cat_get cl1 hkl hjl]
     exact hj
    ·rw [if_neg hkl] at hj
     have hk2':k - v1.l.length < v2.l.length:=by omega
     have hjl:j < Γ.X.sz T:=by rw [←cl2 _ hk2'];exact (List.getElem?_eq_some_iff.1 hj).1
     have hg2:=cat_get (f:=css2) (n:=v2.l.length) (m:=Γ.X.sz T) cl2 hk2' hjl
     rw [hj] at hg2
     have hle:v1.l.length*Γ.X.sz T≤k*Γ.X.sz T:=Nat.mul_le_mul_right _ (by omega)
     have hk3:(k - v1.l.length+1)*Γ.X.sz T≤v2.l.length*Γ.X.sz T:=Nat.mul_le_mul_right _ hk2'
     rw [Nat.succ_mul,Nat.sub_mul] at hk3
     rw [Nat.sub_mul] at hg2
     rw [List.append_assoc,List.getElem?_append_right (by omega),List.getElem?_append_left (by omega),←hg2]
     congr 1;omega)
   hp
  rw [hlen] at g2
  exact fin hr g1 g2
theorem step_append {c:Call} {t t2 el el2:TypeId} {b:Nat} {T:Γ.X.Ty} {ts:List TypeId} {x y:AX Γ.X} (ho:o.op=.call c) (hc:c.callee=.builtin .append) (hty:c.argTypes.toList=[t,t2]) (hx:argsC Γ K ts c.args.toList=some [x,y])
  (ht:P.underlying t=some (.slice el)) (ht2:P.underlying t2=some (.slice el2)) (hel:tyC P Γ el=some T) (hby:bytesO P el=some b) (hz:zeroOk P Γ el T=true) (hs:eff ans g e o.dst (.append b T x y)=some us):o.wp P a w next Q:=by
 obtain ⟨l1,h2⟩:=argsC_spec hx
 obtain ⟨TY,Y,hY,hcY⟩:=h2 0 x rfl
 obtain ⟨TZ,Z,hZ,hcZ⟩:=h2 1 y rfl
 have hargs:c.args=#[Y,Z]:=by
  rw [←Array.toList_inj]
  generalize c.args.toList=L at l1 hY hZ
  match L,l1,hY,hZ with
  | [_,_],_,hY,hZ=>simp at hY hZ;rw [hY,hZ]
 have hat:c.argTypes=#[t,t2]:=by rw [←Array.toList_inj,hty]
 obtain ⟨i,z,hi,hzz,hzp⟩:=zeroOk_some hX hz w F
 have hsize:i.size=Γ.X.sz T:=by
  have:=(tyC_some hel).2.1
  unfold sizeO at this
  rw [hi] at this
  simpa using this
 have hbytes:i.bytes=b:=by
  unfold bytesO at hby
  rw [hi] at hby
  simpa using hby
 have hzl:z.cells.size=Γ.X.sz T:=by simpa using hzp.length hX
 simp only [eff] at hs
 split at hs
 ·rename_i b1 t1 v1 u zf hgr
  split at hs
  ·rename_i v1' b2 t2' v2 hv1 hsl
   split at hs
   ·rename_i v2' hv2
    split at hs
    ·rename_i hone
     obtain ⟨lr,hlr,hs⟩:=Option.bind_eq_some_iff.1 hs
     cases hs
     obtain ⟨he1,hv1⟩:=castT_some hv1
     cases he1
     simp only at hv1;subst hv1
     obtain ⟨he2,hv2⟩:=castT_some hv2
     cases he2
     simp only at hv2;subst hv2
     obtain ⟨ad2,cap2,css2,u2,c2,a2,p2⟩:=h.rdSl hX hcZ hsl
     have hll:=app_l hlr
     have hlen:lr.l.length=v1.l.length+v2.l.length:=by rw [hll,List.length_append]
     have hroom:=lr.h
     rw [hlen] at hroom
     have h63:v1.l.length+v2.l.length≤maxLen:=maxLen_room hroom.2
     have cl2:∀ i,i < v2.l.length→(css2 i).length=Γ.X.sz T:=fun i hi=>(p2 i _ (List.getElem?_eq_getElem hi)).length hX
     have hnl:(cat css2 v2.l.length).length=v2.l.length*i.size:=by rw [hsize];exact cat_length cl2
     have hnews:cat css2 v2.l.length ≠ []→∃ blk o,ad2=some ⟨blk,o,none⟩∧∀ (j:Nat) u,(cat css2 v2.l.length)[j]?=some u→w.cell? ⟨blk,o+j,none⟩=some u:=fun hne=>by
      have hv2ne:v2.l ≠ []:=fun hn=>hne (by rw [hn];rfl)
      obtain ⟨blk,o',q1,_,q3⟩:=a2 hv2ne
      refine ⟨blk,o',q1,fun j u hj=>?_⟩
      obtain ⟨i',r,r1,r2,r3⟩:=cat_at cl2 hj
      rw [r2,←Nat.add_assoc]
      exact q3 i' r u r1 r3
     have run:∀ v' w',(Builtin.append_ #[t,t2] o.type #[a.eval Y,a.eval Z]).run P w=.ok v' w'→(execOp a.eval o).run P w=.ok (.value v') w':=fun v' w' hr=>by
      simp only [execOp,ho,resolve,hc,hargs,hat]
      simp [invoke,builtin,hr]
     refine step_app_core hX h hg hd hnext (el:=el) (z:=z) hcY hsize hbytes hzl hgr hone hlr p2 (fun base cap w' u1 hfit hst hb=>?_) (fun base cap olds u1 hol holds hneed hfits=>?_) rfl
     ·have hr:=run_append_room' (P:=P) (w:=w) (ty:=o.type) (base:=base) (sLen:=v1.l.length) (sCap:=cap) (ad:=ad2) (c:=cap2) ht ht2 hi hnl hnews hfit (w':=w') hst hb
      rw [←u1,←u2] at hr
      exact run _ _ hr
     ·have hr:=run_append_grow' (P:=P) (w:=w) (ty:=o.type) (base:=base) (sLen:=v1.l.length) (sCap:=cap) (ad:=ad2) (c:=cap2) ht ht2 hi hzz hol holds hnl hnews hneed (by unfold maxLen at h63;omega) hfits
      rw [←u1,←u2] at hr
      exact run _ _ hr
    ·
     rename_i hone
     cases hs
     obtain ⟨he1,hv1⟩:=castT_some hv1
     cases he1
     simp only at hv1;subst hv1
     obtain ⟨he2,hv2⟩:=castT_some hv2
     cases he2
     simp only at hv2;subst hv2
     have hzt:zf=true∧hasOne v2.l=false:=by cases zf<;>cases hq:hasOne v2.l<;>simp_all
     obtain ⟨rfl,hv2h⟩:=hzt
     have hv2n:v2.l=[]:=by
      generalize v2.l=L at hv2h
      cases L with
      | nil=>rfl
      | cons _ _=>simp [hasOne] at hv2h
     obtain ⟨rfl,s,hxs,hes⟩:=grab_true hgr
     have hev:a.eval Y=a.tmps.getD s Go.undef:=by
      rcases hxs with rfl | rfl
      ·have:=compX_slot (.inl hcY);subst this;rfl
      ·have:=compX_slot (.inr hcY);subst this;rfl
     obtain ⟨ad2,cap2,css2,u2,c2,a2,p2⟩:=h.rdSl hX hcZ hsl
     obtain ⟨cs,k1,k2⟩:=h.valAt hes
     obtain ⟨k3,hS⟩:=k1.toPure rfl
     obtain ⟨ad,hcs⟩:=full_inv k1
     unfold valOk at k2;rw [if_neg (by simp [aggB])] at k2
     rw [hcs] at k2
     have u1:a.eval Y=.slice ad v1.l.length v1.l.length:=by rw [hev];exact (List.cons.inj k2).1.symm
     have hr:=run_append_room' (P:=P) (w:=w) (ty:=o.type) (base:=ad) (sLen:=v1.l.length) (sCap:=v1.l.length) (ad:=ad2) (m:=v2.l.length) (c:=cap2) (news:=[]) ht ht2 hi (by rw [hv2n];simp) (fun hne=>absurd rfl hne) (by rw [hv2n];simp) (w':=w) (fun a' _=>by simp [storeCells]) (fun _=>rfl)
     rw [←u1,←u2] at hr
     unfold Oper.wp
     have run:(execOp a.eval o).run P w=.ok (.value (.slice ad (v1.l.length+v2.l.length) v1.l.length)) w:=by
      simp only [execOp,ho,resolve,hc,hargs,hat]
      simp [invoke,builtin,hr]
     rw [run]
     refine hnext _ _ ?_
     rw [hv2n,List.length_nil,Nat.add_zero]
     rw [hcs,hS] at k1
     exact h.outV hd hg rfl k1 (by unfold valOk;rw [if_neg (by simp [aggB])])
   ·cases hs
  ·cases hs
 ·cases hs
end steps
end
end
end Go.A2
namespace Go.A2
section
variable {P:Program} {Γ:Cx}
theorem foldl_lay (off:Nat):∀ (l:List Value) (k:Nat) (cells:Array Value),off+k+l.length≤cells.size→
  ((l.zipIdx k).foldl (fun cs (q:Value×Nat)=>cs.setIfInBounds (off+q.2) q.1) cells).toList=cells.toList.take (off+k)++l++cells.toList.drop (off+k+l.length)
 | [],k,cells,_=>by simp
 | v :: l,k,cells,h=>by
  simp only [List.zipIdx_cons,List.foldl_cons]
  simp only [List.length_cons] at h
  rw [foldl_lay off l (k+1) _ (by simp;omega)]
  have:=list_seg_step cells.toList (off+k) v l (by simp;omega)
  simpa [Array.toList_setIfInBounds,Nat.add_assoc] using this
def PartOk (w:World) (F:Nat→Prop) (p:Nat×(T:Γ.X.Ty)×Γ.X.den T×Own) (q:Nat×Value) (R:List Nat):Prop:=
 q.1=p.1∧∃ cs,VRep w F p.2.1 p.2.2.1 p.2.2.2 cs R∧valOk p.2.1 cs q.2
inductive PartsOk (w:World) (F:Nat→Prop):List (Nat×(T:Γ.X.Ty)×Γ.X.den T×Own)→List (Nat×Value)→List (List Nat)→Prop where
 | nil:PartsOk w F [] [] []
 | cons {p q R ps qs Rs} (h:PartOk w F p q R) (hs:PartsOk w F ps qs Rs):PartsOk w F (p :: ps) (q :: qs) (R :: Rs)
theorem fill_gen {w:World} {F:Nat→Prop} {α:Type} (Rep:α→List Value→List Nat→Prop) (place:Nat→Option (Nat×Nat)) (step:α→(Nat×(T:Γ.X.Ty)×Γ.X.den T×Own)→Option α)
  (hstep:∀ x y p q R R0 cells,Rep x cells R0→step x p=some y→PartOk w F p q R→R0.Nodup→R.Nodup→(∀ b∈R0,b ∉ R)→
   ∃ off cs,place p.1=some (off,cs.length)∧q.2.cells=cs.toArray∧off+cs.length≤cells.length∧∃ R1,Rep y (cells.take off++cs++cells.drop (off+cs.length)) R1∧R1.Nodup∧∀ b∈R1,b∈R0∨b∈R):
  ∀ {ps qs Rs} (_:PartsOk (Γ:=Γ) w F ps qs Rs) (x z:α) (cells:Array Value) (R0:List Nat),Rep x cells.toList R0→ps.foldlM step x=some z→R0.Nodup→Rs.flatten.Nodup→(∀ b∈R0,b ∉ Rs.flatten)→
   ∃ cells' R',Instr.fill place cells qs=some cells'∧Rep z cells'.toList R'∧R'.Nodup∧cells'.size=cells.size∧∀ b∈R',b∈R0∨b∈Rs.flatten
 | _,_,_,.nil,x,z,cells,R0,hr,hf,hn,_,_=>by
  simp at hf;subst hf
  exact ⟨cells,R0,rfl,hr,hn,rfl,fun b hb=>.inl hb⟩
 | _,_,_,.cons (p:=p) (q:=q) (R:=R) (ps:=ps) (qs:=qs) (Rs:=Rs) hp hps,x,z,cells,R0,hr,hf,hn,hnR,hap=>by
  simp only [List.foldlM_cons] at hf
  obtain ⟨y,hy,hf⟩:=Option.bind_eq_some_iff.1 hf
  rw [List.flatten_cons] at hnR
  obtain ⟨n1,n2,n3⟩:=List.nodup_append.1 hnR
  obtain ⟨off,cs,h1,h2,h3,R1,h4,h5,h6⟩:=hstep x y p q R R0 cells.toList hr hy hp hn n1 fun b hb hbR=>hap b hb (by simp [hbR])
  have hfold:(q.2.cells.zipIdx.foldl (fun cs (q:Value×Nat)=>cs.setIfInBounds (off+q.2) q.1) cells).toList=cells.toList.take off++cs++cells.toList.drop (off+cs.length):=by
   have:=foldl_lay off q.2.cells.toList 0 cells (by rw [h2];simpa using h3)
   rw [←Array.foldl_toList,Array.toList_zipIdx,this,h2]
   simp
  rw [←hfold] at h4
  obtain ⟨cells',R',g1,g2,g3,g4,g5⟩:=fill_gen Rep place step hstep hps y z _ R1 h4 hf h5 n2 fun b hb hb2=>by
   rcases h6 b hb with hb' | hb'
   ·exact hap b hb' (by simp [hb2])
   ·exact n3 b hb' b hb2 rfl
  refine ⟨cells',R',?_,g2,g3,?_,fun b hb=>?_⟩
  ·unfold Instr.fill
   obtain ⟨q1,q2⟩:=q
   obtain ⟨hq,_⟩:=hp
   simp only at hq h2 g1 ⊢
   subst hq
   have hsz:q2.cells.size=cs.length:=by rw [h2];simp
   rw [h1]
   simp only [hsz,ne_eq,not_true_eq_false]
   rw [if_neg (by simp at h3 ⊢;omega)]
   exact g1
  ·rw [g4,←Array.length_toList,hfold]
   simp at h3 ⊢;omega
  ·rcases g5 b hb with hb | hb
   ·rcases h6 b hb with hb | hb
    ·exact .inl hb
    ·exact .inr (by simp [hb])
   ·exact .inr (by simp [hb])
def ERep (w:World) (F:Nat→Prop) (t:Γ.X.Ty) (n:Nat) (l:List (Γ.X.den t)) (cells:List Value) (R:List Nat):Prop:=
 l.length=n∧R=[]∧∃ css,cells=cat css n∧∀ (j:Nat) x,l[j]?=some x→PRep w F t x (css j)
def eStep (t:Γ.X.Ty) (l:List (Γ.X.den t)) (p:Nat×(T:Γ.X.Ty)×Γ.X.den T×Own):Option (List (Γ.X.den t)):=
 match castT p.2.2.1 t with
 | some y=>if p.1 < l.length∧p.2.2.2.pure=true then some (l.set p.1 y) else none
 | none=>none
theorem eStep_fold {t:Γ.X.Ty}:∀ {vs:List (Nat×(T:Γ.X.Ty)×Γ.X.den T×Own)} {l l':List (Γ.X.den t)},setElems l (partsV vs)=some l'→partsPure vs=true→vs.foldlM (eStep t) l=some l'
 | [],l,l',h,_=>by simp [partsV,setElems] at h;subst h;rfl
 | (j,⟨T,v,o⟩) :: vs,l,l',h,hp=>by
  simp only [partsV,List.map_cons,setElems] at h
  simp only [partsPure,List.all_cons,Bool.and_eq_true] at hp
  split at h
  ·rename_i y hy
   split at h
   ·rename_i hj
    simp only [List.foldlM_cons]
    have:eStep t l (j,⟨T,v,o⟩)=some (l.set j y):=by
     simp only [eStep,hy]
     rw [if_pos ⟨hj,hp.1⟩]
    rw [this]
    exact eStep_fold h hp.2
   ·cases h
  ·cases h
theorem fill_elems (hX:TabOk Γ.X) {w:World} {F:Nat→Prop} {t:Γ.X.Ty} {n:Nat} {ps qs Rs} (hp:PartsOk (Γ:=Γ) w F ps qs Rs) {l l':List (Γ.X.den t)} (hs:setElems l (partsV ps)=some l') (hpu:partsPure ps=true) {cells:Array Value}
  (hr:ERep w F t n l cells.toList []) (hn:Rs.flatten.Nodup):∃ cells',Instr.fill (fun i=>some (i*Γ.X.sz t,Γ.X.sz t)) cells qs=some cells'∧ERep w F t n l' cells'.toList []∧cells'.size=cells.size:=by
 obtain ⟨cells',R',g1,g2,g3,g4,g5⟩:=fill_gen (Γ:=Γ) (w:=w) (F:=F) (ERep w F t n) (fun i=>some (i*Γ.X.sz t,Γ.X.sz t)) (eStep t)
  (fun x y p q R R0 cells hrep hst hpo _ _ _=>by
   obtain ⟨j,T,v,o⟩:=p
   obtain ⟨hl,rfl,css,hc,hpr⟩:=hrep
   obtain ⟨_,cs,hv,hu⟩:=hpo
   simp only [eStep] at hst hv hu
   split at hst
   ·rename_i y' hy
    obtain ⟨rfl,hy⟩:=castT_some hy
    simp only at hy;subst hy
    split at hst
    ·rename_i hc2
     obtain ⟨hj,hpure⟩:=hc2
     cases hst
     obtain ⟨hvp,rfl⟩:=hv.toPure hpure
     have hlv:=hvp.length hX
     have hjn:j < n:=by omega
     obtain ⟨r,r1,r2⟩:=cat_split css hjn
     have hcl:∀ k,k < n→(css k).length=Γ.X.sz T:=fun k hk=>(hpr k _ (List.getElem?_eq_getElem (by omega))).length hX
     have hcj:(cat css j).length=j*Γ.X.sz T:=cat_length fun k hk=>hcl k (by omega)
     refine ⟨j*Γ.X.sz T,cs,by simp [hlv],valOk_cells' hu hvp.one,?_,[],⟨by simpa using hl,rfl,fun k=>if k=j then cs else css k,?_,fun k xx hk=>?_⟩,List.nodup_nil,by simp⟩
     ·rw [hc,r1,←hcj];simp [hlv,hcl j hjn]
     ·rw [r2 (fun k=>if k=j then cs else css k) (fun k hk=>by simp [show k ≠ j by omega]),hc,r1,←hcj,hlv]
      rw [cat_congr (f:=fun k=>if k=j then cs else css k) (g:=css) (fun k hk=>by simp [show k ≠ j by omega]),←hcl j hjn]
      simp
     ·by_cases hkj:k=j
      ·subst hkj
       rw [List.getElem?_set_self hj] at hk
       cases hk
       simpa using hvp
      ·rw [List.getElem?_set_ne (Ne.symm hkj)] at hk
       simpa [hkj] using hpr k xx hk
    ·cases hst
   ·cases hst)
  hp l l' cells [] hr (eStep_fold hs hpu) List.nodup_nil hn (by simp)
 obtain ⟨q1,rfl,q2⟩:=g2
 exact ⟨cells',g1,⟨q1,rfl,q2⟩,g4⟩
theorem cat_const {cs:List Value} {sz:Nat} (hs:cs.length=sz) (n:Nat):(madeCells cs.toArray (n*sz)).toList=cat (fun _=>cs) n:=by
 subst hs
 apply List.ext_getElem?
 intro j
 rw [Array.getElem?_toList]
 by_cases hj:j < n*cs.length
 ·have hpos:0 < cs.length:=by
   rcases Nat.eq_zero_or_pos cs.length with h | h;· rw [h] at hj;omega
   ·exact h
  have h1:j / cs.length < n:=Nat.div_lt_of_lt_mul (by rw [Nat.mul_comm];exact hj)
  have h2:j % cs.length < cs.length:=Nat.mod_lt _ hpos
  have h3:j=j / cs.length*cs.length+j % cs.length:=by rw [Nat.mul_comm];exact (Nat.div_add_mod j cs.length).symm
  have e1:=made_get (z:=cs.toArray) (n:=n) (i:=j / cs.length) (j:=j % cs.length) h1 (by simpa using h2)
  have e2:=cat_get (f:=fun _=>cs) (n:=n) (m:=cs.length) (fun _ _=>rfl) h1 h2
  simp only [List.size_toArray] at e1
  rw [←h3] at e1 e2
  rw [e1,e2,List.getElem?_toArray]
 ·rw [Array.getElem?_eq_none (by rw [size_madeCells];omega),List.getElem?_eq_none (by rw [cat_length (m:=cs.length) fun _ _=>rfl];omega)]
theorem appZ_op {el:TypeId} {b:Nat} {T:Γ.X.Ty} {x y:AX Γ.X} {op:AOp Γ.X} (h:appZ P Γ el b T x y=some op):∃ z,op=.append b T x z:=by
 unfold appZ at h
 split at h
 ·split at h
  ·split at h
   ·cases h;exact ⟨_,rfl⟩
   ·cases h
  ·cases h
 ·cases h
theorem viewA_op {n:Nat} {el:TypeId} {x:AX Γ.X} {lo hi:Option (AX Γ.X)} {A:Option Γ.X.Ty} {op:AOp Γ.X} (h:viewA P Γ n el x lo hi A=some op):∃ b T,op=.arrS b n T x lo hi:=by
 unfold viewA at h
 split at h
 ·split at h
  ·cases h;exact ⟨_,_,rfl⟩
  ·cases h
 ·cases h
theorem wrap_natZ {n:Nat} (h:(n:Int)≤9223372036854775807):IntKind.i64.wrap (n:Int)=n:=by
 have:IntKind.i64.wrap (n:Int)=((n:Int)+9223372036854775808) % 18446744073709551616 - 9223372036854775808:=by
  simp [IntKind.wrap,IntKind.bits,IntKind.signed];split<;>omega
 omega
theorem zeroCells_cat (z:Value) (n:Nat):(Builtin.zeroCells z.cells n).toList=cat (fun _=>z.cells.toList) n:=by
 have:=cat_const (cs:=z.cells.toList) (sz:=z.cells.size) (by simp) n
 rw [←this]
 rfl
theorem run_append_roomZ {w:World} {t t2 ty el:TypeId} {i:TypeInfo} {z:Value} {k k':IntKind} (ht:P.underlying t=some (.slice el)) (ht2:P.underlying t2=some (.int k)) (hi:P.info? el=some i) (hz:i.zero=some z) (hzl:z.cells.size=i.size) {base:Option Addr} {sLen sCap n:Nat}
  (h63:(n:Int)≤9223372036854775807) (h48:n*i.bytes≤281474976710656) (hroom:sLen+n≤sCap) {w':World} (hst:∀ a,base=some a→(storeCells (a.add (sLen*i.size)) (cat (fun _=>z.cells.toList) n)).run P w=.ok () w') (hb:base=none→w'=w):
  (Builtin.append_ #[t,t2] ty #[.slice base sLen sCap,.int k' n]).run P w=.ok (.slice base (sLen+n) sCap) w':=by
 have hw:IntKind.i64.wrap (n:Int)=n:=wrap_natZ (by omega)
 have h0:¬ ((n:Int) < 0):=by omega
 have h1:¬ (281474976710656 < (n:Int)*(i.bytes:Int)):=by
  have:((n*i.bytes:Nat):Int)=(n:Int)*(i.bytes:Int):=by simp
  omega
 have hcat:=zeroCells_cat z n
 by_cases hn:n*i.size=0
 ·have hnil:cat (fun _=>z.cells.toList) n=[]:=by
   rw [←hcat,Array.toList_eq_nil_iff,←Array.size_eq_zero_iff,size_zeroCells,hzl];exact hn
  rw [hnil] at hst
  cases base with
  | none=>rw [hb rfl];simp [Builtin.append_,run_underlying ht,run_underlying ht2,sizeOf,typeInfo,hi,asInt,asIntOf,hw,h0,h1,hn,hroom]
  | some a=>simp [Builtin.append_,run_underlying ht,run_underlying ht2,sizeOf,typeInfo,hi,asInt,asIntOf,hw,h0,h1,hn,hroom,hst a rfl]
 ·rw [←hcat] at hst
  cases base with
  | none=>rw [hb rfl];simp [Builtin.append_,run_underlying ht,run_underlying ht2,sizeOf,typeInfo,zeroValue,hi,hz,asInt,asIntOf,hw,h0,h1,hn,hroom]
  | some a=>simp [Builtin.append_,run_underlying ht,run_underlying ht2,sizeOf,typeInfo,zeroValue,hi,hz,asInt,asIntOf,hw,h0,h1,hn,hroom,hst a rfl]
theorem run_append_growZ {w:World} {t t2 ty el:TypeId} {i:TypeInfo} {z:Value} {k k':IntKind} (ht:P.underlying t=some (.slice el)) (ht2:P.underlying t2=some (.int k)) (hi:P.info? el=some i) (hz:i.zero=some z) (hzl:z.cells.size=i.size) {base:Option Addr} {sLen sCap n:Nat} {olds:List Value}
  (hlo:olds.length=sLen*i.size) (ho:olds ≠ []→∃ blk o,base=some ⟨blk,o,none⟩∧∀ (j:Nat) u,olds[j]?=some u→w.cell? ⟨blk,o+j,none⟩=some u)
  (hg:sCap < sLen+n) (h63:((sLen+n:Nat):Int)≤9223372036854775807) (h48:n*i.bytes≤281474976710656) (hfit:Builtin.nextslicecap (sLen+n) sCap*i.bytes≤281474976710656):
  (Builtin.append_ #[t,t2] ty #[.slice base sLen sCap,.int k' n]).run P w =
   .ok (.slice (some ⟨w.heap.size,0,none⟩) (sLen+n) (grownCap w (sLen+n) sCap el))
    (w.drew.alloc (.cells (olds.toArray++(cat (fun _=>z.cells.toList) n).toArray++Builtin.zeroCells z.cells (grownCap w (sLen+n) sCap el - (sLen+n))) el)):=by
 have hw:IntKind.i64.wrap (n:Int)=n:=wrap_natZ (by omega)
 have h0:¬ ((n:Int) < 0):=by omega
 have h1:¬ (281474976710656 < (n:Int)*(i.bytes:Int)):=by
  have:((n*i.bytes:Nat):Int)=(n:Int)*(i.bytes:Int):=by simp
  omega
 have hnn:¬ (sLen+n≤sCap):=by omega
 have h63':¬ (9223372036854775807 < ((sLen:Int)+(n:Int))):=by omega
 have h48':¬ (281474976710656 < Builtin.nextslicecap (sLen+n) sCap*i.bytes):=by omega
 have hfo:=firstCells' (P:=P) (w:=w.drew) (size:=i.size) (m:=sLen) (c:=sCap) hlo (by simpa using ho)
 have hcat:=zeroCells_cat z n
 by_cases hn:n*i.size=0
 ·have hnil:cat (fun _=>z.cells.toList) n=[]:=by
   rw [←hcat,Array.toList_eq_nil_iff,←Array.size_eq_zero_iff,size_zeroCells,hzl];exact hn
  rw [hnil]
  simp [Builtin.append_,run_underlying ht,run_underlying ht2,sizeOf,typeInfo,zeroValue,hi,hz,asInt,asIntOf,hw,h0,h1,hn,hnn,h63',h48',Question.forced,hfo,newRow,grownCap]
 ·have hz2:(cat (fun _=>z.cells.toList) n).toArray=Builtin.zeroCells z.cells n:=by rw [←hcat]
  rw [hz2]
  simp [Builtin.append_,run_underlying ht,run_underlying ht2,sizeOf,typeInfo,zeroValue,hi,hz,asInt,asIntOf,hw,h0,h1,hn,hnn,h63',h48',Question.forced,hfo,newRow,grownCap]
section
variable {K:List Nat} {N:Slots} {F0 B U:Nat→Prop} {w0:World} {F:Nat→Prop} {S:Nat→List Nat} {e:Env Γ.X} {a:Act} {w:World}
theorem PartsOk.mono {F':Nat→Prop} (hF:∀ b,F b→F' b) {ps qs Rs} (h:PartsOk (Γ:=Γ) w F ps qs Rs):PartsOk (Γ:=Γ) w F' ps qs Rs:=by
 induction h with
 | nil=>exact .nil
 | cons h _ ih=>
  obtain ⟨h1,cs,h2,h3⟩:=h
  exact .cons ⟨h1,cs,h2.mono hF (fun _ _=>rfl) fun _ _=>rfl,h3⟩ ih
theorem EnvRel.takeAll (hX:TabOk Γ.X) {f:Nat→Option Γ.X.Ty}:∀ {Ys:List (Nat×Operand)} {xs:List (Nat×AX Γ.X)} {F:Nat→Prop} {S:Nat→List Nat} {e:Env Γ.X} (_:EnvRel N F0 B U w0 F S e a w) (_:partsC Γ K f Ys=some xs)
  {vs:List (Nat×(T:Γ.X.Ty)×Γ.X.den T×Own)} {us:Ups Γ.X} (_:Go.A2.takeAll e xs=some (vs,us)),
  ∃ F1 S1 Rs,EnvRel N F0 B U w0 F1 S1 (applyU e us) a w∧Less F S F1 S1∧PartsOk w F1 vs (Ys.map fun q=>(q.1,a.eval q.2)) Rs∧Rs.flatten.Nodup∧(∀ b∈Rs.flatten,B b∧b < w.heap.size∧¬ F1 b)∧(∀ b∈Rs.flatten,∀ s,b ∉ S1 s)∧∀ b∈Rs.flatten,∃ s,b∈S s
 | [],xs,F,S,e,h,hp,vs,us,ht=>by
  simp [partsC] at hp;subst hp
  simp [Go.A2.takeAll] at ht
  obtain ⟨rfl,rfl⟩:=ht
  exact ⟨F,S,[],h,.refl _ _,.nil,by simp,by simp,by simp,by simp⟩
 | (j,Y) :: Ys,xs,F,S,e,h,hp,vs,us,ht=>by
  simp only [partsC] at hp
  split at hp
  ·rename_i T hT
   split at hp
   ·rename_i x xs' hx hxs
    simp only [Option.some.injEq] at hp;subst hp
    simp only [Go.A2.takeAll] at ht
    split at ht
    ·rename_i T1 v o u ht1
     split at ht
     ·rename_i vs' us' ht2
      simp only [Option.some.injEq,Prod.mk.injEq] at ht
      obtain ⟨rfl,rfl⟩:=ht
      obtain ⟨F1,S1,cs,R,k1,k2,k3,k4,k5,k6,k7,k8⟩:=h.take hX hx ht1
      obtain ⟨F2,S2,Rs,g1,g2,g3,g4,g5,g6,g7⟩:=EnvRel.takeAll hX k1 hxs ht2
      have hRF:∀ b∈R,¬ F2 b:=fun b hb hf=>by
       rcases g2.from_ b hf with hf | ⟨s,hs⟩
       ·exact (k6 b hb).2.2 hf
       ·exact k7 b hb s hs
      refine ⟨F2,S2,R :: Rs,by rw [applyU_append];exact g1,k2.trans g2,.cons ⟨rfl,cs,k3.mono g2.keeps (fun _ _=>rfl) fun _ _=>rfl,k4⟩ g3,?_,?_,?_,?_⟩
      ·rw [List.flatten_cons]
       refine List.nodup_append.2 ⟨k5,g4,fun b hb c hc hbc=>?_⟩
       subst hbc
       obtain ⟨s,hs⟩:=g7 b hc
       exact k7 b hb s hs
      ·intro b hb
       rw [List.flatten_cons] at hb
       rcases List.mem_append.1 hb with hb | hb
       ·exact ⟨(k6 b hb).1,(k6 b hb).2.1,hRF b hb⟩
       ·exact g5 b hb
      ·intro b hb s hs
       rw [List.flatten_cons] at hb
       rcases List.mem_append.1 hb with hb | hb
       ·exact k7 b hb s (g2.owned s b hs)
       ·exact g6 b hb s hs
      ·intro b hb
       rw [List.flatten_cons] at hb
       rcases List.mem_append.1 hb with hb | hb
       ·exact k8 b hb
       ·obtain ⟨s,hs⟩:=g7 b hb
        exact ⟨s,k2.owned s b hs⟩
     ·cases ht
    ·cases ht
   ·cases hp
  ·cases hp
section steps
variable {T0 T1 T2:Option Γ.X.Ty} {g:Nat} {o:Oper} {us:Ups Γ.X} {ans:Ret Γ.X} (hX:TabOk Γ.X) (h:EnvRel N F0 B U w0 F S e a w) (hg:¬ U g) (hd:∀ k,o.dst=some k→N.ok k)
variable {next:Act→World→Prop} {Q:Exit→Act→World→Prop} (hnext:∀ a' w',Sim N F0 B (withG U g) w0 (applyU e us) a' w'→next a' w')
include hX h hg hd hnext
theorem step_appendZ {c:Call} {t t2 el:TypeId} {b:Nat} {T:Γ.X.Ty} {ts:List TypeId} {x:AX Γ.X} {k:IntKind} {n:W .i64} {l0:Sl b (Γ.X.den T)} (ho:o.op=.call c) (hc:c.callee=.builtin .append) (hty:c.argTypes.toList=[t,t2]) (hx:argsC Γ K ts c.args.toList=some [x,.c (.val (.int .i64) n .no)])
  (ht:P.underlying t=some (.slice el)) (ht2:P.underlying t2=some (.int k)) (hel:tyC P Γ el=some T) (hby:bytesO P el=some b) (hz:zeroOk P Γ el T=true) (hl0:Sl.mk? b (List.replicate n.n.toNat (Γ.X.zero T))=some l0) (hpos:0 < n.n) (hs:eff ans g e o.dst (.append b T x (.c (.val (.slice b T) l0 .no)))=some us):o.wp P a w next Q:=by
 obtain ⟨l1,h2⟩:=argsC_spec hx
 obtain ⟨TY,Y,hY,hcY⟩:=h2 0 x rfl
 obtain ⟨TZ,Z,hZ,hcZ⟩:=h2 1 (.c (.val (.int .i64) n .no)) rfl
 have hargs:c.args=#[Y,Z]:=by
  rw [←Array.toList_inj]
  generalize c.args.toList=L at l1 hY hZ
  match L,l1,hY,hZ with
  | [_,_],_,hY,hZ=>simp at hY hZ;rw [hY,hZ]
 have hat:c.argTypes=#[t,t2]:=by rw [←Array.toList_inj,hty]
 obtain ⟨i,z,hi,hzz,hzp⟩:=zeroOk_some hX hz w F
 have hsize:i.size=Γ.X.sz T:=by
  have:=(tyC_some hel).2.1
  unfold sizeO at this
  rw [hi] at this
  simpa using this
 have hbytes:i.bytes=b:=by
  unfold bytesO at hby
  rw [hi] at hby
  simpa using hby
 have hzl:z.cells.size=Γ.X.sz T:=by simpa using hzp.length hX
 have e2:a.eval Z=.int .i64 n.n:=h.rdInt hX hcZ (o:=.no) rfl
 have hl0l:l0.l=List.replicate n.n.toNat (Γ.X.zero T):=by
  unfold Sl.mk? at hl0
  split at hl0
  ·cases hl0;rfl
  ·cases hl0
 have hlen0:l0.l.length=n.n.toNat:=by rw [hl0l,List.length_replicate]
 have e3:a.eval Z=.int .i64 (l0.l.length:Int):=by rw [e2,hlen0,Int.toNat_of_nonneg (by omega)]
 simp only [eff] at hs
 split at hs
 ·rename_i b1 t1 v1 u zf hgr
  split at hs
  ·rename_i v1' b2 t2' v2 hv1 hsl
   cases hsl
   split at hs
   ·rename_i v2' hv2
    obtain ⟨he1,hv1⟩:=castT_some hv1
    cases he1
    simp only at hv1;subst hv1
    obtain ⟨he2,hv2⟩:=castT_some hv2
    cases he2
    simp only at hv2;subst hv2
    have hone:(!zf || hasOne l0.l)=true:=by
     obtain ⟨m,hm⟩:∃ m,n.n.toNat=m+1:=⟨n.n.toNat - 1,by omega⟩
     rw [hl0l,hm,List.replicate_succ]
     simp [hasOne]
    rw [if_pos hone] at hs
    obtain ⟨lr,hlr,hs⟩:=Option.bind_eq_some_iff.1 hs
    cases hs
    have hll:=app_l hlr
    have hlen:lr.l.length=v1.l.length+l0.l.length:=by rw [hll,List.length_append]
    have hroom:=lr.h
    rw [hlen] at hroom
    have h63:v1.l.length+l0.l.length≤maxLen:=maxLen_room hroom.2
    have h48:l0.l.length*i.bytes≤281474976710656:=by
     have:=l0.h.1
     have hr:room=140737488355328:=by unfold room;rfl
     rw [hbytes];omega
    have run:∀ v' w',(Builtin.append_ #[t,t2] o.type #[a.eval Y,a.eval Z]).run P w=.ok v' w'→(execOp a.eval o).run P w=.ok (.value v') w':=fun v' w' hr=>by
     simp only [execOp,ho,resolve,hc,hargs,hat]
     simp [invoke,builtin,hr]
    refine step_app_core hX h hg hd hnext (el:=el) (z:=z) hcY hsize hbytes hzl hgr hone hlr (css2:=fun _=>z.cells.toList) (fun j xx hj=>?_) (fun base cap w' u1 hfit hst hb=>?_) (fun base cap olds u1 hol holds hneed hfits=>?_) rfl
    ·have:=List.mem_of_getElem? hj
     rw [hl0l] at this
     rw [List.eq_of_mem_replicate this]
     exact hzp
    ·have hr:=run_append_roomZ (P:=P) (w:=w) (ty:=o.type) (k':=.i64) (base:=base) (sLen:=v1.l.length) (sCap:=cap) (n:=l0.l.length) ht ht2 hi hzz (hzl.trans hsize.symm) (by unfold maxLen at h63;omega) h48 hfit hst hb
     rw [←u1,←e3] at hr
     exact run _ _ hr
    ·have hr:=run_append_growZ (P:=P) (w:=w) (ty:=o.type) (k':=.i64) (base:=base) (sLen:=v1.l.length) (sCap:=cap) (n:=l0.l.length) ht ht2 hi hzz (hzl.trans hsize.symm) hol holds hneed (by unfold maxLen at h63;omega) h48 hfits
     rw [←u1,←e3] at hr
     exact run _ _ hr
   ·cases hs
  ·cases hs
 ·cases hs
theorem step_makeSlice {t el:TypeId} {b:Nat} {T:Γ.X.Ty} {Y Z:Operand} {x y:AX Γ.X} (ho:o.op=.makeSlice t Y Z) (hx:compX Γ K T0 Y=some x) (hy:compX Γ K T1 Z=some y)
  (ht:P.underlying t=some (.slice el)) (hel:tyC P Γ el=some T) (hby:bytesO P el=some b) (hz:zeroOk P Γ el T=true) (hs:eff ans g e o.dst (.makeSlice b T x y)=some us):o.wp P a w next Q:=by
 obtain ⟨i,z,hi,hzz,hzp⟩:=zeroOk_some hX hz w F
 have hsize:i.size=Γ.X.sz T:=by
  have:=(tyC_some hel).2.1
  unfold sizeO at this
  rw [hi] at this
  simpa using this
 have hbytes:i.bytes=b:=by
  unfold bytesO at hby
  rw [hi] at hby
  simpa using hby
 have hzl:z.cells.size=Γ.X.sz T:=by simpa using hzp.length hX
 simp only [eff] at hs
 split at hs
 ·rename_i k n on k' m om hn hm
  obtain ⟨l,hl,hs⟩:=Option.bind_eq_some_iff.1 hs
  cases hs
  have e1:=h.rdInt hX hx hn
  have e2:=h.rdInt hX hy hm
  unfold Sl.make? at hl
  split at hl
  ·rename_i hc
   obtain ⟨c1,c2,c3,c4⟩:=hc
   unfold Sl.mk? at hl
   split at hl
   ·cases hl
    have hb48:(i.bytes:Int)*m.n≤281474976710656:=by
     rw [hbytes,Int.mul_comm]
     have:(room:Int)=140737488355328:=by unfold room;rfl
     omega
    have h63:m.n≤9223372036854775807:=by
     have:(room:Int)=140737488355328:=by unfold room;rfl
     omega
    have hr:=run_make (P:=P) w t el i z ht hi hzz k k' n.n m.n c1 c2 hb48 h63
    have hmx:m.n.toNat≤maxLen:=by unfold maxLen;omega
    obtain ⟨g1,g2⟩:=h.newRow' (w1:=w) (b:=b) (t:=T) (l:=⟨List.replicate n.n.toNat (Γ.X.zero T),by assumption⟩) (cells:=madeCells z.cells (m.n.toNat*i.size)) (ty:=el) (cap:=m.n.toNat) (css:=fun _=>z.cells.toList) g ⟨rfl,rfl,rfl,rfl⟩
     (by rw [size_madeCells,hsize]) (by simp;omega) hmx
     (fun k j u hk hj=>by
      simp only [List.length_replicate] at hk
      have hjl:j < z.cells.size:=by simpa using (List.getElem?_eq_some_iff.1 hj).1
      rw [hsize,←hzl,made_get (by omega) hjl,←Array.getElem?_toList]
      exact hj)
     (fun k xx hk=>by
      have:=List.mem_of_getElem? hk
      simp only [List.mem_replicate] at this
      rw [this.2];exact hzp)
    unfold Oper.wp
    have hrun:(execOp a.eval o).run P w=.ok (.value (.slice (some ⟨w.heap.size,0,none⟩) n.n.toNat m.n.toNat)) (w.alloc (.cells (madeCells z.cells (m.n.toNat*i.size)) el)):=by
     simp only [execOp,ho,e1,e2]
     simp [hr]
    rw [hrun]
    refine hnext _ _ ?_
    simp only [List.length_replicate] at g2
    exact g1.out hd hg g2 rfl
   ·cases hl
  ·cases hl
 ·cases hs
theorem step_build {t:TypeId} {fs:Array Field} {i:Γ.X.ι} {qs:Array (Nat×Operand)} {parts:List (Nat×AX Γ.X)} (ho:o.op=.build t qs) (ht:P.underlying t=some (.struct fs)) (hz:zeroOk P Γ t (.named i)=true)
  (hfs:qs.toList.all (fun q=>fldOk P Γ fs i q.1)=true) (hsz:(allO (fun f=>sizeO P f.type) fs.toList).isSome=true) (hp:partsC Γ K (fun j=>(Γ.X.fields i)[j]?) qs.toList=some parts)
  (hs:eff ans g e o.dst (.build i parts)=some us):o.wp P a w next Q:=by
 simp only [eff] at hs
 split at hs
 ·rename_i vs u hta
  split at hs
  ·rename_i x m hx hm
   cases hs
   obtain ⟨F1,S1,Rs,k1,k2,k3,k4,k5,k6,_⟩:=h.takeAll hX hp hta
   obtain ⟨it,z,hi,hzz,hzp⟩:=zeroOk_own hX hz w F1 g
   have hpl:∃ places,fs.toList.mapM (fun f=>(P.info? f.type).map fun i=>(f.offset,i.size))=some places∧∀ (j:Nat) f T,fs[j]?=some f→tyC P Γ f.type=some T→places[j]?=some (f.offset,Γ.X.sz T):=by
    have gen:∀ (l:List Field),(allO (fun f=>sizeO P f.type) l).isSome=true→∃ places,l.mapM (fun f=>(P.info? f.type).map fun i=>(f.offset,i.size))=some places∧∀ (j:Nat) f T,l[j]?=some f→tyC P Γ f.type=some T→places[j]?=some (f.offset,Γ.X.sz T):=fun l=>by
     induction l with
     | nil=>intro _;exact ⟨[],rfl,by simp⟩
     | cons f l ih=>
      intro hsome
      simp only [allO] at hsome
      split at hsome
      ·rename_i n ns hn hns
       obtain ⟨places,p1,p2⟩:=ih (by rw [hns];rfl)
       have hn':(P.info? f.type).map (fun i=>(f.offset,i.size))=some (f.offset,n):=by
        unfold sizeO at hn
        cases hif:P.info? f.type with
        | none=>simp [hif] at hn
        | some y=>simp [hif] at hn;simp [hn]
       refine ⟨(f.offset,n) :: places,by simp [List.mapM_cons,hn',p1],fun j f' T hj hT=>?_⟩
       cases j with
       | zero=>
        simp at hj;subst hj
        have:=(tyC_some hT).2.1
        rw [hn] at this;cases this
        rfl
       | succ j=>simpa using p2 j f' T (by simpa using hj) hT
      ·simp at hsome
    obtain ⟨places,p1,p2⟩:=gen fs.toList hsz
    exact ⟨places,p1,fun j f T hj hT=>p2 j f T (by simpa using hj) hT⟩
   obtain ⟨places,hpl1,hpl2⟩:=hpl
   let step:(Γ.X.Tup (Γ.X.fields i)×Own)→(Nat×(T:Γ.X.Ty)×Γ.X.den T×Own)→Option (Γ.X.Tup (Γ.X.fields i)×Own):=fun xm p=>
    if fldOk P Γ fs i p.1 then match setT (Γ.X.fields i) xm.1 p.1 p.2.1 p.2.2.1,setO xm.2 [.fld p.1] (if p.2.2.2.pure then .no else p.2.2.2.gen g) with
     | some y,some m'=>some (y,m')
     | _,_=>none
    else none
   have hfold:∀ (vs:List (Nat×(T:Γ.X.Ty)×Γ.X.den T×Own)) (x0 x:Γ.X.Tup (Γ.X.fields i)) (m0 m:Own),(∀ p∈vs,fldOk P Γ fs i p.1=true)→setParts i x0 (partsV vs)=some x→partsO g vs m0=some m→vs.foldlM step (x0,m0)=some (x,m):=fun vs=>by
    induction vs with
    | nil=>intro x0 x m0 m _ h1 h2;simp [partsV,setParts] at h1;simp [partsO] at h2;subst h1 h2;rfl
    | cons p vs ih=>
     intro x0 x m0 m hall h1 h2
     obtain ⟨j,T,v,mo⟩:=p
     simp only [partsV,List.map_cons,setParts] at h1
     simp only [partsO] at h2
     split at h1
     ·rename_i y hy
      split at h2
      ·rename_i m1 hm1
       simp only [List.foldlM_cons]
       have:step (x0,m0) (j,⟨T,v,mo⟩)=some (y,m1):=by
        simp only [step]
        rw [if_pos (hall (j,⟨T,v,mo⟩) (by simp))]
        simp only [hy,hm1]
       rw [this]
       exact ih y x m1 m (fun p hp=>hall p (by simp [hp])) h1 h2
      ·cases h2
     ·cases h1
   have hall:∀ p∈vs,fldOk P Γ fs i p.1=true:=by
    have gen:∀ {ps qs' Rs},PartsOk (Γ:=Γ) w F1 ps qs' Rs→(∀ q∈qs',fldOk P Γ fs i q.1=true)→∀ p∈ps,fldOk P Γ fs i p.1=true:=fun {ps qs' Rs} hpo=>by
     induction hpo with
     | nil=>intro _ p hp;cases hp
     | cons h _ ih=>
      intro hq p hp
      rcases List.mem_cons.1 hp with rfl | hp
      ·rw [←h.1];exact hq _ (by simp)
      ·exact ih (fun q hqq=>hq q (by simp [hqq])) p hp
    refine gen k3 fun q hq=>?_
    simp only [List.mem_map] at hq
    obtain ⟨q',hq',rfl⟩:=hq
    exact List.all_eq_true.1 hfs q' hq'
   have hz0:VRep w F1 (.named i) (Γ.X.of i (Γ.X.to i (Γ.X.zeroD i))) (zm g (.named i)) z.cells.toList []:=by rw [hX.of_to];exact hzp
   obtain ⟨cells',R',g1,g2,g3,_,g5⟩:=fill_gen (Γ:=Γ) (w:=w) (F:=F1) (fun (xm:Γ.X.Tup (Γ.X.fields i)×Own) cs R=>VRep w F1 (.named i) (Γ.X.of i xm.1) xm.2 cs R) (places.toArray[·]?) step
    (fun xm ym p q R R0 cells hrep hst hpo hn0 hnR hdis=>by
     obtain ⟨x0,m0⟩:=xm
     obtain ⟨y0,m1⟩:=ym
     obtain ⟨j,T,v,mo⟩:=p
     simp only [step] at hst
     split at hst
     ·rename_i hfo
      split at hst
      ·rename_i y' m' hy hm1
       cases hst
       obtain ⟨_,cs,hv,hu⟩:=hpo
       simp only at hv hu hfo hy hm1 hrep
       obtain ⟨gt1,_⟩:=getT_set hy
       have hjT:=getT_type gt1
       obtain ⟨f,T',f1,f2,f3,f4,_⟩:=fldOk_some hfo
       rw [f2] at hjT;cases hjT
       obtain ⟨x1,hx1⟩:=getT_some x0 f2
       have hq:tyQ [.fld j] (.named i:Γ.X.Ty)=some T:=by simp [tyQ,f2]
       have hgq:getQ [.fld j] (.named i:Γ.X.Ty) (Γ.X.of i x0)=some ⟨T,x1⟩:=by
        simp only [getQ];rw [hX.to_of,hx1]
       obtain ⟨c1,cx,c2,S1',Sx,S2,e1,e2,e3,e4,e5⟩:=hrep.lens hX hq hgq
       have hsq:setQ [.fld j] (.named i:Γ.X.Ty) (Γ.X.of i x0) T v=some (Γ.X.of i y0):=by
        simp only [setQ];rw [hX.to_of,hx1]
        simp only [castT_self]
        rw [hy];rfl
       have hlx:=e4.length hX
       have hlv:=hv.length hX
       have hoff:offQ [.fld j] (.named i:Γ.X.Ty)=f.offset:=by simp [offQ,f2,f3]
       have hv':VRep w F1 T v (if mo.pure then .no else mo.gen g) cs R:=by
        split
        ·rename_i hpu
         obtain ⟨q1,q2⟩:=hv.toPure hpu
         rw [q2];exact .pure q1
        ·exact hv.gen g
       have hres:=e5 w F1 v _ m1 cs R (Γ.X.of i y0) (fun _ h=>h) (fun _ _=>rfl) (fun _ _ _=>rfl) hn0 hv' hsq hm1
       refine ⟨f.offset,cs,?_,valOk_cells' hu hv.one,?_,S1'++R++S2,?_,?_,?_⟩
       ·rw [List.getElem?_toArray,hlv];exact hpl2 j f T f1 f4
       ·rw [e1,←hoff,←e2,hlv,←hlx];simp
       ·have:cells.take f.offset++cs++cells.drop (f.offset+cs.length)=c1++cs++c2:=by
         rw [e1,←hoff,←e2,hlv,←hlx];simp
        rw [this];exact hres
       ·rw [e3] at hn0 hdis
        obtain ⟨n1,n2,n3⟩:=nodup_parts hn0
        obtain ⟨m1',m2',m3'⟩:=List.nodup_append.1 n1
        refine List.nodup_append.2 ⟨List.nodup_append.2 ⟨m1',hnR,fun b hb c hc hbc=>?_⟩,m2',fun b hb c hc hbc=>?_⟩
        ·subst hbc;exact hdis b (by simp [hb]) hc
        ·subst hbc
         rcases List.mem_append.1 hb with hb | hb
         ·exact m3' b hb b hc rfl
         ·exact hdis b (by simp [hc]) hb
       ·intro b hb
        rw [e3]
        simp only [List.mem_append] at hb ⊢
        rcases hb with (hb | hb) | hb
        ·exact .inl (.inl (.inl hb))
        ·exact .inr hb
        ·exact .inl (.inr hb)
      ·cases hst
     ·cases hst)
    k3 (Γ.X.to i (Γ.X.zeroD i),zm g (.named i)) (x,m) z.cells [] hz0 (hfold vs _ x (zm g (.named i)) m hall hx hm) List.nodup_nil k4 (by simp)
   have hrun:(execOp a.eval o).run P w=.ok (.value (.agg cells')) w:=by
    have hb:P.built t (qs.toList.map fun q=>(q.1,a.eval q.2))=some cells':=by
     unfold Program.built
     simp only [hi,ht,hzz,hpl1]
     exact g1
    simp only [execOp,ho]
    have:=run_build (P:=P) w t (qs.map fun q=>(q.1,a.eval q.2)) cells' (by simpa using hb)
    simp [this]
   unfold Oper.wp
   rw [hrun]
   have hgen:OGen (·=g) m:=by
    have gen:∀ (vs:List (Nat×(T:Γ.X.Ty)×Γ.X.den T×Own)) (m0 m:Own),OGen (·=g) m0→partsO g vs m0=some m→OGen (·=g) m:=fun vs=>by
     induction vs with
     | nil=>intro m0 m h0 h1;simp [partsO] at h1;subst h1;exact h0
     | cons p vs ih=>
      intro m0 m h0 h1
      obtain ⟨j,T,v,mo⟩:=p
      simp only [partsO] at h1
      split at h1
      ·rename_i m1 hm1
       refine ih m1 m (OGen_setO hm1 h0 ?_) h1
       split
       ·exact trivial
       ·exact OGen_gen g mo
      ·cases h1
    exact gen vs _ m (zm_gen g (.named i)) hm
   have hh:Hand B U F1 S1 (applyU e u) a w (.val (.named i) (Γ.X.of i x) m) (.agg cells') R':=by
    refine ⟨.u (.val (.named i) _ m _ cells'.toList R' g2 (by unfold valOk;rw [if_pos (by simp [aggB])])),trivial,g3,fun b hb=>?_,fun b hb=>?_⟩
    ·rcases g5 b hb with hb | hb
     ·cases hb
     ·exact k5 b hb
    ·rcases g5 b hb with hb | hb
     ·cases hb
     ·exact k6 b hb
   refine hnext _ _ ?_
   have:=k1.out hd hg hh hgen
   rw [applyU_append]
   exact this
  ·cases hs
 ·cases hs
theorem step_buildA {t el:TypeId} {n:Nat} {T:Γ.X.Ty} {f:Nat→Option Γ.X.Ty} {qs:Array (Nat×Operand)} {parts:List (Nat×AX Γ.X)} (ho:o.op=.build t qs) (ht:P.underlying t=some (.array n el)) (hz:zeroOk P Γ t (.arr n T)=true)
  (hsz:sizeO P el=some (Γ.X.sz T)) (hp:partsC Γ K f qs.toList=some parts) (hs:eff ans g e o.dst (.buildA n T parts)=some us):o.wp P a w next Q:=by
 simp only [eff] at hs
 split at hs
 ·rename_i vs u hta
  split at hs
  ·rename_i hpu
   split at hs
   ·rename_i x hx
    cases hs
    obtain ⟨F1,S1,Rs,k1,k2,k3,k4,k5,k6,_⟩:=h.takeAll hX hp hta
    obtain ⟨it,z,hi,hzz,hzp⟩:=zeroOk_some hX hz w F1
    have hz0:ERep w F1 T n (List.replicate n (Γ.X.zero T)) z.cells.toList []:=by
     generalize hcc:z.cells.toList=cc at hzp
     cases hzp with
     | arr _ _ _ css hcp=>exact ⟨by simp,rfl,css,rfl,fun j xx hj=>hcp j xx hj⟩
    obtain ⟨cells',g1,g2,g3⟩:=fill_elems hX k3 hx hpu hz0 k4
    have hrun:(execOp a.eval o).run P w=.ok (.value (.agg cells')) w:=by
     have hb:P.built t (qs.toList.map fun q=>(q.1,a.eval q.2))=some cells':=by
      unfold Program.built
      unfold sizeO at hsz
      cases hie:P.info? el with
      | none=>simp [hie] at hsz
      | some ie=>
       simp [hie] at hsz
       simp only [hi,ht,hzz,hie,hsz]
       exact g1
     simp only [execOp,ho]
     have:=run_build (P:=P) w t (qs.map fun q=>(q.1,a.eval q.2)) cells' (by simpa using hb)
     simp [this]
    unfold Oper.wp
    rw [hrun]
    obtain ⟨q1,_,css,q2,q3⟩:=g2
    refine hnext _ _ ?_
    rw [applyU_append]
    refine k1.outV hd hg rfl (cs:=cells'.toList) (.pure ?_) (by unfold valOk;rw [if_pos (by simp [aggB])])
    rw [q2]
    exact .arr n T _ css fun j xx hj=>q3 j xx hj
   ·cases hs
  ·cases hs
 ·cases hs
theorem step_buildSlice {t el:TypeId} {b len:Nat} {T:Γ.X.Ty} {f:Nat→Option Γ.X.Ty} {qs:Array (Nat×Operand)} {parts:List (Nat×AX Γ.X)} (ho:o.op=.buildSlice t len qs) (ht:P.underlying t=some (.slice el)) (hel:tyC P Γ el=some T) (hz:zeroOk P Γ el T=true)
  (hp:partsC Γ K f qs.toList=some parts) (hs:eff ans g e o.dst (.buildSlice b T len parts)=some us):o.wp P a w next Q:=by
 simp only [eff] at hs
 split at hs
 ·rename_i vs u hta
  split at hs
  ·rename_i hcond
   rw [Bool.and_eq_true,decide_eq_true_eq] at hcond
   obtain ⟨hpu,hlim⟩:=hcond
   split at hs
   ·rename_i x hx
    obtain ⟨l,hl,hs⟩:=Option.bind_eq_some_iff.1 hs
    cases hs
    obtain ⟨F1,S1,Rs,k1,k2,k3,k4,k5,k6,_⟩:=h.takeAll hX hp hta
    obtain ⟨it,z,hi,hzz,hzp⟩:=zeroOk_some hX hz w F1
    have hzl:=hzp.length hX
    have hsize:it.size=Γ.X.sz T:=by
     have:=(tyC_some hel).2.1
     unfold sizeO at this
     rw [hi] at this
     simpa using this
    have hmade:=cat_const hzl len
    have hz0:ERep w F1 T len (List.replicate len (Γ.X.zero T)) (madeCells z.cells (len*Γ.X.sz T)).toList []:=by
     refine ⟨by simp,rfl,fun _=>z.cells.toList,?_,fun j xx hj=>?_⟩
     ·rw [←hmade]
     ·have:=List.mem_of_getElem? hj
      simp only [List.mem_replicate] at this
      rw [this.2];exact hzp
    obtain ⟨cells',g1,g2,g3⟩:=fill_elems hX k3 hx hpu hz0 k4
    have hmk:∃ hh,l=⟨x,hh⟩:=by
     unfold Sl.mk? at hl
     split at hl
     ·cases hl;exact ⟨_,rfl⟩
     ·cases hl
    obtain ⟨hh,rfl⟩:=hmk
    have hrun:(execOp a.eval o).run P w=.ok (.value (.slice (some ⟨w.heap.size,0,none⟩) len len)) (w.alloc (.cells cells' el)):=by
     have hlim':¬ (16777216 < len*it.size):=by rw [hsize];omega
     by_cases h0:len*it.size=0
     ·have hm:madeCells z.cells (len*Γ.X.sz T)=#[]:=by rw [←hsize,h0];simp [madeCells]
      rw [hm,←hsize] at g1
      have hr0:(Array.map (fun _=>(default:Value)) (Array.range 0))=#[]:=by simp
      simp only [execOp,ho]
      simp [Instr.buildSlice,run_underlying' ht,sizeOf,run_typeInfo' hi,h0,newRow,hr0,Array.range_zero',g1]
     ·have hm:madeCells z.cells (len*Γ.X.sz T)=(Array.range (len*it.size)).map (z.cells[· % z.cells.size]!):=by rw [←hsize];rfl
      rw [hm,←hsize] at g1
      simp only [execOp,ho]
      simp [Instr.buildSlice,run_underlying' ht,sizeOf,run_typeInfo' hi,h0,g1,newRow,hlim',zeroValue,hzz]
    unfold Oper.wp
    rw [hrun]
    obtain ⟨q1,_,css,q2,q3⟩:=g2
    have hcl:∀ k,k < len→(css k).length=Γ.X.sz T:=fun k hk=>(q3 k _ (List.getElem?_eq_getElem (by omega))).length hX
    obtain ⟨r1,r2⟩:=k1.newRow' (w1:=w) (b:=b) (t:=T) (l:=⟨x,hh⟩) (cells:=cells') (ty:=el) (cap:=len) (css:=css) g ⟨rfl,rfl,rfl,rfl⟩
     (by rw [g3,size_madeCells]) (by simp only [q1];exact Nat.le_refl _) (by have:=hh.2;rw [q1] at this;exact maxLen_room this)
     (fun k j u hk hj=>by
      simp only [q1] at hk
      have hjl:j < Γ.X.sz T:=by rw [←hcl k hk];exact (List.getElem?_eq_some_iff.1 hj).1
      rw [←Array.getElem?_toList,q2,cat_get hcl hk hjl]
      exact hj)
     (fun k xx hk=>q3 k xx hk)
    simp only [q1] at r2
    refine hnext _ _ ?_
    rw [applyU_append]
    exact r1.out hd hg r2 rfl
   ·cases hs
  ·cases hs
 ·cases hs
end steps
end
end
end Go.A2
namespace Go.A2
section
variable {P:Program} {Γ:Cx}
section
variable {K:List Nat} {N:Slots} {F0 B U:Nat→Prop} {w0:World} {F:Nat→Prop} {S:Nat→List Nat} {e:Env Γ.X} {a:Act} {w:World}
def Bnd (v:Option Value) (n:Option Nat):Prop:=(v=none∧n=none)∨∃ k i,v=some (.int k i)∧0≤i∧n=some i.toNat
theorem oNat_some (hX:TabOk Γ.X) (h:EnvRel N F0 B U w0 F S e a w) {Y:Option Operand} {x:Option (AX Γ.X)} (hx:oX Γ K Y=some x) {n:Option Nat} (hn:oNat e x=some n):Bnd (Y.map a.eval) n:=by
 cases Y with
 | none=>
  simp [oX] at hx;subst hx
  simp [oNat] at hn;subst hn
  exact .inl ⟨rfl,rfl⟩
 | some Y=>
  simp only [oX] at hx
  cases hc:compX Γ K none Y with
  | none=>simp [hc] at hx
  | some y=>
   simp [hc] at hx;subst hx
   simp only [oNat] at hn
   cases hv:natOf (Go.A2.rd e y) with
   | none=>simp [hv] at hn
   | some m=>
    simp [hv] at hn;subst hn
    unfold natOf at hv
    split at hv
    ·rename_i k i o' hr
     unfold nat? at hv
     split at hv
     ·rename_i h0
      cases hv
      have:=h.rdInt hX hc hr
      exact .inr ⟨k,i.n,by simp [this],h0,rfl⟩
     ·cases hv
    ·cases hv
theorem run_bounds {isSlice:Bool} {len cap:Nat} {lo hi mx:Option Value} {l h m:Option Nat} (h1:Bnd lo l) (h2:Bnd hi h) (h3:Bnd mx m) (hlc:len≤cap) (hm:m=none∨h.isSome=true) (hcap:m.getD cap≤cap) (hh:h.getD len≤m.getD cap) (hl:l.getD 0≤h.getD len):
  (Instr.sliceBounds isSlice len cap lo hi mx).run P w=.ok (l.getD 0,h.getD len,m.getD cap) w:=by
 rcases h1 with ⟨rfl,rfl⟩ | ⟨k1,i1,rfl,p1,rfl⟩<;>rcases h2 with ⟨rfl,rfl⟩ | ⟨k2,i2,rfl,p2,rfl⟩<;>rcases h3 with ⟨rfl,rfl⟩ | ⟨k3,i3,rfl,p3,rfl⟩
 all_goals simp only [Option.getD_some,Option.getD_none,Option.isSome_some,Option.isSome_none,Bool.false_eq_true,or_false,reduceCtorEq,or_true] at hm hcap hh hl
 all_goals simp only [Instr.sliceBounds,Sem.run_bind,Sem.run_pure,Result.andThen_ok,Option.getD_some,Option.getD_none]
 ·rw [run_sliceBound w k2 i2 cap _ p2 (by omega)]
  simp
 ·rw [run_sliceBound w k3 i3 cap _ p3 (by omega)]
  simp only [Result.andThen_ok,Sem.run_pure]
  rw [run_sliceBound w k2 i2 _ _ p2 (by omega)]
  simp
 ·rw [run_sliceBound w k1 i1 _ _ p1 (by omega)]
  simp
 ·rw [run_sliceBound w k2 i2 cap _ p2 (by omega)]
  simp only [Result.andThen_ok,Sem.run_pure]
  rw [run_sliceBound w k1 i1 _ _ p1 (by omega)]
  simp
 ·rw [run_sliceBound w k3 i3 cap _ p3 (by omega)]
  simp only [Result.andThen_ok,Sem.run_pure]
  rw [run_sliceBound w k2 i2 _ _ p2 (by omega)]
  simp only [Result.andThen_ok,Sem.run_pure]
  rw [run_sliceBound w k1 i1 _ _ p1 (by omega)]
  simp
theorem pre_sub {b:Nat} {T:Γ.X.Ty} {l l':Sl b (Γ.X.den T)} {lo hi:Nat} (hs:Sl.sub? l lo hi=some l'):lo≤hi∧hi≤l.l.length∧l'.l.length=hi - lo∧∀ i,i < hi - lo→l'.l[i]?=l.l[lo+i]?:=by
 unfold Sl.sub? at hs
 split at hs
 ·rename_i hc
  cases hs
  refine ⟨hc.1,hc.2,by simp;omega,fun i hi'=>?_⟩
  simp only [List.getElem?_drop]
  rw [List.getElem?_take_of_lt (by omega)]
 ·cases hs
section steps
variable {T0 T1 T2:Option Γ.X.Ty} {g:Nat} {o:Oper} {us:Ups Γ.X} {ans:Ret Γ.X} (hX:TabOk Γ.X) (h:EnvRel N F0 B U w0 F S e a w) (hg:¬ U g) (hd:∀ k,o.dst=some k→N.ok k)
variable {next:Act→World→Prop} {Q:Exit→Act→World→Prop} (hnext:∀ a' w',Sim N F0 B (withG U g) w0 (applyU e us) a' w'→next a' w')
include hX h hg hd hnext
theorem step_sliceStr {t:TypeId} {Y:Operand} {Lo Hi Mx:Option Operand} {x:AX Γ.X} {lo hi mx:Option (AX Γ.X)} (ho:o.op=.slice t Y Lo Hi Mx) (ht:P.underlying t=some .string) (hx:compX Γ K T0 Y=some x) (hlo:oX Γ K Lo=some lo) (hhi:oX Γ K Hi=some hi) (hmx:oX Γ K Mx=some mx)
  (hs:eff ans g e o.dst (.slice .str x lo hi mx)=some us):o.wp P a w next Q:=by
 simp only [eff] at hs
 split at hs
 ·rename_i T v m u lo' hi' mx' hta h1 h2 h3
  split at hs
  ·rename_i v' hv
   obtain ⟨rfl,hv⟩:=castT_some hv
   simp only at hv;subst hv
   split at hs
   ·obtain ⟨r,hr,hs⟩:=Option.bind_eq_some_iff.1 hs
    cases hs
    obtain ⟨F1,S1,cs,R,k1,k2,k3,k4,_⟩:=h.take hX hx hta
    have b1:=oNat_some (a:=a) hX h hlo h1
    have b2:=oNat_some (a:=a) hX h hhi h2
    have b3:=oNat_some (a:=a) hX h hmx h3
    have ecs:=k3.strInv
    subst ecs
    unfold valOk at k4;rw [if_neg (by simp [aggB])] at k4
    have e0:a.eval Y=.string ⟨(Str.l v).toArray⟩:=by simpa using k4.symm
    simp only [subV] at hr
    split at hr
    ·rename_i hmn
     have:mx'=none:=by cases mx'<;>first | rfl | cases hmn
     subst this
     cases hsub:Str.sub? v (lo'.getD 0) (hi'.getD (Str.l v).length) with
     | none=>rw [hsub] at hr;cases hr
     | some s'=>
      rw [hsub] at hr;cases hr
      unfold Str.sub? at hsub
      split at hsub
      ·rename_i hc
       cases hsub
       have hsz:(⟨(Str.l v).toArray⟩:ByteArray).size=(Str.l v).length:=by simp [ByteArray.size]
       have hbnd:=run_bounds (P:=P) (w:=w) (isSlice:=false) (len:=(Str.l v).length) (cap:=(Str.l v).length) b1 b2 b3 (Nat.le_refl _) (.inl rfl) (Nat.le_refl _) hc.2 hc.1
       have hmxn:Mx.map a.eval=none:=by rcases b3 with ⟨h,_⟩ | ⟨_,_,_,_,h⟩;exact h;cases h
       have hext:(⟨(Str.l v).toArray⟩:ByteArray).extract (lo'.getD 0) (hi'.getD (Str.l v).length)=⟨(((Str.l v).take (hi'.getD (Str.l v).length)).drop (lo'.getD 0)).toArray⟩:=by
        apply ByteArray.ext
        rw [ByteArray.data_extract]
        apply Array.ext'
        simp [List.extract_eq_take_drop,List.drop_take]
       have hrun:(execOp a.eval o).run P w=.ok (.value (.string ⟨(((Str.l v).take (hi'.getD (Str.l v).length)).drop (lo'.getD 0)).toArray⟩)) w:=by
        simp only [execOp,ho,e0]
        rw [hmxn] at hbnd ⊢
        simp only [Instr.sliceAt,Instr.slice,Sem.run_bind,run_underlying' ht,Result.andThen_ok,Sem.run_pure,hsz,Option.isSome_none,Bool.false_eq_true,if_false]
        simp only [hbnd,Result.andThen_ok,Sem.run_pure,hext]
       unfold Oper.wp
       rw [hrun]
       refine hnext _ _ ?_
       rw [applyU_append]
       refine k1.outV hd hg rfl (.pure (.str _)) ?_
       unfold valOk;rw [if_neg (by simp [aggB])]
      ·cases hsub
    ·cases hr
   ·cases hs
  ·cases hs
 ·cases hs
omit hnext in
theorem look_arrS {t el:TypeId} {b n:Nat} {T:Γ.X.Ty} {Y:Operand} {Lo Hi Mx:Option Operand} {x:AX Γ.X} {lo hi:Option (AX Γ.X)} (ho:o.op=.slice t Y Lo Hi Mx) (ht:P.underlying t=some (.array n el)) (hx:compX Γ K T0 Y=some x) (hlo:oX Γ K Lo=some lo) (hhi:oX Γ K Hi=some hi) (hmx:Mx=none)
  (hsz:sizeO P el=some (Γ.X.sz T)) (hs:eff ans g e o.dst (.arrS b n T x lo hi)=some us):Looks N F0 B U w0 P e a w g o us:=by
 subst hmx
 simp only [eff] at hs
 split at hs
 ·rename_i lo' hi' h1' h2'
  have b1:=oNat_some (a:=a) hX h hlo h1'
  have b2:=oNat_some (a:=a) hX h hhi h2'
  obtain ⟨R,r1,r2,_⟩:=h.rd hX hx
  have run:∀ blk off,a.eval Y=.pointer (some ⟨blk,off,none⟩)→lo'.getD 0≤hi'.getD n→hi'.getD n≤n→
    (execOp a.eval o).run P w=.ok (.value (.slice (some (if n=lo'.getD 0 then ⟨blk,off,none⟩ else ⟨blk,off+lo'.getD 0*Γ.X.sz T,none⟩)) (hi'.getD n - lo'.getD 0) (n - lo'.getD 0))) w:=fun blk off hu q1 q2=>by
   have hbnd:=run_bounds (P:=P) (w:=w) (isSlice:=false) (len:=n) (cap:=n) (mx:=none) (m:=none) b1 b2 (.inl ⟨rfl,rfl⟩) (Nat.le_refl _) (.inl rfl) (by simp) (by simp only [Option.getD_none];omega) q1
   simp only [execOp,ho,hu]
   simp only [Instr.sliceAt,Sem.run_bind,run_underlying' ht,Result.andThen_ok,Sem.run_pure,Option.map_none,Instr.sureAddr]
   rw [hbnd]
   simp only [Sem.run_bind,run_sizeO hsz,Result.andThen_ok,Sem.run_pure,Option.getD_none,addr_add]
  split at hs
  ·rename_i bs q hr
   split at hs
   ·rename_i hok
    obtain ⟨_,hvw,hs⟩:=Option.bind_eq_some_iff.1 hs
    cases hs
    unfold vw? at hvw
    split at hvw
    ·rename_i hb
     rw [hr] at r1 r2
     have hR:=ptr_nil r1
     subst hR
     generalize hu:a.eval Y=u at r1
     have hp:∃ blk off,u=.pointer (some ⟨blk,off,none⟩):=by
      cases r1 with
      | u hh=>cases hh
      | ptrB s g' _ _ hh=>
       simp only [ptrTy] at hok
       split at hok
       ·rename_i g2 T' v o' hes
        split at hok
        ·rename_i hgg
         subst hgg
         obtain ⟨b',_,p2,_⟩:=hh _ _ _ hes
         exact ⟨_,_,p2⟩
        ·cases hok
       ·cases hok
      | ptrE s p g' i _ _ _ hh=>
       simp only [ptrTy] at hok
       split at hok
       ·rename_i b' t' l hc
        obtain ⟨_,_,blk,_,_,_,p2⟩:=hh _ _ _ hc
        exact ⟨_,_,p2⟩
       ·cases hok
     obtain ⟨blk,off,rfl⟩:=hp
     refine ⟨_,run blk off hu hb.1 hb.2,h.out hd hg (Hand.ofPure (.aview bs q b n T _ _ blk off _ _ r1 hb.1 hb.2 (by omega) fun hlt=>by rw [if_neg (by omega)]) (by cases bs<;>exact r2)) (by cases bs<;>trivial)⟩
    ·cases hvw
   ·cases hs
  ·rename_i T' v hr
   split at hs
   ·rename_i v' hv'
    obtain ⟨rfl,hv⟩:=castT_some hv'
    simp only at hv;subst hv
    split at hs
    ·rename_i hok
     obtain ⟨r,hsub,hs⟩:=Option.bind_eq_some_iff.1 hs
     cases hs
     rw [hr] at r1
     generalize hu:a.eval Y=u at r1
     cases r1 with
     | u hh=>cases hh with
      | rptr _ _ blk off cs hb hc hp=>
       cases hp with
       | arr _ _ _ css hcss=>
        have cl:∀ i,i < n→(css i).length=Γ.X.sz T:=fun i hi=>(hcss i _ (List.getElem?_eq_getElem (by rw [v.h];exact hi))).length hX
        have hln:(Arr.sl b v hok).l.length=n:=v.h
        obtain ⟨p1,p2,p3,p4⟩:=pre_sub hsub
        rw [hln] at p2
        refine ⟨_,run blk off hu p1 p2,h.outV hd hg rfl (.pure (cs:=[_]) ?_) (by unfold valOk;rw [if_neg (by simp [aggB])])⟩
        rw [←p3]
        refine .slice b T r _ _ (fun i=>css (lo'.getD 0+i)) (by omega) (fun hne=>?_) fun i xx hi'=>?_
        ·have hpos:0 < r.l.length:=List.length_pos_iff.2 hne
         refine ⟨blk,off+lo'.getD 0*Γ.X.sz T,by rw [if_neg (by omega)],hb,fun i j u hi' hj=>?_⟩
         have hjl:j < Γ.X.sz T:=by rw [←cl (lo'.getD 0+i) (by omega)];exact (List.getElem?_eq_some_iff.1 hj).1
         have:=hc ((lo'.getD 0+i)*Γ.X.sz T+j) u (by rw [cat_get cl (by omega) hjl];exact hj)
         rw [←this];congr 2;rw [Nat.add_mul];omega
        ·have hil:i < r.l.length:=(List.getElem?_eq_some_iff.1 hi').1
         rw [p4 i (by omega)] at hi'
         exact hcss _ xx hi'
    ·cases hs
   ·cases hs
  ·cases hs
 ·cases hs
theorem step_slice {t el:TypeId} {b:Nat} {T:Γ.X.Ty} {Y:Operand} {Lo Hi Mx:Option Operand} {x:AX Γ.X} {lo hi mx:Option (AX Γ.X)} (ho:o.op=.slice t Y Lo Hi Mx) (ht:P.underlying t=some (.slice el)) (hsz:sizeO P el=some (Γ.X.sz T)) (hx:compX Γ K T0 Y=some x) (hlo:oX Γ K Lo=some lo)
  (hhi:oX Γ K Hi=some hi) (hmx:oX Γ K Mx=some mx) (hs:eff ans g e o.dst (.slice (.slice b T) x lo hi mx)=some us):o.wp P a w next Q:=by
 simp only [eff] at hs
 split at hs
 ·rename_i T' v m u lo' hi' mx' hta h1 h2 h3
  split at hs
  ·rename_i v' hv
   obtain ⟨rfl,hv⟩:=castT_some hv
   simp only at hv;subst hv
   split at hs
   ·rename_i hal
    obtain ⟨r,hr,hs⟩:=Option.bind_eq_some_iff.1 hs
    cases hs
    obtain ⟨F1,S1,cs,R,k1,k2,k3,k4,k5,k6,k7,_⟩:=h.take hX hx hta
    have b1:=oNat_some (a:=a) hX h hlo h1
    have b2:=oNat_some (a:=a) hX h hhi h2
    have b3:=oNat_some (a:=a) hX h hmx h3
    have hF2:=k3.freeze (F':=fun b=>F1 b∨b∈R) (fun _ h=>.inl h) (fun _ h=>.inr h) hal
    have hfull:m=.full→∃ ad,cs=[.slice ad (Sl.l v).length (Sl.l v).length]:=fun hm=>by
     subst hm
     exact full_inv k3
    have henv:=k1.world (w':=w) (F':=fun b=>F1 b∨b∈R) (fun _ h=>.inl h) (fun _ _=>rfl) (fun _ _ _=>rfl) (.refl _ _) fun b' hb'=>hb'.imp_right fun hb'=>⟨(k6 b' hb').1,(k6 b' hb').2.1,k7 b' hb'⟩
    unfold valOk at k4;rw [if_neg (by simp [aggB])] at k4
    subst k4
    generalize hu:a.eval Y=uY at hF2 hfull
    cases hF2 with
    | slice _ _ _ ad cap css hcap ha hp=>
     have part:∀ (lo hi:Nat) (l':Sl b (Γ.X.den T)) (cm:Nat),Sl.sub? v lo hi=some l'→hi≤cm→cm≤cap→PRep w (fun b=>F1 b∨b∈R) (.slice b T) l' [.slice (if cm=lo then ad else ad.map (·.add (lo*Γ.X.sz T))) (hi - lo) (cm - lo)]:=fun lo hi l' cm hsub hcm hcc=>by
      obtain ⟨p1,p2,p3,p4⟩:=pre_sub hsub
      rw [←p3]
      refine .slice b T l' _ _ (fun i=>css (lo+i)) (by omega) (fun hne=>?_) fun i xx hi'=>?_
      ·have hpos:0 < l'.l.length:=List.length_pos_iff.2 hne
       obtain ⟨blk,o',q1,q2,q3⟩:=ha (by intro hn;rw [hn] at p2;simp at p2;omega)
       refine ⟨blk,o'+lo*Γ.X.sz T,?_,q2,fun i j u hi' hj=>?_⟩
       ·rw [if_neg (by omega),q1];simp [addr_add]
       ·have:=q3 (lo+i) j u (by omega) hj
        rw [←this];congr 2;rw [Nat.add_mul];omega
      ·have hil:i < l'.l.length:=(List.getElem?_eq_some_iff.1 hi').1
       rw [p4 i (by omega)] at hi'
       exact hp _ xx hi'
     have hlc:(Sl.l v).length≤cap:=hcap
     have run:∀ (hh:lo'.getD 0≤hi'.getD (Sl.l v).length) (h4:mx'=none∨hi'.isSome=true) (h5:mx'.getD cap≤cap) (h6:hi'.getD (Sl.l v).length≤mx'.getD cap),
       (execOp a.eval o).run P w=.ok (.value (.slice (if mx'.getD cap=lo'.getD 0 then ad else ad.map (·.add (lo'.getD 0*Γ.X.sz T))) (hi'.getD (Sl.l v).length - lo'.getD 0) (mx'.getD cap - lo'.getD 0))) w:=fun hh h4 h5 h6=>by
      have hbnd:=run_bounds (P:=P) (w:=w) (isSlice:=true) b1 b2 b3 hlc h4 h5 h6 hh
      simp only [execOp,ho,hu]
      simp only [Instr.sliceAt,Instr.slice,Sem.run_bind,run_underlying' ht,Result.andThen_ok,Sem.run_pure,hbnd,run_sizeO hsz]
     simp only [subV] at hr
     split at hr
     ·
      cases hsub:Sl.sub? v (lo'.getD 0) (hi'.getD (Sl.l v).length) with
      | none=>rw [hsub] at hr;cases hr
      | some l'=>
       rw [hsub] at hr;cases hr
       obtain ⟨p1,p2,p3,p4⟩:=pre_sub hsub
       unfold Oper.wp
       rw [run p1 (.inl rfl) (Nat.le_refl _) (by simp only [Option.getD_none];omega)]
       refine hnext _ _ ?_
       rw [applyU_append]
       have hpt:=part _ _ _ cap hsub (by omega) (Nat.le_refl _)
       simp only [Option.getD_none]
       split
       ·rename_i hi0
        obtain ⟨ad',hc⟩:=hfull rfl
        simp only [List.cons.injEq,Value.slice.injEq,and_true] at hc
        obtain ⟨_,_,hc⟩:=hc
        refine henv.outV hd hg rfl (cs:=[_]) ?_ (by unfold valOk;rw [if_neg (by simp [aggB])])
        simp only [Option.getD_none] at hpt p3 ⊢
        rw [hc,←p3] at hpt ⊢
        exact .full b T l' _ hpt
       ·exact henv.outV hd hg rfl (.pure hpt) (by unfold valOk;rw [if_neg (by simp [aggB])])
     ·rename_i mm
      split at hr
      ·rename_i hcond
       obtain ⟨rfl,hml⟩:=hcond
       cases hsub:Sl.sub? v (lo'.getD 0) mm with
       | none=>rw [hsub] at hr;cases hr
       | some l'=>
        rw [hsub] at hr;cases hr
        obtain ⟨p1,p2,p3,p4⟩:=pre_sub hsub
        unfold Oper.wp
        rw [run (by simpa using p1) (.inr rfl) (by simp;omega) (by simp)]
        refine hnext _ _ ?_
        rw [applyU_append]
        have hpt:=part _ _ _ mm hsub (Nat.le_refl _) (by omega)
        simp only [Option.getD_some]
        refine henv.outV hd hg rfl (cs:=[_]) ?_ (by unfold valOk;rw [if_neg (by simp [aggB])])
        rw [←p3] at hpt ⊢
        exact .full b T l' _ hpt
      ·cases hr
   ·cases hs
  ·cases hs
 ·cases hs
end steps
end
end
end Go.A2
namespace Go.A2
section
variable {P:Program} {Γ:Cx}
theorem wrap_nat {n:Nat} (h:n≤140737488355328):IntKind.wrap .i64 (n:Int)=n:=by
 have:IntKind.i64.wrap (n:Int)=((n:Int)+9223372036854775808) % 18446744073709551616 - 9223372036854775808:=by
  simp [IntKind.wrap,IntKind.bits,IntKind.signed];split<;>omega
 rw [this];omega
theorem cpL_get {α:Type} {l m:List α} {off k:Nat} (ho:off≤l.length):(cpL l off m)[k]?=if off≤k∧k < off+min (l.length - off) m.length then m[k - off]? else l[k]?:=by
 unfold cpL
 by_cases h1:k < off
 ·rw [List.getElem?_append_left (by simp;omega),List.getElem?_take_of_lt h1,if_neg (by omega)]
 ·rw [List.getElem?_append_right (by simp;omega)]
  simp only [List.length_take,Nat.min_eq_left ho]
  by_cases h2:k < off+min (l.length - off) m.length
  ·rw [List.getElem?_append_left (by simp;omega),List.getElem?_take_of_lt (by omega),if_pos (by omega)]
  ·rw [List.getElem?_append_right (by simp;omega),if_neg (by omega),List.getElem?_drop]
   simp only [List.length_take]
   by_cases h3:m.length≤l.length - off
   ·congr 1;omega
   ·rw [List.getElem?_eq_none (by omega),List.getElem?_eq_none (by omega)]
section
variable {K:List Nat} {N:Slots} {F0 B U:Nat→Prop} {w0:World} {F:Nat→Prop} {S:Nat→List Nat} {e:Env Γ.X} {a:Act} {w:World}
variable {T0 T1:Option Γ.X.Ty} {g:Nat} {o:Oper} {us:Ups Γ.X} {ans:Ret Γ.X} (hX:TabOk Γ.X) (h:EnvRel N F0 B U w0 F S e a w) (hg:¬ U g) (hd:∀ k,o.dst=some k→N.ok k)
theorem own_val {b:Nat} {t:Γ.X.Ty} {l:Sl b (Γ.X.den t)} {g:Nat} {u:Value} {R:List Nat} (h:VRep w F (.slice b t) l (.yes g) [u] R):∃ ad c,u=.slice ad l.l.length c∧l.l.length≤c:=by
 have key:∀ {T:Γ.X.Ty} {v:Γ.X.den T} {o:Own} {cs:List Value} {S:List Nat},VRep w F T v o cs S→T=.slice b t→HEq v l→o=.yes g→cs=[u]→∃ ad c,u=.slice ad l.l.length c∧l.l.length≤c:=fun hv hT hvl ho hcs=>by
  cases hv with
  | ownNil b' t' v g' ad hv=>
   cases hT;cases hvl
   simp only [List.cons.injEq,and_true] at hcs
   exact ⟨ad,0,by rw [←hcs,hv];rfl,by rw [hv];simp⟩
  | own b' t' v g' blk cap cells ty css hg hsz hcap hmx hcc hp=>
   cases hT;cases hvl
   simp only [List.cons.injEq,and_true] at hcs
   exact ⟨_,cap,hcs.symm,hcap⟩
  | pure=>cases ho
  | full=>cases ho
  | st=>cases ho
  | dead=>cases ho
  | ownM=>cases hT
 exact key h rfl HEq.rfl rfl rfl
theorem sub_rep {b:Nat} {T:Γ.X.Ty} {v r:Sl b (Γ.X.den T)} {lo hi cap:Nat} {ad:Option Addr} {css:Nat→List Value} (hr:Sl.sub? v lo hi=some r) (hcap:v.l.length≤cap)
  (ha:v.l ≠ []→∃ blk o,ad=some ⟨blk,o,none⟩∧F blk∧∀ (i j:Nat) u,i < v.l.length→(css i)[j]?=some u→w.cell? ⟨blk,o+i*Γ.X.sz T+j,none⟩=some u) (hpp:∀ (i:Nat) x,v.l[i]?=some x→PRep w F T x (css i)):
  (lo≤hi∧hi≤v.l.length)∧PRep w F (.slice b T) r [.slice (if cap=lo then ad else ad.map (·.add (lo*Γ.X.sz T))) (hi - lo) (cap - lo)]:=by
 obtain ⟨p1,p2,p3,p4⟩:=pre_sub hr
 refine ⟨⟨p1,p2⟩,?_⟩
 rw [←p3]
 refine .slice b T r _ _ (fun i=>css (lo+i)) (by omega) (fun hne=>?_) fun i xx hi'=>?_
 ·have hpos:0 < r.l.length:=List.length_pos_iff.2 hne
  obtain ⟨blk,o',q1,q2,q3⟩:=ha (by intro hn;rw [hn] at p2;simp at p2;omega)
  refine ⟨blk,o'+lo*Γ.X.sz T,?_,q2,fun i j u hi' hj=>?_⟩
  ·rw [if_neg (by omega),q1];simp [addr_add]
  ·have:=q3 (lo+i) j u (by omega) hj
   rw [←this];congr 2;rw [Nat.add_mul];omega
 ·have hil:i < r.l.length:=(List.getElem?_eq_some_iff.1 hi').1
  rw [p4 i (by omega)] at hi'
  exact hpp _ xx hi'
include hX h hg hd
theorem look_strB {s d el:TypeId} {Y:Operand} {x:AX Γ.X} (ho:o.op=.convert s d Y) (hs0:P.underlying s=some (.slice el)) (hu8:isU8 P el=true) (hd0:P.underlying d=some .string) (hx:compX Γ K T0 Y=some x) (hs:eff ans g e o.dst (.strB x)=some us):
  Looks N F0 B U w0 P e a w g o us:=by
 have he:P.underlying el=some (.int .u8):=by
  unfold isU8 at hu8
  split at hu8
  ·assumption
  ·cases hu8
 simp only [eff] at hs
 split at hs
 ·rename_i b t l hsl
  split at hs
  ·rename_i l' hc
   obtain ⟨he1,hv⟩:=castT_some hc
   cases he1
   simp only at hv;subst hv
   simp only [Option.some.injEq] at hs;subst hs
   obtain ⟨ad,cap,css,u,c,a2,p⟩:=h.rdSl hX hx hsl
   obtain ⟨L,hL⟩:∃ L:List (W .u8),l.l=L:=⟨l.l,rfl⟩
   have hLl:l.l.length=L.length:=congrArg List.length hL
   have hcell:∀ (j:Nat) (xx:W .u8),L[j]?=some xx→∃ blk o,ad=some ⟨blk,o,none⟩∧w.cell? ⟨blk,o+j,none⟩=some (.int .u8 xx.n):=fun j xx hj=>by
    have hjl:j < l.l.length:=by rw [hLl];exact (List.getElem?_eq_some_iff.1 hj).1
    have hpj:=p j xx (by rw [hL];exact hj)
    generalize hcc:css j=cs at hpj
    cases hpj
    obtain ⟨blk,o',q1,_,q3⟩:=a2 (by intro hn;rw [hn] at hjl;simp at hjl)
    have:=q3 j 0 _ hjl (by rw [hcc];rfl)
    exact ⟨blk,o',q1,by simpa [Tab.sz] using this⟩
   have hcells:∀ a',ad=some a'→(loadCells a' L.length).run P w=.ok ((L.map fun xx=>xx.n).map (Value.int .u8)).toArray w:=fun a' ha'=>by
    have:=run_loadCells_list (P:=P) (w:=w) a' ((L.map fun xx=>xx.n).map (Value.int .u8)) (fun j v hj=>by
     rw [List.getElem?_map,List.getElem?_map] at hj
     cases hlj:L[j]? with
     | none=>rw [hlj] at hj;cases hj
     | some xx=>
      rw [hlj] at hj
      cases hj
      obtain ⟨blk,o',q1,q3⟩:=hcell j xx hlj
      rw [ha'] at q1;cases q1
      rw [addr_add]
      exact q3)
    rw [List.length_map,List.length_map] at this
    exact this
   have hst:(strOf l).l=L.map fun w=>UInt8.ofNat w.n.toNat:=by
    show l.l.map (fun w:W .u8=>UInt8.ofNat w.n.toNat)=_
    exact congrArg (List.map fun w:W .u8=>UInt8.ofNat w.n.toNat) hL
   refine ⟨.string ⟨(strOf l).l.toArray⟩,?_,h.outV hd hg rfl (.pure (.str (strOf l))) (by unfold valOk;rw [if_neg (by simp [aggB])])⟩
   have hrun:(convert s d (.slice ad l.l.length cap)).run P w=.ok (.string ⟨(strOf l).l.toArray⟩) w:=by
    rw [run_convert_bytes_string w s d el ad _ _ hs0 he hd0]
    rw [hst]
    cases ad with
    | none=>
     have:L=[]:=by
      cases L with
      | nil=>rfl
      | cons xx L=>obtain ⟨_,_,q,_⟩:=hcell 0 xx rfl;cases q
     rw [this]
     rfl
    | some a'=>
     rw [hLl,run_bytesToString w a' _ _ _ (hcells a' rfl)]
     have fold:∀ (ns:List Int) (acc:Array UInt8),ns.foldl (fun (r:ByteArray) n=>r.push (UInt8.ofNat n.toNat)) ⟨acc⟩=⟨acc++(ns.map fun n=>UInt8.ofNat n.toNat).toArray⟩:=fun ns=>by
      induction ns with
      | nil=>intro acc;simp
      | cons n ns ih=>
       intro acc
       rw [List.foldl_cons,show (⟨acc⟩:ByteArray).push (UInt8.ofNat n.toNat)=⟨acc.push (UInt8.ofNat n.toNat)⟩ from rfl,ih]
       congr 1
       apply Array.ext'
       simp
     have:=fold (L.map fun xx=>xx.n) #[]
     rw [show ByteArray.empty=⟨#[]⟩ from rfl,this]
     simp [List.map_map,Function.comp_def]
   simp only [execOp,ho,u]
   simp [hrun]
  ·cases hs
 ·cases hs
theorem look_view {t el:TypeId} {b:Nat} {T:Γ.X.Ty} {Y:Operand} {Lo Hi:Option Operand} {x:AX Γ.X} {lo hi:Option (AX Γ.X)} (ho:o.op=.slice t Y Lo Hi none) (ht:P.underlying t=some (.slice el)) (hsz:sizeO P el=some (Γ.X.sz T)) (hx:compX Γ K T0 Y=some x) (hlo:oX Γ K Lo=some lo) (hhi:oX Γ K Hi=some hi)
  (hs:eff ans g e o.dst (.view b T x lo hi)=some us):Looks N F0 B U w0 P e a w g o us:=by
 simp only [eff] at hs
 split at hs
 ·rename_i lo' hi' h1' h2'
  have b1:=oNat_some (a:=a) hX h hlo h1'
  have b2:=oNat_some (a:=a) hX h hhi h2'
  have run:∀ (ad:Option Addr) (len cap:Nat),a.eval Y=.slice ad len cap→len≤cap→lo'.getD 0≤hi'.getD len→hi'.getD len≤len→
    (execOp a.eval o).run P w=.ok (.value (.slice (if cap=lo'.getD 0 then ad else ad.map (·.add (lo'.getD 0*Γ.X.sz T))) (hi'.getD len - lo'.getD 0) (cap - lo'.getD 0))) w:=fun ad len cap hu hlc q1 q2=>by
   have hbnd:=run_bounds (P:=P) (w:=w) (isSlice:=true) (len:=len) (cap:=cap) (mx:=none) (m:=none) b1 b2 (.inl ⟨rfl,rfl⟩) hlc (.inl rfl) (by simp) (by simp only [Option.getD_none];omega) q1
   simp only [execOp,ho,hu]
   simp only [Instr.sliceAt,Instr.slice,Sem.run_bind,run_underlying' ht,Result.andThen_ok,Sem.run_pure,Option.map_none]
   rw [hbnd]
   simp only [Sem.run_bind,run_sizeO hsz,Result.andThen_ok,Sem.run_pure,Option.getD_none]
  split at hs
  ·rename_i s q g' h1
   split at hs
   ·rename_i b' t' l hc
    split at hs
    ·rename_i hbt
     obtain ⟨_,hoff,hs⟩:=Option.bind_eq_some_iff.1 hs
     cases hs
     obtain ⟨rfl,rfl⟩:=hbt
     unfold vw? at hoff
     split at hoff
     ·rename_i hi0
      obtain ⟨R,r1,r2,_⟩:=h.rd hX hx
      rw [h1] at r1 r2
      generalize hu:a.eval Y=u at r1
      cases r1 with
      | u h=>cases h
      | ref _ _ _ _ hq hh=>
       obtain ⟨u',Sx,k1,k2,k3⟩:=h.ownSl hX hc hq
       have hhd:=hh (by rw [hc];rfl)
       rw [k2] at hhd
       cases hhd
       obtain ⟨ad,cap,rfl,hlc⟩:=own_val k1
       refine ⟨_,run ad _ cap hu hlc hi0.1 hi0.2,?_⟩
       refine h.out hd hg (Hand.ofPure (.view s q g' _ _ _ hq fun b2 t2 l2 hc2=>?_) r2) trivial
       rw [hc] at hc2
       cases hc2
       exact ⟨hi0.1,hi0.2,ad,cap,_,_,k2,rfl,by omega,fun hlt=>by rw [if_neg (by omega)]⟩
     ·cases hoff
    ·cases hs
   ·cases hs
  ·rename_i T' v m h1
   split at hs
   ·rename_i hp
    split at hs
    ·rename_i v' hv
     obtain ⟨rfl,hv⟩:=castT_some hv
     simp only at hv;subst hv
     obtain ⟨r,hr,hs⟩:=Option.bind_eq_some_iff.1 hs
     cases hs
     obtain ⟨cs,R,k1,k2⟩:=h.rdVal hX hx h1
     obtain ⟨k3,_⟩:=k1.toPure hp
     unfold valOk at k2;rw [if_neg (by simp [aggB])] at k2
     subst k2
     generalize hu:a.eval Y=uY at k3
     cases k3 with
     | slice _ _ _ ad cap css hcap ha hpp=>
      obtain ⟨m1,m2⟩:=sub_rep hr hcap ha hpp
      refine ⟨_,run ad _ cap hu hcap m1.1 m1.2,?_⟩
      exact h.outV hd hg rfl (.pure m2) (by unfold valOk;rw [if_neg (by simp [aggB])])
    ·cases hs
   ·cases hs
  ·cases hs
 ·cases hs
omit hX h hg hd in
theorem run_copy {c:Call} {t t2 el:TypeId} {b2:Nat} {T:Γ.X.Ty} {Y Z:Operand} (hX:TabOk Γ.X) (ho:o.op=.call c) (hc:c.callee=.builtin .copy) (hat:c.argTypes=#[t,t2]) (hargs:c.args=#[Y,Z]) (ht:P.underlying t=some (.slice el)) (hsz:sizeO P el=some (Γ.X.sz T)) {m:Option Addr} {L c' n:Nat}
  {v2:Sl b2 (Γ.X.den T)} {ad2:Option Addr} {cap2:Nat} {css2:Nat→List Value} (hu:a.eval Y=.slice m L c') (u2:a.eval Z=.slice ad2 v2.l.length cap2) (a2:v2.l ≠ []→∃ blk o,ad2=some ⟨blk,o,none⟩∧blk < w.heap.size∧∀ (i j:Nat) u,i < v2.l.length→(css2 i)[j]?=some u→w.cell? ⟨blk,o+i*Γ.X.sz T+j,none⟩=some u)
  (p2:∀ (i:Nat) x,v2.l[i]?=some x→PRep w F T x (css2 i)) (hn:min L v2.l.length=n) {w':World} (hst:∀ a',m=some a'→(storeCells a' (cat css2 n)).run P w=.ok () w') (hno:m=none→w'=w):
  (execOp a.eval o).run P w=.ok (.value (goInt n)) w':=by
 have cl2:∀ i,i < v2.l.length→(css2 i).length=Γ.X.sz T:=fun i hi=>(p2 i _ (List.getElem?_eq_getElem hi)).length hX
 have hnm:Nat.min v2.l.length L=n:=by rw [←hn];exact Nat.min_comm _ _
 have hn2:n≤v2.l.length:=by omega
 have cln:∀ i,i < n→(css2 i).length=Γ.X.sz T:=fun i hi=>cl2 i (by omega)
 have hcl:(cat css2 n).length=n*Γ.X.sz T:=cat_length cln
 have hfirst:(Builtin.firstCells (Γ.X.sz T) n (.slice ad2 v2.l.length cap2)).run P w=.ok (cat css2 n).toArray w:=by
  cases ad2 with
  | none=>
   have hv2n:v2.l=[]:=Classical.byContradiction fun hne=>by obtain ⟨_,_,q1,_⟩:=a2 hne;cases q1
   have hn0:n=0:=by rw [hv2n] at hn2;simpa using hn2
   rw [hn0]
   exact run_firstCells_none w _ _ _ _
  | some a'=>
   refine run_firstCells_some w _ n a' _ _ (cat css2 n) hcl fun j uu hj=>?_
   obtain ⟨i',r,q1,q2,q3⟩:=cat_at cln hj
   obtain ⟨blk,oo,e1,_,e3⟩:=a2 (by intro hz;rw [hz] at hn2;simp at hn2;omega)
   cases e1
   rw [addr_add,q2,←Nat.add_assoc]
   exact e3 i' r uu (by omega) q3
 have hi:∃ i,P.info? el=some i∧i.size=Γ.X.sz T:=by
  unfold sizeO at hsz
  cases hq:P.info? el with
  | none=>simp [hq] at hsz
  | some i=>exact ⟨i,rfl,by simpa [hq] using hsz⟩
 obtain ⟨i,hi,his⟩:=hi
 have hcp:(Builtin.copy_ #[t,t2] o.type #[.slice m L c',.slice ad2 v2.l.length cap2]).run P w=.ok (goInt n) w':=by
  rw [←his] at hfirst
  cases m with
  | none=>rw [hno rfl];simp [Builtin.copy_,run_underlying ht,Builtin.lenOf,sizeOf,typeInfo,hi,hnm,hfirst]
  | some a'=>simp [Builtin.copy_,run_underlying ht,Builtin.lenOf,sizeOf,typeInfo,hi,hnm,hfirst,hst a' rfl]
 simp only [execOp,ho,resolve,hc,hargs,hat]
 simp [invoke,builtin,hu,u2,hcp]
omit hg hd in
theorem part_write {next:Act→World→Prop} {Q:Exit→Act→World→Prop} {b:Nat} {T:Γ.X.Ty} {s g' off:Nat} {q:List PS} {v1 vnew:Sl b (Γ.X.den T)} (hcont:cont e s q g'=some ⟨b,T,v1⟩) {T':Γ.X.Ty} {v:Γ.X.den T'} {o':Own} (hsC:slotC (e s)=some ⟨T',v,o'⟩)
  {v2l:List (Γ.X.den T)} (hvn2:vnew.l=cpL v1.l off v2l) {vn:Γ.X.den T'} (hset:setQ q T' v (.slice b T) vnew=some vn) (hq:onlyFld q=true) (hof:off≤v1.l.length) {ad m:Option Addr} {cp:Nat} (hhd:hdr e a w s q=some (.slice ad v1.l.length cp))
  (hm:off < v1.l.length→m=ad.map (·.add (off*Γ.X.sz T))) {n:Nat} (hn:min (v1.l.length - off) v2l.length=n) {css2:Nat→List Value} (p2:∀ (i:Nat) x,v2l[i]?=some x→PRep w F T x (css2 i)) {res:Value}
  (run:∀ w',(∀ a',m=some a'→(storeCells a' (cat css2 n)).run P w=.ok () w')→(m=none→w'=w)→(execOp a.eval o).run P w=.ok (.value res) w')
  (fin:∀ {S2:Nat→List Nat} {w':World},(execOp a.eval o).run P w=.ok (.value res) w'→EnvRel N F0 B U w0 F S2 (upd e s (withV (e s) T' vn o')) a w'→o.wp P a w next Q):o.wp P a w next Q:=by
 obtain ⟨u',Sx,k1,k2,k3⟩:=h.ownSl hX hcont hq
 obtain ⟨T2,w2,o2,hc1,hc2,hc3⟩:=cont_some hcont
 rw [hsC] at hc1;cases hc1
 have cl2:∀ i,i < v2l.length→(css2 i).length=Γ.X.sz T:=fun i hi=>(p2 i _ (List.getElem?_eq_getElem hi)).length hX
 have hn2:n≤v2l.length:=by omega
 have hn1:off+n≤v1.l.length:=by omega
 have cln:∀ i,i < n→(css2 i).length=Γ.X.sz T:=fun i hi=>cl2 i (by omega)
 have hcl:(cat css2 n).length=n*Γ.X.sz T:=cat_length cln
 by_cases hne:v1.l=[]
 ·
  have hn0:n=0:=by rw [hne] at hn1;simp at hn1;omega
  have hoff0:off=0:=by rw [hne] at hof;simpa using hof
  have hsame:vnew=v1:=Sl.ext (by rw [hvn2,hne];simp [cpL])
  rw [hsame] at hset
  have hvn:=(setQ_self hX (tyQ_of_getQ hq hc2) hc2).symm.trans hset
  cases hvn
  have hwv:upd e s (withV (e s) T' v o')=e:=by
   funext z
   unfold upd
   split
   ·rename_i hz
    subst hz
    rcases slotC_some hsC with hv0 | ⟨gb,hv0⟩<;>rw [hv0]<;>rfl
   ·rfl
  refine fin (S2:=S) (w':=w) (run w (fun a' _=>by rw [hn0];rfl) fun _=>rfl) ?_
  rw [hwv];exact h
 ·obtain ⟨blk,cap,cells,ty,css,e1,e2,e3,e4,e5,e6,e7,e8⟩:=own_inv k1 hne
  subst e1 e2
  rw [hhd] at k2;cases k2
  have hblk:blk∈S s:=k3 blk (by simp)
  obtain ⟨hBb,hbw,hbF⟩:=h.own s blk hblk
  have hle:(off+n)*Γ.X.sz T≤cp*Γ.X.sz T:=Nat.mul_le_mul_right _ (by omega)
  rw [Nat.add_mul] at hle
  generalize hnc:(cells.toList.take (off*Γ.X.sz T)++cat css2 n++cells.toList.drop (off*Γ.X.sz T+(cat css2 n).length)).toArray=nc
  have hncs:nc.size=cells.size:=by rw [←hnc];simp;omega
  have hst:=run_storeCells_at P blk (off*Γ.X.sz T) ty (cat css2 n) 0 cells w e3 (by simp only [Nat.add_zero];omega) (cat_mem fun i hi c hc=>(p2 i _ (List.getElem?_eq_getElem (by omega))).one c hc)
  simp only [Nat.add_zero] at hst
  rw [hnc] at hst
  have hrun:(execOp a.eval o).run P w=.ok (.value res) (w.setRow blk nc):=by
   by_cases hlt:off < v1.l.length
   ·refine run _ (fun a' ha'=>?_) fun hno=>?_
    ·rw [hm hlt] at ha'
     simp only [Option.map_some,Option.some.injEq] at ha'
     rw [←ha',addr_add,Nat.zero_add]
     exact hst
    ·rw [hm hlt] at hno;cases hno
   ·have hn0:n=0:=by omega
    have hnil:cat css2 n=[]:=by rw [hn0];rfl
    have hw:w.setRow blk nc=w:=by
     rw [←hnc,hnil]
     simp only [List.append_nil,List.length_nil,Nat.add_zero,List.take_append_drop,Array.toArray_toList]
     exact setRow_self w blk cells ty (0,0) e3
    rw [hw]
    exact run w (fun a' _=>by rw [hnil];rfl) fun _=>rfl
  have hF':∀ b',F b'→(w.setRow blk nc).heap[b']?=w.heap[b']?:=fun b' hb'=>row_other fun he=>hbF (he ▸ hb')
  have hnew:(w.setRow blk nc).heap[blk]?=some (.cells nc ty (0,0)):=setRow_heap w blk cells _ ty (0,0) e3
  have hll:vnew.l.length=v1.l.length:=by rw [hvn2];exact cpL_length _ _ _
  have hnin:∀ (j:Nat) u,(cat css2 n)[j]?=some u→nc[off*Γ.X.sz T+j]?=some u:=fun j u hj=>by
   have hjl:j < (cat css2 n).length:=(List.getElem?_eq_some_iff.1 hj).1
   rw [←hnc,List.getElem?_toArray,List.append_assoc,List.getElem?_append_right (by simp;omega),List.getElem?_append_left (by simp;omega)]
   rw [←hj];congr 1;simp;omega
  have hnout:∀ m,m < off*Γ.X.sz T∨off*Γ.X.sz T+(cat css2 n).length≤m→nc[m]?=cells[m]?:=fun m hm=>by
   rw [←hnc,List.getElem?_toArray]
   rcases hm with hm | hm
   ·rw [List.append_assoc,List.getElem?_append_left (by simp;omega),List.getElem?_take_of_lt hm,Array.getElem?_toList]
   ·rw [List.getElem?_append_right (by simp;omega),List.getElem?_drop,←Array.getElem?_toList]
    congr 1;simp;omega
  have hsl:VRep (w.setRow blk nc) F (.slice b T) (vnew) (.yes g') [.slice (some ⟨blk,0,none⟩) v1.l.length cp] [blk]:=by
   have:=VRep.own (w:=w.setRow blk nc) (F:=F) b T (vnew) g' blk cp nc ty (fun k=>if off≤k∧k < off+n then css2 (k - off) else css k) hnew (by rw [hncs];exact e4) (by rw [hll];exact e5) e6
    (fun k j u hk hj=>by
     rw [hll] at hk
     split at hj
     ·rename_i hkr
      have hjl:j < Γ.X.sz T:=by rw [←cln (k - off) (by omega)];exact (List.getElem?_eq_some_iff.1 hj).1
      have:=hnin ((k - off)*Γ.X.sz T+j) u (by rw [cat_get cln (by omega) hjl];exact hj)
      rw [←this]
      congr 1
      rw [←Nat.add_assoc,←Nat.add_mul]
      congr 2;omega
     ·rename_i hkr
      have hkl:(css k).length=Γ.X.sz T:=(e8 k _ (List.getElem?_eq_getElem hk)).length hX
      have hjl:j < Γ.X.sz T:=by rw [←hkl];exact (List.getElem?_eq_some_iff.1 hj).1
      rw [hnout _ ?_]
      ·exact e7 k j u hk hj
      ·rw [hcl]
       rcases Nat.lt_or_ge k off with hlt | hge
       ·have:(k+1)*Γ.X.sz T≤off*Γ.X.sz T:=Nat.mul_le_mul_right _ hlt
        rw [Nat.succ_mul] at this
        exact .inl (by omega)
       ·have:(off+n)*Γ.X.sz T≤k*Γ.X.sz T:=Nat.mul_le_mul_right _ (by omega)
        rw [Nat.add_mul] at this
        exact .inr (by omega))
    (fun k xx hk=>by
     have hk:(cpL v1.l off v2l)[k]?=some xx:=by rw [←hvn2];exact hk
     rw [cpL_get hof,hn] at hk
     split at hk
     ·rename_i hkr
      rw [if_pos hkr]
      exact (p2 _ xx hk).mono (fun _ h=>h) hF'
     ·rename_i hkr
      rw [if_neg hkr]
      exact (e8 k xx hk).mono (fun _ h=>h) hF')
   rw [hll] at this
   exact this
  exact fin hrun (h.writeSl hX hq hsC hc2 hc3 hne hll hset hhd e3 hblk hsl)
omit hg hd in
theorem vw_facts {TY:Option Γ.X.Ty} {Y:Operand} {x:AX Γ.X} (hcY:compX Γ K TY Y=some x) {s g' off b:Nat} {q:List PS} {T:Γ.X.Ty} {v1:Sl b (Γ.X.den T)} (hrx:vwOf (Go.A2.rd e x)=some (s,q,g',off)) (hcont:cont e s q g'=some ⟨b,T,v1⟩):
  onlyFld q=true∧off≤v1.l.length∧∃ ad c m c',hdr e a w s q=some (.slice ad v1.l.length c)∧a.eval Y=.slice m (v1.l.length - off) c'∧(off < v1.l.length→m=ad.map (·.add (off*Γ.X.sz T))):=by
 obtain ⟨R,r1,r2,_⟩:=h.rd hX hcY
 generalize a.eval Y=u at r1
 generalize Go.A2.rd e x=z at hrx r1
 unfold vwOf at hrx
 split at hrx
 ·cases hrx
  cases r1 with
  | u h=>cases h
  | view _ _ _ _ _ _ hq hh=>
   obtain ⟨hof,_,ad,cp,m,c',hhd,hu,_,hm⟩:=hh _ _ _ hcont
   exact ⟨hq,hof,ad,cp,m,c',hhd,hu,hm⟩
 ·cases hrx
  cases r1 with
  | u h=>cases h
  | ref _ _ _ _ hq hh=>
   obtain ⟨u',Sx,k1,k2,k3⟩:=h.ownSl hX hcont hq
   have hhd:=hh (by rw [hcont];rfl)
   rw [k2] at hhd
   cases hhd
   obtain ⟨ad,cap,rfl,hlc⟩:=own_val k1
   refine ⟨hq,Nat.zero_le _,ad,cap,ad,cap,k2,rfl,fun hlt=>?_⟩
   obtain ⟨blk,cap',cells,ty,css,e1,_⟩:=own_inv k1 (by intro hn;rw [hn] at hlt;simp at hlt)
   cases e1
   simp [addr_add]
 ·cases hrx
omit hX h hg hd in
theorem run_clr {c:Call} {t el:TypeId} {Y:Operand} (ho:o.op=.call c) (hc:c.callee=.builtin .clear) (hat:c.argTypes=#[t]) (hargs:c.args=#[Y]) (ht:P.underlying t=some (.slice el)) {i:TypeInfo} {z:Value} (hi:P.info? el=some i) (hz:i.zero=some z) {m:Option Addr} {n c':Nat}
  (hu:a.eval Y=.slice m n c') {w':World} (hst:∀ a',m=some a'→(storeCells a' (cat (fun _=>z.cells.toList) n)).run P w=.ok () w') (hno:m=none→w'=w):(execOp a.eval o).run P w=.ok (.value (.tuple #[])) w':=by
 have hcl:(Builtin.clear_ #[t] o.type #[.slice m n c']).run P w=.ok (.tuple #[]) w':=by
  cases m with
  | none=>rw [hno rfl];simp [Builtin.clear_,run_underlying ht]
  | some a'=>
   cases n with
   | zero=>
    have h0:w'=w:=by
     have:=hst a' rfl
     rw [cat_zero] at this
     simp [storeCells] at this
     first | exact this.symm | exact this
    rw [h0];simp [Builtin.clear_,run_underlying ht]
   | succ n=>
    have:=hst a' rfl
    rw [←zeroCells_cat] at this
    simp [Builtin.clear_,run_underlying ht,zeroValue,run_typeInfo' hi,hz,this]
 simp only [execOp,ho,resolve,hc,hargs,hat]
 simp [invoke,builtin,hu,hcl]
theorem step_clr {next:Act→World→Prop} {Q:Exit→Act→World→Prop} (hnext:∀ a' w',Sim N F0 B (withG U g) w0 (applyU e us) a' w'→next a' w') {c:Call} {t el:TypeId} {b:Nat} {T:Γ.X.Ty} {ts:List TypeId} {x:AX Γ.X} (ho:o.op=.call c) (hc:c.callee=.builtin .clear)
  (hty:c.argTypes.toList=[t]) (hx:argsC Γ K ts c.args.toList=some [x]) (ht:P.underlying t=some (.slice el)) (hsz:sizeO P el=some (Γ.X.sz T)) (hzo:zeroOk P Γ el T=true) (hs:eff ans g e o.dst (.clr b T x)=some us):o.wp P a w next Q:=by
 obtain ⟨l1,h2⟩:=argsC_spec hx
 obtain ⟨TY,Y,hY,hcY⟩:=h2 0 x rfl
 have hargs:c.args=#[Y]:=by
  rw [←Array.toList_inj]
  generalize c.args.toList=L at l1 hY
  match L,l1,hY with
  | [_],_,hY=>simp at hY;rw [hY]
 have hat:c.argTypes=#[t]:=by rw [←Array.toList_inj,hty]
 simp only [eff] at hs
 split at hs
 ·rename_i s q g' off hrx
  split at hs
  ·rename_i b1 t1 v1 T' v o' hcont hsC
   split at hs
   ·rename_i v1' hv1
    obtain ⟨he1,hv1⟩:=castT_some hv1
    cases he1
    simp only at hv1;subst hv1
    split at hs
    ·rename_i vn hset
     cases hs
     have facts:=vw_facts hX h hcY hrx hcont
     generalize hu:a.eval Y=u at facts
     obtain ⟨hq,hof,ad,cp,m,c',hhd,rfl,hm⟩:=facts
     obtain ⟨i,z,z1,z2,z3⟩:=zeroOk_some hX hzo w F
     refine part_write hX h hcont hsC (v2l:=List.replicate (v1.l.length - off) (Γ.X.zero T)) rfl hset hq hof hhd hm (n:=v1.l.length - off) (by rw [List.length_replicate,Nat.min_self]) (css2:=fun _=>z.cells.toList) (fun i y hi=>?_) (res:=.tuple #[])
      (fun w' hst hno=>run_clr ho hc hat hargs ht z1 z2 hu hst hno) fun {S2 w'} hr k=>?_
     ·rw [List.getElem?_replicate] at hi
      split at hi
      ·cases hi;exact z3
      ·cases hi
     ·unfold Oper.wp
      rw [hr]
      refine hnext _ _ ?_
      refine k.out hd hg (x:=.tup []) (u:=.tuple #[]) (Hand.ofPure ?_ trivial) trivial
      exact .tup [] [] (fun _=>[]) rfl fun i y u hy=>by simp at hy
    ·cases hs
   ·cases hs
  ·cases hs
 ·cases hs
theorem step_copy {next:Act→World→Prop} {Q:Exit→Act→World→Prop} (hnext:∀ a' w',Sim N F0 B (withG U g) w0 (applyU e us) a' w'→next a' w') {c:Call} {t t2 el:TypeId} {b:Nat} {T:Γ.X.Ty} {ts:List TypeId} {x y:AX Γ.X} (ho:o.op=.call c) (hc:c.callee=.builtin .copy)
  (hty:c.argTypes.toList=[t,t2]) (hx:argsC Γ K ts c.args.toList=some [x,y]) (ht:P.underlying t=some (.slice el)) (hsz:sizeO P el=some (Γ.X.sz T)) (hs:eff ans g e o.dst (.copy b T x y)=some us):o.wp P a w next Q:=by
 obtain ⟨l1,h2⟩:=argsC_spec hx
 obtain ⟨TY,Y,hY,hcY⟩:=h2 0 x rfl
 obtain ⟨TZ,Z,hZ,hcZ⟩:=h2 1 y rfl
 have hargs:c.args=#[Y,Z]:=by
  rw [←Array.toList_inj]
  generalize c.args.toList=L at l1 hY hZ
  match L,l1,hY,hZ with
  | [_,_],_,hY,hZ=>simp at hY hZ;rw [hY,hZ]
 have hat:c.argTypes=#[t,t2]:=by rw [←Array.toList_inj,hty]
 simp only [eff] at hs
 split at hs
 ·rename_i s q g' off hrx
  split at hs
  ·rename_i b1 t1 v1 b2 t2' v2 T' v o' hcont hsl hsC
   split at hs
   ·rename_i v1' v2' hv1 hv2
    obtain ⟨he1,hv1⟩:=castT_some hv1
    cases he1
    simp only at hv1;subst hv1
    obtain ⟨he2,hv2⟩:=castT_some hv2
    cases he2
    simp only at hv2;subst hv2
    split at hs
    ·rename_i vn hset
     cases hs
     have facts:=vw_facts hX h hcY hrx hcont
     generalize hu:a.eval Y=u at facts
     obtain ⟨hq,hof,ad,cp,m,c',hhd,rfl,hm⟩:=facts
     have hh:True:=trivial
     cases hh with
     | intro=>
      obtain ⟨u',Sx,k1,k2,k3⟩:=h.ownSl hX hcont hq
      obtain ⟨ad2,cap2,css2,u2,c2,a2,p2⟩:=h.rdSl hX hcZ hsl
      obtain ⟨T2,w2,o2,hc1,hc2,hc3⟩:=cont_some hcont
      rw [hsC] at hc1;cases hc1
      have cl2:∀ i,i < v2.l.length→(css2 i).length=Γ.X.sz T:=fun i hi=>(p2 i _ (List.getElem?_eq_getElem hi)).length hX
      generalize hn:min (v1.l.length - off) v2.l.length=n
      have hn2:n≤v2.l.length:=by omega
      have hn1:off+n≤v1.l.length:=by omega
      have cln:∀ i,i < n→(css2 i).length=Γ.X.sz T:=fun i hi=>cl2 i (by omega)
      have hcl:(cat css2 n).length=n*Γ.X.sz T:=cat_length cln
      have hroom:=v1.h
      have hmx:=maxLen_room hroom.2
      have hlenW:(Sl.copyLen v1 off v2).n=(n:Int):=by
       unfold Sl.copyLen
       rw [hn]
       show IntKind.wrap .i64 (n:Int)=n
       have h1:n≤v1.l.length:=by omega
       have h2:=hroom.2
       unfold room at h2
       exact wrap_nat (by omega)
      have run:∀ w',(∀ a',m=some a'→(storeCells a' (cat css2 n)).run P w=.ok () w')→(m=none→w'=w)→(execOp a.eval o).run P w=.ok (.value (.int .i64 (Sl.copyLen v1 off v2).n)) w':=fun w' hst hno=>by
       rw [run_copy hX ho hc hat hargs ht hsz hu u2 a2 p2 hn hst hno,hlenW];rfl
      have fin:∀ {S2:Nat→List Nat} {w':World},(execOp a.eval o).run P w=.ok (.value (.int .i64 (Sl.copyLen v1 off v2).n)) w'→EnvRel N F0 B U w0 F S2 (upd e s (withV (e s) T' vn o')) a w'→o.wp P a w next Q:=fun {S2 w'} hr k=>by
       unfold Oper.wp
       rw [hr]
       refine hnext _ _ ?_
       exact k.outV hd hg rfl (.pure (.int .i64 (Sl.copyLen v1 off v2))) (by unfold valOk;rw [if_neg (by simp [aggB])])
      exact part_write hX h hcont hsC rfl hset hq hof hhd hm hn p2 run fin
    ·cases hs
   ·cases hs
  ·cases hs
 ·split at hs
  ·rename_i bs q b' n t' off hi hrx
   split at hs
   ·rename_i hbt
    obtain ⟨rfl,rfl,rfl⟩:=hbt
    split at hs
    ·rename_i v b2 t2' v2 hdr hsl
     split at hs
     ·rename_i v2' hv2
      obtain ⟨he2,hv2⟩:=castT_some hv2
      cases he2
      simp only at hv2;subst hv2
      split at hs
      ·rename_i u hst
       cases hs
       obtain ⟨R,r1,r2,_⟩:=h.rd hX hcY
       rw [hrx] at r1
       generalize hu:a.eval Y=uu at r1
       cases r1 with
       | u h=>cases h
       | aview _ _ _ _ _ _ _ blk off' c' m hp q1 _ q3 q4=>
        obtain ⟨cells,ty,css,e1,e2,e3,e4⟩:=h.arrAt hX hdr hp
        obtain ⟨ad2,cap2,css2,u2,c2,a2,p2⟩:=h.rdSl hX hcZ hsl
        have hvl:v.l.length=hi:=v.h
        generalize hn:min (hi - off) v2.l.length=n
        have hn2:n≤v2.l.length:=by omega
        have hn1:off+n≤hi:=by omega
        have cl1:∀ i,i < hi→(css i).length=Γ.X.sz t':=fun i hi'=>(e4 i _ (List.getElem?_eq_getElem (by omega))).length hX
        have cl2:∀ i,i < n→(css2 i).length=Γ.X.sz t':=fun i hi=>(p2 i _ (List.getElem?_eq_getElem (by omega))).length hX
        have hcl:(cat css2 n).length=n*Γ.X.sz t':=cat_length cl2
        have hv2r:=v2.h.2
        have hlenW:(Arr.copyLen (b:=b') v off v2).n=(n:Int):=by
         unfold Arr.copyLen
         rw [hn]
         show IntKind.wrap .i64 (n:Int)=n
         unfold room at hv2r
         exact wrap_nat (by omega)
        obtain ⟨css',hcss'⟩:∃ css':Nat→List Value,css'=fun k=>if off≤k∧k < off+n then css2 (k - off) else css k:=⟨_,rfl⟩
        have hnew:PRep w F (.arr hi t') (Arr.copy (b:=b') v off v2) (cat css' hi):=by
         refine .arr hi t' _ css' fun k xx hk=>?_
         have hk:(cpL v.l off v2.l)[k]?=some xx:=hk
         rw [cpL_get (by omega),hvl,hn] at hk
         rw [hcss']
         simp only []
         split at hk
         ·rename_i hkr
          rw [if_pos hkr];exact p2 _ xx hk
         ·rename_i hkr
          rw [if_neg hkr];exact e4 k xx hk
        have cl':∀ i,i < hi→(css' i).length=Γ.X.sz t':=fun i hi'=>by
         rw [hcss'];simp only []
         split
         ·exact cl2 _ (by omega)
         ·exact cl1 i hi'
        have hcl':(cat css' hi).length=hi*Γ.X.sz t':=cat_length cl'
        obtain ⟨b0,o0,cells0,ty0,S2,z1,z2,z3,z4⟩:=h.storeV hX hg hst hp (.pure hnew) List.nodup_nil (by simp) (by simp)
        cases z1
        rw [e1] at z2;cases z2
        have hle:(off+n)*Γ.X.sz t'≤hi*Γ.X.sz t':=Nat.mul_le_mul_right _ hn1
        rw [Nat.add_mul] at hle
        rw [hcl'] at z3
        have hrow:cells.toList.take (off'+off*Γ.X.sz t')++cat css2 n++cells.toList.drop (off'+off*Γ.X.sz t'+(cat css2 n).length)=cells.toList.take off'++cat css' hi++cells.toList.drop (off'+(cat css' hi).length):=by
         have hsz':cells.toList.length=cells.size:=Array.length_toList
         refine List.ext_getElem? fun k=>?_
         rw [hcl,hcl']
         have out:(k < off'+off*Γ.X.sz t'∨off'+off*Γ.X.sz t'+n*Γ.X.sz t'≤k)→(cells.toList.take (off'+off*Γ.X.sz t')++cat css2 n++cells.toList.drop (off'+off*Γ.X.sz t'+n*Γ.X.sz t'))[k]?=cells[k]?:=fun hk=>by
          rcases hk with hk | hk
          ·rw [List.append_assoc,List.getElem?_append_left (by simp;omega),List.getElem?_take_of_lt hk,Array.getElem?_toList]
          ·rw [List.getElem?_append_right (by simp;omega),List.getElem?_drop,←Array.getElem?_toList]
           congr 1;simp;omega
         by_cases hk1:k < off'
         ·rw [out (.inl (by omega)),List.append_assoc,List.getElem?_append_left (by simp;omega),List.getElem?_take_of_lt hk1,Array.getElem?_toList]
         ·by_cases hk2:k < off'+hi*Γ.X.sz t'
          ·have hR:(cells.toList.take off'++cat css' hi++cells.toList.drop (off'+hi*Γ.X.sz t'))[k]?=(cat css' hi)[k - off']?:=by
            rw [List.append_assoc,List.getElem?_append_right (by simp;omega),List.getElem?_append_left (by simp;omega)]
            congr 1;simp;omega
           obtain ⟨u',hu'⟩:∃ u',(cat css' hi)[k - off']?=some u':=⟨_,List.getElem?_eq_getElem (by omega)⟩
           rw [hR,hu']
           obtain ⟨i,r,w1,w2,w3⟩:=cat_at cl' hu'
           have hr:r < Γ.X.sz t':=by rw [←cl' i w1];exact (List.getElem?_eq_some_iff.1 w3).1
           rw [hcss'] at w3;simp only [] at w3
           split at w3
           ·rename_i hir
            have h1:(i - off)*Γ.X.sz t'+off*Γ.X.sz t'=i*Γ.X.sz t':=by rw [←Nat.add_mul];congr 1;omega
            have h2:(i - off+1)*Γ.X.sz t'≤n*Γ.X.sz t':=Nat.mul_le_mul_right _ (by omega)
            rw [Nat.succ_mul] at h2
            rw [List.append_assoc,List.getElem?_append_right (by simp;omega),List.getElem?_append_left (by simp;omega)]
            have:k - (List.take (off'+off*Γ.X.sz t') cells.toList).length=(i - off)*Γ.X.sz t'+r:=by simp;omega
            rw [this,cat_get cl2 (by omega) hr,w3]
           ·rename_i hir
            rw [out ?_]
            ·have:=e3 (i*Γ.X.sz t'+r) u' (by rw [cat_get cl1 w1 hr,w3])
             rw [←this];congr 1;omega
            ·rcases Nat.lt_or_ge i off with hlt | hge
             ·have:(i+1)*Γ.X.sz t'≤off*Γ.X.sz t':=Nat.mul_le_mul_right _ hlt
              rw [Nat.succ_mul] at this
              exact .inl (by omega)
             ·have:(off+n)*Γ.X.sz t'≤i*Γ.X.sz t':=Nat.mul_le_mul_right _ (by omega)
              rw [Nat.add_mul] at this
              exact .inr (by omega)
          ·rw [out (.inr (by omega)),List.getElem?_append_right (by simp;omega),List.getElem?_drop,←Array.getElem?_toList]
           congr 1;simp;omega
        have hst2:=run_storeCells_at P blk (off'+off*Γ.X.sz t') ty (cat css2 n) 0 cells w e1 (by simp only [Nat.add_zero];omega) (cat_mem fun i hi c hc=>(p2 i _ (List.getElem?_eq_getElem (by omega))).one c hc)
        simp only [Nat.add_zero] at hst2
        rw [hrow] at hst2
        have hrun:(execOp a.eval o).run P w=.ok (.value (.int .i64 (Arr.copyLen (b:=b') v off v2).n)) (w.setRow blk (cells.toList.take off'++cat css' hi++cells.toList.drop (off'+(cat css' hi).length)).toArray):=by
         have hz0:∀ w',(∀ a',m=some a'→(storeCells a' (cat css2 n)).run P w=.ok () w')→(m=none→w'=w)→(execOp a.eval o).run P w=.ok (.value (.int .i64 (Arr.copyLen (b:=b') v off v2).n)) w':=fun w' hst hno=>by
          rw [run_copy hX ho hc hat hargs ht hsz hu u2 a2 p2 hn hst hno,hlenW];rfl
         by_cases hlt:off < hi
         ·refine hz0 _ (fun a' ha'=>?_) fun hno=>?_
          ·rw [q4 hlt] at ha';cases ha'
           exact hst2
          ·rw [q4 hlt] at hno;cases hno
         ·have hn0:n=0:=by omega
          have hw:w.setRow blk (cells.toList.take off'++cat css' hi++cells.toList.drop (off'+(cat css' hi).length)).toArray=w:=by
           rw [←hrow,hn0]
           show w.setRow blk (List.take _ _++[]++List.drop (_+0) _).toArray=w
           simp only [List.append_nil,Nat.add_zero,List.take_append_drop,Array.toArray_toList]
           exact setRow_self w blk cells ty (0,0) e1
          rw [hw]
          exact hz0 w (fun a' _=>by rw [hn0];rfl) fun _=>rfl
        unfold Oper.wp
        rw [hrun]
        refine hnext _ _ ?_
        rw [applyU_append]
        have hh:Hand B (withG U g) F S2 (applyU e u) a (w.setRow blk (cells.toList.take off'++cat css' hi++cells.toList.drop (off'+(cat css' hi).length)).toArray) (.val (.int .i64) (Arr.copyLen (b:=b') v off v2) .no:AV Γ.X) (.int .i64 (Arr.copyLen (b:=b') v off v2).n) []:=Hand.ofPure (.u (.val (.int .i64) (Arr.copyLen (b:=b') v off v2) .no _ _ [] (.pure (.int .i64 _)) (by unfold valOk;rw [if_neg (by simp [aggB])]))) trivial
        cases hdd:o.dst with
        | none=>exact ⟨F,_,z4⟩
        | some dd=>exact ⟨F,_,z4.setP (hd dd hdd) hh fun Q=>trivial⟩
      ·cases hs
     ·cases hs
    ·cases hs
   ·cases hs
  ·cases hs
end
end
end Go.A2
namespace Go.A2
section
variable {P:Program} {Γ:Cx}
theorem mapC_some {t:TypeId} {k T:Γ.X.Ty} (h:mapC P Γ t=some (k,T)):∃ kt et,P.underlying t=some (.map kt et)∧keyC P Γ kt k=true∧zeroOk P Γ et T=true∧zShape P Γ et T=true:=by
 unfold mapC at h
 split at h
 ·rename_i kt et k' T' h1 h2
  split at h
  ·rename_i hc
   simp only [Bool.and_eq_true] at hc
   simp only [Option.some.injEq,Prod.mk.injEq] at h
   obtain ⟨rfl,rfl⟩:=h
   exact ⟨kt,et,h1,hc.1.1,hc.1.2,hc.2⟩
  ·cases h
 ·cases h
structure MEnt (w:World) (F:Nat→Prop) (k T:Γ.X.Ty) (en:MapEntry) (x:Γ.X.den k×Γ.X.den T):Prop where
 key:∃ cs,PRep w F k x.1 cs∧valOk k cs en.key
 val:∃ cs,PRep w F T x.2 cs∧valOk T cs en.val
def MEnts (w:World) (F:Nat→Prop) (k T:Γ.X.Ty):List MapEntry→List (Γ.X.den k×Γ.X.den T)→Prop
 | [],[]=>True
 | en :: es,x :: l=>MEnt w F k T en x∧MEnts w F k T es l
 | _,_=>False
theorem MEnts.length {w:World} {F:Nat→Prop} {k T:Γ.X.Ty}:∀ {es:List MapEntry} {l:List (Γ.X.den k×Γ.X.den T)},MEnts w F k T es l→es.length=l.length
 | [],[],_=>rfl
 | _ :: _,_ :: _,h=>by simp [MEnts.length h.2]
theorem MEnts.get {w:World} {F:Nat→Prop} {k T:Γ.X.Ty}:∀ {es:List MapEntry} {l:List (Γ.X.den k×Γ.X.den T)},MEnts w F k T es l→∀ {i:Nat} {en x},es[i]?=some en→l[i]?=some x→MEnt w F k T en x
 | [],[],_,i,en,x,h,_=>by simp at h
 | _ :: _,_ :: _,h,0,en,x,h1,h2=>by simp at h1 h2;subst h1 h2;exact h.1
 | _ :: _,_ :: _,h,i+1,en,x,h1,h2=>h.2.get (by simpa using h1) (by simpa using h2)
theorem MEnts.of {w:World} {F:Nat→Prop} {k T:Γ.X.Ty}:∀ {es:List MapEntry} {l:List (Γ.X.den k×Γ.X.den T)},es.length=l.length→(∀ (i:Nat) en x,es[i]?=some en→l[i]?=some x→MEnt w F k T en x)→MEnts w F k T es l
 | [],[],_,_=>trivial
 | _ :: _,_ :: _,hl,h=>⟨h 0 _ _ rfl rfl,MEnts.of (by simpa using hl) fun i en x h1 h2=>h (i+1) en x (by simpa using h1) (by simpa using h2)⟩
 | [],_ :: _,hl,_=>by simp at hl
 | _ :: _,[],hl,_=>by simp at hl
theorem MEnts.append {w:World} {F:Nat→Prop} {k T:Γ.X.Ty} {en:MapEntry} {x:Γ.X.den k×Γ.X.den T} (hx:MEnt w F k T en x):∀ {es:List MapEntry} {l:List (Γ.X.den k×Γ.X.den T)},MEnts w F k T es l→MEnts w F k T (es++[en]) (l++[x])
 | [],[],_=>⟨hx,trivial⟩
 | _ :: _,_ :: _,h=>⟨h.1,MEnts.append hx h.2⟩
theorem MEnts.set {w:World} {F:Nat→Prop} {k T:Γ.X.Ty} {en:MapEntry} {x:Γ.X.den k×Γ.X.den T} (hx:MEnt w F k T en x):∀ {es:List MapEntry} {l:List (Γ.X.den k×Γ.X.den T)} (i:Nat),MEnts w F k T es l→MEnts w F k T (es.set i en) (l.set i x)
 | [],[],i,_=>trivial
 | _ :: _,_ :: _,0,h=>⟨hx,h.2⟩
 | _ :: _,_ :: _,i+1,h=>⟨h.1,MEnts.set hx i h.2⟩
theorem MEnts.erase {w:World} {F:Nat→Prop} {k T:Γ.X.Ty}:∀ {es:List MapEntry} {l:List (Γ.X.den k×Γ.X.den T)} (i:Nat),MEnts w F k T es l→MEnts w F k T (es.eraseIdx i) (l.eraseIdx i)
 | [],[],i,_=>trivial
 | _ :: _,_ :: _,0,h=>h.2
 | _ :: _,_ :: _,i+1,h=>⟨h.1,MEnts.erase i h.2⟩
theorem MEnts.mono {w w':World} {F F':Nat→Prop} (hF:∀ b,F b→F' b) (hw:∀ b,F b→w'.heap[b]?=w.heap[b]?) {k T:Γ.X.Ty}:∀ {es:List MapEntry} {l:List (Γ.X.den k×Γ.X.den T)},MEnts w F k T es l→MEnts w' F' k T es l
 | [],[],_=>trivial
 | _ :: _,_ :: _,h=>⟨⟨let ⟨cs,a,b⟩:=h.1.key;⟨cs,a.mono hF hw,b⟩,let ⟨cs,a,b⟩:=h.1.val;⟨cs,a.mono hF hw,b⟩⟩,MEnts.mono hF hw h.2⟩
theorem choose_list {α:Type} {Q:Nat→List Value→Prop} {l:List α} (h:∀ (i:Nat) x,l[i]?=some x→∃ cs,Q i cs):∃ f:Nat→List Value,∀ (i:Nat) x,l[i]?=some x→Q i (f i):=by
 classical
 refine ⟨fun i=>if hi:i < l.length then Classical.choose (h i l[i] (List.getElem?_eq_getElem hi)) else [],fun i x hx=>?_⟩
 have hi:=(List.getElem?_eq_some_iff.1 hx).1
 simp only [dif_pos hi]
 exact Classical.choose_spec (h i l[i] (List.getElem?_eq_getElem hi))
theorem MEnts.vrep {w:World} {F:Nat→Prop} {k T:Γ.X.Ty} {es:Array MapEntry} {l:List (Γ.X.den k×Γ.X.den T)} {b ck g:Nat} (hg:w.heap[b]?=some (.map es ck)) (h:MEnts w F k T es.toList l):VRep w F (.map k T) l (.yes g) [.map (some b)] [b]:=by
 have hl:=h.length
 obtain ⟨kss,hk⟩:=choose_list (l:=l) (Q:=fun i cs=>∀ en x,es.toList[i]?=some en→l[i]?=some x→PRep w F k x.1 cs∧valOk k cs en.key) fun i x hx=>by
  have hi:i < es.toList.length:=by rw [hl];exact (List.getElem?_eq_some_iff.1 hx).1
  obtain ⟨cs,c1,c2⟩:=(h.get (List.getElem?_eq_getElem hi) hx).key
  refine ⟨cs,fun en y h1 h2=>?_⟩
  rw [hx] at h2;cases h2
  rw [List.getElem?_eq_getElem hi] at h1;cases h1
  exact ⟨c1,c2⟩
 obtain ⟨vss,hv⟩:=choose_list (l:=l) (Q:=fun i cs=>∀ en x,es.toList[i]?=some en→l[i]?=some x→PRep w F T x.2 cs∧valOk T cs en.val) fun i x hx=>by
  have hi:i < es.toList.length:=by rw [hl];exact (List.getElem?_eq_some_iff.1 hx).1
  obtain ⟨cs,c1,c2⟩:=(h.get (List.getElem?_eq_getElem hi) hx).val
  refine ⟨cs,fun en y h1 h2=>?_⟩
  rw [hx] at h2;cases h2
  rw [List.getElem?_eq_getElem hi] at h1;cases h1
  exact ⟨c1,c2⟩
 have back:∀ {i:Nat} {en},es.toList[i]?=some en→∃ x,l[i]?=some x:=fun {i en} hi=>⟨_,List.getElem?_eq_getElem (by rw [←hl];exact (List.getElem?_eq_some_iff.1 hi).1)⟩
 have front:∀ {i:Nat} {x},l[i]?=some x→∃ en,es.toList[i]?=some en:=fun {i x} hi=>⟨_,List.getElem?_eq_getElem (by rw [hl];exact (List.getElem?_eq_some_iff.1 hi).1)⟩
 refine .ownM k T l g b es ck kss vss hg (by simpa using hl) (fun i en hi=>?_) (fun i x hi=>?_) (fun i x hi=>?_)
 ·obtain ⟨x,hx⟩:=back hi
  exact ⟨(hk i x hx en x hi hx).2,(hv i x hx en x hi hx).2⟩
 ·obtain ⟨en,he⟩:=front hi
  exact (hk i x hi en x he hi).1
 ·obtain ⟨en,he⟩:=front hi
  exact (hv i x hi en x he hi).1
theorem MEnts.mk {w:World} {F:Nat→Prop} {k T:Γ.X.Ty} {es:Array MapEntry} {l:List (Γ.X.den k×Γ.X.den T)} {kss vss:Nat→List Value} (hl:es.size=l.length)
  (he:∀ (i:Nat) en,es.toList[i]?=some en→valOk k (kss i) en.key∧valOk T (vss i) en.val)
  (hk:∀ (i:Nat) x,l[i]?=some x→PRep w F k x.1 (kss i)) (ht:∀ (i:Nat) x,l[i]?=some x→PRep w F T x.2 (vss i)):MEnts w F k T es.toList l:=
 .of (by simpa using hl) fun i en x h1 h2=>⟨⟨_,hk i x h2,(he i en h1).1⟩,⟨_,ht i x h2,(he i en h1).2⟩⟩
def mIx {K V:Type} (eq:K→K→Bool) (x:K):List (K×V)→Nat→Option Nat
 | [],_=>none
 | p :: l,i=>bif eq x p.1 then some i else mIx eq x l (i+1)
theorem mIx_none {K V:Type} {eq:K→K→Bool} {x:K}:∀ {l:List (K×V)} {i:Nat},mIx eq x l i=none→mGet eq l x=none∧(∀ y,mPut eq l x y=l++[(x,y)])∧mDel eq l x=l
 | [],i,_=>⟨rfl,fun _=>rfl,rfl⟩
 | p :: l,i,h=>by
  simp only [mIx] at h
  cases hc:eq x p.1 with
  | true=>rw [hc] at h;cases h
  | false=>
   rw [hc] at h
   obtain ⟨h1,h2,h3⟩:=mIx_none (l:=l) (i:=i+1) h
   exact ⟨by simp only [mGet,hc,cond_false,h1],fun y=>by simp only [mPut,hc,cond_false,h2,List.cons_append],by simp only [mDel,hc,cond_false,h3]⟩
theorem mIx_some {K V:Type} {eq:K→K→Bool} {x:K}:∀ {l:List (K×V)} {i j:Nat},mIx eq x l i=some j→i≤j∧∃ p,l[j - i]?=some p∧mGet eq l x=some p.2∧eq x p.1=true∧(∀ y,mPut eq l x y=l.set (j - i) (x,y))∧mDel eq l x=l.eraseIdx (j - i)
 | [],i,j,h=>by cases h
 | p :: l,i,j,h=>by
  simp only [mIx] at h
  cases hc:eq x p.1 with
  | true=>
   rw [hc] at h
   cases h
   exact ⟨Nat.le_refl _,p,by simp,by simp only [mGet,hc,cond_true],hc,fun y=>by simp only [mPut,hc,cond_true,Nat.sub_self,List.set_cons_zero],by simp only [mDel,hc,cond_true,Nat.sub_self,List.eraseIdx_cons_zero]⟩
  | false=>
   rw [hc] at h
   obtain ⟨h0,q,h1,h2,h3,h4,h5⟩:=mIx_some (l:=l) (i:=i+1) (j:=j) h
   have e:j - i=(j - (i+1))+1:=by omega
   exact ⟨by omega,q,by rw [e];simpa using h1,by simp only [mGet,hc,cond_false,h2],h3,fun y=>by rw [e];simp only [mPut,hc,cond_false,h4,List.set_cons_succ],by rw [e];simp only [mDel,hc,cond_false,h5,List.eraseIdx_cons_succ]⟩
theorem keyC_rep {kt:TypeId} {k:Γ.X.Ty} (h:keyC P Γ kt k=true):∃ d,P.underlying kt=some d∧((∃ q q',d=.int q∧k=.int q')∨(d=.string∧k=.str)):=by
 unfold keyC at h
 split at h
 ·rename_i q q' h1;exact ⟨_,h1,.inl ⟨q,q',rfl,rfl⟩⟩
 ·rename_i h1;exact ⟨_,h1,.inr ⟨rfl,rfl⟩⟩
 ·cases h
theorem bytes_beq (l m:List UInt8):((⟨l.toArray⟩:ByteArray)==⟨m.toArray⟩)=(l==m):=by
 show (l.toArray==m.toArray)=(l==m)
 simp
theorem sameNow_rep {w:World} {F:Nat→Prop} {kt:TypeId} {k:Γ.X.Ty} (h:keyC P Γ kt k=true) {d:TypeDesc} (hd:P.underlying kt=some d) {x y:Γ.X.den k} {cs ds:List Value} {u v:Value} (h1:PRep w F k x cs) (h2:valOk k cs u) (h3:PRep w F k y ds) (h4:valOk k ds v):
  Instr.sameNow d u v=some (Γ.X.eq k x y):=by
 obtain ⟨d',hd',hc⟩:=keyC_rep h
 rw [hd] at hd';cases hd'
 rcases hc with ⟨q,q',rfl,rfl⟩ | ⟨rfl,rfl⟩
 ·have e1:=h1.intInv;have e2:=h3.intInv
  subst e1 e2
  unfold valOk at h2 h4
  rw [if_neg (by simp [aggB])] at h2 h4
  cases h2;cases h4
  simp only [Instr.sameNow,if_true];rfl
 ·have e1:=h1.strInv;have e2:=h3.strInv
  subst e1 e2
  unfold valOk at h2 h4
  rw [if_neg (by simp [aggB])] at h2 h4
  cases h2;cases h4
  simp only [Instr.sameNow,bytes_beq];rfl
theorem findNow_rep {w:World} {F:Nat→Prop} {kt:TypeId} {k T:Γ.X.Ty} (h:keyC P Γ kt k=true) {d:TypeDesc} (hd:P.underlying kt=some d) {x:Γ.X.den k} {cs:List Value} {u:Value} (h1:PRep w F k x cs) (h2:valOk k cs u):
  ∀ {es:List MapEntry} {l:List (Γ.X.den k×Γ.X.den T)} (i:Nat),MEnts w F k T es l→(mIx (Γ.X.eq k) x l i=none∧Instr.findNow d u es i=some none)∨∃ j en,mIx (Γ.X.eq k) x l i=some j∧Instr.findNow d u es i=some (some (j,en.val))∧i≤j∧es[j - i]?=some en
 | [],[],i,_=>.inl ⟨rfl,rfl⟩
 | en :: es,p :: l,i,hm=>by
  obtain ⟨ks,k1,k2⟩:=hm.1.key
  have hs:=sameNow_rep h hd h1 h2 k1 k2
  simp only [mIx,Instr.findNow,hs]
  cases hc:Γ.X.eq k x p.1 with
  | true=>exact .inr ⟨i,en,rfl,rfl,Nat.le_refl _,by simp⟩
  | false=>
   simp only [cond_false]
   rcases findNow_rep h hd h1 h2 (i+1) hm.2 with ⟨q1,q2⟩ | ⟨j,en',q1,q2,q3,q4⟩
   ·exact .inl ⟨q1,q2⟩
   ·exact .inr ⟨j,en',q1,q2,by omega,by rw [show j - i=(j - (i+1))+1 by omega];simpa using q4⟩
theorem run_checkKey' {w w':World} {F:Nat→Prop} {kt:TypeId} {k:Γ.X.Ty} (h:keyC P Γ kt k=true) {x:Γ.X.den k} {cs:List Value} {u:Value} (h1:PRep w' F k x cs) (h2:valOk k cs u) (em:Bool):(Instr.checkKey em 10000 kt u).run P w=.ok () w:=by
 obtain ⟨d,hd,hc⟩:=keyC_rep h
 rcases hc with ⟨q,q',rfl,rfl⟩ | ⟨rfl,rfl⟩
 ·have e1:=h1.intInv
  subst e1
  unfold valOk at h2
  rw [if_neg (by simp [aggB])] at h2
  cases h2
  show (Instr.checkKey em (9999+1) kt _).run P w=_
  unfold Instr.checkKey
  simp only [Sem.run_bind,run_underlying' hd,Result.andThen]
  rfl
 ·have e1:=h1.strInv
  subst e1
  unfold valOk at h2
  rw [if_neg (by simp [aggB])] at h2
  cases h2
  show (Instr.checkKey em (9999+1) kt _).run P w=_
  unfold Instr.checkKey
  simp only [Sem.run_bind,run_underlying' hd,Result.andThen]
  rfl
theorem run_findKey' {w:World} {kt:TypeId} {d:TypeDesc} (hd:P.underlying kt=some d) {u:Value} {es:List MapEntry} {r:Option (Nat×Value)} (hf:Instr.findNow d u es 0=some r):(Instr.findKey kt u es).run P w=.ok r w:=by
 simp [Instr.findKey,run_underlying' hd,hf]
theorem run_getObj' {w:World} {b:Nat} {es:Array MapEntry} {ck:Nat} (hg:w.heap[b]?=some (.map es ck)):(getObj b).run P w=.ok (.map es ck) w:=by
 simp [getObj,Sem.run,hg]
theorem run_setObj' {w:World} {b:Nat} {es:Array MapEntry} {ck:Nat} {ob:Obj} (hg:w.heap[b]?=some (.map es ck)):(setObj b ob).run P w=.ok () { w with heap:=w.heap.setIfInBounds b ob }:=by
 simp [setObj,Sem.run,hg]
section
variable {K:List Nat} {N:Slots} {F0 B U:Nat→Prop} {w0:World} {F:Nat→Prop} {S:Nat→List Nat} {e:Env Γ.X} {a:Act} {w:World}
theorem ownM_inv {k T:Γ.X.Ty} {l:List (Γ.X.den k×Γ.X.den T)} {g:Nat} {cs:List Value} {Sx:List Nat} (h:VRep w F (.map k T) l (.yes g) cs Sx):
  ∃ (blk ck:Nat) (es:Array MapEntry),cs=[.map (some blk)]∧Sx=[blk]∧w.heap[blk]?=some (.map es ck)∧MEnts w F k T es.toList l:=by
 have key:∀ {T':Γ.X.Ty} {v:Γ.X.den T'} {o:Own} {cs':List Value} {S:List Nat},VRep w F T' v o cs' S→T'=.map k T→HEq v l→o=.yes g→cs'=cs→S=Sx→
   ∃ (blk ck:Nat) (es:Array MapEntry),cs=[.map (some blk)]∧Sx=[blk]∧w.heap[blk]?=some (.map es ck)∧MEnts w F k T es.toList l:=fun hv hT hvl ho hcs hS=>by
  cases hv with
  | ownM k' t' v g' blk es ck kss vss hg hl he hk ht=>
   cases hT;cases hvl
   exact ⟨blk,ck,es,hcs.symm,hS.symm,hg,.mk hl he hk ht⟩
  | pure=>cases ho
  | full=>cases hT
  | ownNil=>cases hT
  | own=>cases hT
  | st=>cases ho
  | dead=>cases ho
 exact key h rfl HEq.rfl rfl rfl rfl
def ReadsM (w:World) (F:Nat→Prop) (k T:Γ.X.Ty) (l:List (Γ.X.den k×Γ.X.den T)) (u:Value):Prop:=
 (u=.map none∧l=[])∨∃ (blk ck:Nat) (es:Array MapEntry),u=.map (some blk)∧w.heap[blk]?=some (.map es ck)∧MEnts w F k T es.toList l
theorem pureM_inv {k T:Γ.X.Ty} {l:List (Γ.X.den k×Γ.X.den T)} {u:Value} (h:PRep w F (.map k T) l [u]):ReadsM w F k T l u:=by
 have key:∀ {T':Γ.X.Ty} {v:Γ.X.den T'} {cs':List Value},PRep w F T' v cs'→T'=.map k T→HEq v l→cs'=[u]→ReadsM w F k T l u:=fun hv hT hvl hcs=>by
  cases hv with
  | mapNil k' t'=>cases hT;cases hvl;exact .inl ⟨by simpa using hcs.symm,rfl⟩
  | map k' t' v blk es ck kss vss hF hg hl he hk ht=>
   cases hT;cases hvl
   exact .inr ⟨blk,ck,es,by simpa using hcs.symm,hg,.mk hl he hk ht⟩
  | _=>cases hT
 exact key h rfl HEq.rfl rfl
theorem EnvRel.mapAt (h:EnvRel N F0 B U w0 F S e a w) {k T:Γ.X.Ty} {y:AV Γ.X} {s g:Nat} {l:List (Γ.X.den k×Γ.X.den T)} {u:Value} {R:List Nat} (hm:Go.A2.mapAt e k T y=some (s,g,l)) (hr:SRep e a w F y u R):
  e s=.val (.map k T) l (.yes g)∧y=.mref s g∧u=a.tmps.getD s undef∧∃ (blk ck:Nat) (es:Array MapEntry),u=.map (some blk)∧S s=[blk]∧w.heap[blk]?=some (.map es ck)∧MEnts w F k T es.toList l:=by
 unfold Go.A2.mapAt at hm
 split at hm
 ·rename_i s' g'
  split at hm
  ·rename_i T' v g1 hes
   split at hm
   ·rename_i hg
    subst hg
    obtain ⟨l',h1,h2⟩:=Option.map_eq_some_iff.1 hm
    cases h2
    obtain ⟨rfl,h1⟩:=castT_some h1
    simp only at h1;subst h1
    cases hr with
    | u hr=>cases hr
    | mref _ _ _ hh=>
     have hu:=hh _ _ _ hes
     obtain ⟨cs,k1,k2⟩:=h.valAt hes
     obtain ⟨blk,ck,es,q1,q2,q3,q4⟩:=ownM_inv k1
     rw [q1] at k2
     unfold valOk at k2
     rw [if_neg (by simp [aggB])] at k2
     simp only [List.cons.injEq,and_true] at k2
     exact ⟨hes,rfl,hu,blk,ck,es,by rw [hu,←k2],q2,q3,q4⟩
   ·cases hm
  ·cases hm
 ·cases hm
theorem EnvRel.readsM (hX:TabOk Γ.X) (h:EnvRel N F0 B U w0 F S e a w) {T0:Option Γ.X.Ty} {Y:Operand} {x:AX Γ.X} (hx:compX Γ K T0 Y=some x) {k T:Γ.X.Ty} {l:List (Γ.X.den k×Γ.X.den T)} (hm:mapOf e k T (Go.A2.rd e x)=some l):ReadsM w F k T l (a.eval Y):=by
 obtain ⟨R,r1,r2,_⟩:=h.rd hX hx
 cases hy:Go.A2.rd e x with
 | val T' v o=>
  rw [hy] at hm
  have hm:(if o.pure=true then castT v (.map k T) else none)=some l:=hm
  by_cases hp:o.pure=true
  ·rw [if_pos hp] at hm
   obtain ⟨rfl,hm⟩:=castT_some hm
   simp only at hm;subst hm
   obtain ⟨cs,R,k1,k2⟩:=h.rdVal hX hx hy
   obtain ⟨k3,_⟩:=k1.toPure hp
   unfold valOk at k2
   rw [if_neg (by simp [aggB])] at k2
   subst k2
   exact pureM_inv k3
  ·rw [if_neg hp] at hm;cases hm
 | mref s g=>
  rw [hy] at hm r1
  simp only [mapOf] at hm
  obtain ⟨q,h1,h2⟩:=Option.map_eq_some_iff.1 hm
  obtain ⟨s',g',l'⟩:=q
  simp only at h2;subst h2
  obtain ⟨_,_,_,blk,ck,es,k1,_,k3,k4⟩:=h.mapAt h1 r1
  exact .inr ⟨blk,ck,es,k1,k3,k4⟩
 | _=>rw [hy] at hm;simp [mapOf] at hm
theorem EnvRel.writeM (h:EnvRel N F0 B U w0 F S e a w) {k T:Γ.X.Ty} {s g blk ck ck':Nat} {l l':List (Γ.X.den k×Γ.X.den T)} {es es':Array MapEntry} (hes:e s=.val (.map k T) l (.yes g)) (hS:S s=[blk]) (hb:w.heap[blk]?=some (.map es ck)) (hu:a.tmps.getD s undef=.map (some blk))
  (hm:MEnts w F k T es'.toList l'):EnvRel N F0 B U w0 F S (upd e s (.val (.map k T) l' (.yes g))) a { w with heap:=w.heap.setIfInBounds blk (.map es' ck') }:=by
 obtain ⟨hBb,hbw,hbF⟩:=h.own s blk (by rw [hS];simp)
 have hother:∀ b',b' ≠ blk→(w.heap.setIfInBounds blk (.map es' ck'))[b']?=w.heap[b']?:=fun b' hne=>by simp [Ne.symm hne]
 have hF:∀ b',F b'→(w.heap.setIfInBounds blk (.map es' ck'))[b']?=w.heap[b']?:=fun b' hb'=>hother b' fun he=>hbF (he ▸ hb')
 have hoth:∀ t,t ≠ s→∀ b'∈S t,(w.heap.setIfInBounds blk (.map es' ck'))[b']?=w.heap[b']?:=fun t hts b' hb'=>hother b' fun he=>h.apart t s b' hts hb' (by rw [hS,he];simp)
 have hnew:(w.heap.setIfInBounds blk (.map es' ck'))[blk]?=some (.map es' ck'):=by simp [hbw]
 have hk:Kept U e a w (upd e s (.val (.map k T) l' (.yes g))) a { w with heap:=w.heap.setIfInBounds blk (.map es' ck') }:=by
  refine h.keptSlot (T:=.map k T) (v':=l') (o':=.yes g) (.inl ⟨hes,rfl⟩) hoth (fun q g' b t l2 hf hg ho hgq=>?_) (fun q g' hf hg ho hgq=>?_) (fun _ _ _ ho _=>ho)
  ·cases q with
   | nil=>cases Option.some.inj hgq
   | cons y q=>cases y<;>simp [getQ] at hgq
  ·obtain ⟨b,t,l2,hgq⟩:=hgq
   cases q with
   | nil=>cases Option.some.inj hgq
   | cons y q=>cases y<;>simp [getQ] at hgq
 have hbel:BelowP B w { w with heap:=w.heap.setIfInBounds blk (.map es' ck') }:=⟨rfl,rfl,rfl,by simp,fun k' _ hB=>hother k' fun he=>hB (he ▸ hBb)⟩
 have:=h.turn (s:=s) (x:=.val (.map k T) l' (.yes g)) (T:=S s) (a':=a) (w':={ w with heap:=w.heap.setIfInBounds blk (.map es' ck') }) (F':=F) (U':=U) rfl rfl (fun _ _=>rfl) (fun _ _=>rfl) hk (fun _ h=>h) (fun _ h=>h) hF hoth hbel (fun b hb=>.inl hb)
  (by rw [hS];exact .u (.val _ _ _ _ [.map (some blk)] _ (MEnts.vrep hnew (hm.mono (fun _ h=>h) hF)) (by unfold valOk;rw [if_neg (by simp [aggB]),hu])))
  (by have:=h.owns s;rw [hes] at this;exact this) trivial (h.nodup s) (fun b hb=>by obtain ⟨h1,h2,h3⟩:=h.own s b hb;exact ⟨h1,by simpa using h2,h3⟩) (fun b hb t ht=>h.apart s t b (Ne.symm ht) hb)
 have hs:updS S s (S s)=S:=by funext t;unfold updS;split<;>simp_all
 rw [hs] at this
 exact this
section steps
variable {T0 T1 T2:Option Γ.X.Ty} {g:Nat} {o:Oper} {us:Ups Γ.X} {ans:Ret Γ.X} (hX:TabOk Γ.X) (h:EnvRel N F0 B U w0 F S e a w) (hg:¬ U g) (hd:∀ k,o.dst=some k→N.ok k)
 {next:Act→World→Prop} {Q:Exit→Act→World→Prop} (hnext:∀ a' w',Sim N F0 B (withG U g) w0 (applyU e us) a' w'→next a' w')
include hX h hg
include hd hnext in
omit hX in
theorem step_makeMap {t:TypeId} {k T:Γ.X.Ty} (ho:o.op=.makeMap t none) (hs:eff ans g e o.dst (.makeMap k T)=some us):o.wp P a w next Q:=by
 have hrun:(execOp a.eval o).run P w=.ok (.value (.map (some w.heap.size))) (w.alloc (.map #[] 0)):=by
  simp only [execOp,ho,Instr.makeMap]
  rfl
 unfold Oper.wp
 rw [hrun]
 simp only [eff] at hs
 cases hs
 have h1:=h.world (w':=w.alloc (.map #[] 0)) (F':=F) (fun _ h=>h) (fun b hb=>heap_alloc_old w _ b (h.free b hb)) (fun t b hb=>heap_alloc_old w _ b (h.own t b hb).2.1) (belowP_alloc w _) fun b hb=>.inl hb
 refine hnext _ _ (h1.out hd hg ⟨.u (.val (.map k T) [] (.yes g) _ [.map (some w.heap.size)] [w.heap.size] (MEnts.vrep (heap_alloc_new w _) trivial) (by unfold valOk;rw [if_neg (by simp [aggB])])),trivial,by simp,fun b hb=>?_,fun b hb s hs=>?_⟩ rfl)
 ·simp only [List.mem_singleton] at hb;subst hb
  exact ⟨h.base _ (Nat.le_refl _),by simp,fun hf=>by have:=h.free _ hf;omega⟩
 ·simp only [List.mem_singleton] at hb;subst hb
  have:=(h.own s _ hs).2.1;omega
omit h hg in
theorem zeroM {et:TypeId} {T:Γ.X.Ty} (hz:zeroOk P Γ et T=true) (hsh:zShape P Γ et T=true):∃ z cs,(zeroValue et).run P w=.ok z w∧PRep w F T (Γ.X.zero T) cs∧valOk T cs z:=by
 obtain ⟨i,z,h1,h2,h3⟩:=zeroOk_some hX hz w F
 refine ⟨z,_,by simp [zeroValue,run_typeInfo' h1,h2],h3,?_⟩
 unfold zShape at hsh
 rw [h1] at hsh
 simp only [Option.bind_some,h2] at hsh
 unfold valOk
 cases z<;>simp at hsh<;>simp [hsh,Value.cells]
include hd in
theorem look_mlook {t:TypeId} {ok:Bool} {k T:Γ.X.Ty} {Y I:Operand} {x i:AX Γ.X} (ho:o.op=.lookup t Y I ok) (hm:mapC P Γ t=some (k,T)) (hx:compX Γ K T0 Y=some x) (hi:compX Γ K T1 I=some i) (hs:eff ans g e o.dst (.mlook k T ok x i)=some us):Looks N F0 B U w0 P e a w g o us:=by
 obtain ⟨kt,et,m1,m2,m3,m4⟩:=mapC_some hm
 simp only [eff] at hs
 split at hs
 ·rename_i l z hl hz
  have hr:=h.readsM hX hx hl
  obtain ⟨ks,k1,k2⟩:=rdP hX h hi hz
  obtain ⟨zv,zcs,z1,z2,z3⟩:=zeroM (P:=P) hX m3 m4
  obtain ⟨d,hd',_⟩:=keyC_rep m2
  have found:∃ (v:Value) (cs:List Value),(∀ em:Bool,True)∧PRep w F T ((mGet (Γ.X.eq k) l z).getD (Γ.X.zero T)) cs∧valOk T cs v∧(Instr.lookup t (a.eval Y) (a.eval I) ok).run P w=.ok (if ok then .tuple #[v,.bool (mGet (Γ.X.eq k) l z).isSome] else v) w:=by
   rcases hr with ⟨hu,hl0⟩ | ⟨blk,ck,es,hu,hb,hme⟩
   ·subst hl0
    refine ⟨zv,zcs,fun _=>trivial,z2,z3,?_⟩
    have hf:(Instr.findKey kt (a.eval I) []).run P w=.ok none w:=run_findKey' hd' rfl
    have hck:=run_checkKey' (P:=P) (w:=w) m2 k1 k2 true
    rw [hu]
    simp only [Instr.lookup,Sem.run_bind,run_underlying' m1,Result.andThen_ok,Sem.run_pure]
    cases ok<;>simp [hck,hf,z1,mGet]
   ·rcases findNow_rep m2 hd' k1 k2 0 hme with ⟨q1,q2⟩ | ⟨j,en,q1,q2,q3,q4⟩
    ·obtain ⟨e1,_,_⟩:=mIx_none q1
     refine ⟨zv,zcs,fun _=>trivial,by rw [e1];exact z2,z3,?_⟩
     have hf:(Instr.findKey kt (a.eval I) es.toList).run P w=.ok none w:=run_findKey' hd' q2
     have hck:=run_checkKey' (P:=P) (w:=w) m2 k1 k2 es.isEmpty
     rw [hu,e1]
     simp only [Instr.lookup,Sem.run_bind,run_underlying' m1,Result.andThen_ok,Sem.run_pure,run_getObj' hb]
     cases ok<;>simp [hck,hf,z1]
    ·obtain ⟨_,p,e1,e2,_⟩:=mIx_some q1
     obtain ⟨cs,c1,c2⟩:=(hme.get q4 e1).val
     refine ⟨en.val,cs,fun _=>trivial,by rw [e2];exact c1,c2,?_⟩
     have hf:(Instr.findKey kt (a.eval I) es.toList).run P w=.ok (some (j,en.val)) w:=run_findKey' hd' q2
     have hck:=run_checkKey' (P:=P) (w:=w) m2 k1 k2 es.isEmpty
     rw [hu,e2]
     simp only [Instr.lookup,Sem.run_bind,run_underlying' m1,Result.andThen_ok,Sem.run_pure,run_getObj' hb]
     cases ok<;>simp [hck,hf]
  obtain ⟨v,cs,_,c1,c2,c3⟩:=found
  refine ⟨if ok then .tuple #[v,.bool (mGet (Γ.X.eq k) l z).isSome] else v,?_,?_⟩
  ·simp only [execOp,ho]
   simp [c3]
  ·cases ok with
   | true=>
    simp only [if_true] at hs ⊢
    cases hs
    refine h.out hd hg (Hand.ofPure ?_ ⟨trivial,trivial,trivial⟩) ⟨trivial,trivial,trivial⟩
    have:=SRep.tup (e:=e) (a:=a) (w:=w) (F:=F) [.val T ((mGet (Γ.X.eq k) l z).getD (Γ.X.zero T)) .no,.val .bool (mGet (Γ.X.eq k) l z).isSome .no] [v,.bool (mGet (Γ.X.eq k) l z).isSome] (fun _=>[]) rfl fun i' y u hy hu=>by
     match i',hy,hu with
     | 0,hy,hu=>simp at hy hu;subst hy hu;exact .u (.val _ _ _ _ cs _ (.pure c1) c2)
     | 1,hy,hu=>simp at hy hu;subst hy hu;exact .u (.val .bool _ .no _ [.bool _] _ (.pure (.bool _)) rfl)
     | i'+2,hy,hu=>simp at hy
    exact this
   | false=>
    simp only [Bool.false_eq_true,if_false] at hs ⊢
    cases hs
    exact h.outV hd hg rfl (.pure c1) c2
 ·cases hs
include hd in
theorem look_mlen {c:Call} {t:TypeId} {ts:List TypeId} {k T:Γ.X.Ty} {x:AX Γ.X} {kt et:TypeId} (ho:o.op=.call c) (hc:c.callee=.builtin .len) (hty:c.argTypes[0]?=some t) (hx:argsC Γ K ts c.args.toList=some [x]) (ht:P.underlying t=some (.map kt et)) (hs:eff ans g e o.dst (.mlen k T x)=some us):Looks N F0 B U w0 P e a w g o us:=by
 obtain ⟨l1,h2⟩:=argsC_spec hx
 obtain ⟨TY,Y,hY,hcY⟩:=h2 0 x rfl
 have hargs:c.args=#[Y]:=by
  rw [←Array.toList_inj]
  generalize c.args.toList=L at l1 hY
  match L,l1,hY with
  | [_],_,hY=>simp at hY;rw [hY]
 simp only [eff] at hs
 obtain ⟨l,hl,hs⟩:=Option.bind_eq_some_iff.1 hs
 obtain ⟨n,hn,hs⟩:=Option.bind_eq_some_iff.1 hs
 unfold mLen? at hn
 split at hn
 ·rename_i hlen
  cases hn
  cases hs
  have hn:(W.of .i64 (l.length:Int)).n=(l.length:Int):=by
   unfold room at hlen
   show IntKind.wrap .i64 (l.length:Int)=l.length
   exact wrap_nat (by omega)
  refine ⟨.int .i64 l.length,?_,?_⟩
  ·have hrun:(Builtin.len_ c.argTypes o.type #[a.eval Y]).run P w=.ok (goInt l.length) w:=by
    rcases h.readsM hX hcY hl with ⟨hu,hl0⟩ | ⟨blk,ck,es,hu,hb,hme⟩
    ·subst hl0
     rw [hu]
     simp [Builtin.len_,hty,run_underlying' ht]
    ·rw [hu]
     have:=hme.length
     simp [Builtin.len_,hty,run_underlying' ht,run_getObj' hb,←this]
   simp only [execOp,ho,resolve,hc,hargs]
   simp [invoke,builtin,hrun]
   rfl
  ·have:=h.outInt hd hg .i64 (W.of .i64 (l.length:Int))
   rw [hn] at this
   exact this
 ·cases hn
include hnext in
omit hg in
theorem step_mset {t:TypeId} {k T:Γ.X.Ty} {Y I V:Operand} {x i v:AX Γ.X} (ho:o.op=.mapUpdate t Y I V) (hm:mapC P Γ t=some (k,T)) (hx:compX Γ K T0 Y=some x) (hi:compX Γ K T1 I=some i) (hv:compX Γ K T2 V=some v) (hs:eff ans g e o.dst (.mset k T x i v)=some us):o.wp P a w next Q:=by
 obtain ⟨kt,et,m1,m2,m3,m4⟩:=mapC_some hm
 simp only [eff] at hs
 split at hs
 ·rename_i s g' l z y hl hz hy
  split at hs
  ·rename_i hdn
   cases hs
   have hdn:o.dst=none:=by cases hq:o.dst with | none=>rfl | some d=>rw [hq] at hdn;cases hdn
   obtain ⟨R,r1,_,_⟩:=h.rd hX hx
   obtain ⟨hes,_,hu',blk,ck,es,hu,hS,hb,hme⟩:=h.mapAt hl r1
   obtain ⟨ks,k1,k2⟩:=rdP hX h hi hz
   obtain ⟨vs,v1,v2⟩:=rdP hX h hv hy
   obtain ⟨d,hd',hdk⟩:=keyC_rep m2
   have hck:=run_checkKey' (P:=P) (w:=w) m2 k1 k2 false
   have hsame:(Instr.keyThatStays (a.eval I) (a.eval I)).run P w=.ok (a.eval I) w:=by
    rcases hdk with ⟨q,q',rfl,rfl⟩ | ⟨rfl,rfl⟩
    ·have e1:=k1.intInv
     subst e1
     unfold valOk at k2
     rw [if_neg (by simp [aggB])] at k2
     simp only [List.cons.injEq,and_true] at k2
     rw [←k2]
     have hsb:Instr.sameBits 10000 (.int q' z.n) (.int q' z.n)=true:=by
      show Instr.sameBits (9999+1) _ _=true
      unfold Instr.sameBits;simp
     simp [Instr.keyThatStays,hsb]
    ·have e1:=k1.strInv
     subst e1
     unfold valOk at k2
     rw [if_neg (by simp [aggB])] at k2
     simp only [List.cons.injEq,and_true] at k2
     rw [←k2]
     have hsb:Instr.sameBits 10000 (.string ⟨z.l.toArray⟩) (.string ⟨z.l.toArray⟩)=true:=by
      show Instr.sameBits (9999+1) _ _=true
      unfold Instr.sameBits
      simp [bytes_beq]
     simp [Instr.keyThatStays,hsb]
   have fin:∀ es' ck',(Instr.mapUpdate t (a.eval Y) (a.eval I) (a.eval V)).run P w=.ok () { w with heap:=w.heap.setIfInBounds blk (.map es' ck') }→MEnts w F k T es'.toList (mPut (Γ.X.eq k) l z y)→o.wp P a w next Q:=fun es' ck' hrun hme'=>by
    have hrun':(execOp a.eval o).run P w=.ok .skip { w with heap:=w.heap.setIfInBounds blk (.map es' ck') }:=by
     simp only [execOp,ho]
     simp [hrun]
    unfold Oper.wp
    rw [hrun']
    show next (a.put o.dst Go.undef) _
    rw [hdn]
    exact hnext _ _ ⟨F,S,((h.writeM (ck':=ck') hes hS hb (by rw [←hu',hu]) hme').weakU fun _ h=>.inl h)⟩
   rcases findNow_rep m2 hd' k1 k2 0 hme with ⟨q1,q2⟩ | ⟨j,en,q1,q2,q3,q4⟩
   ·obtain ⟨_,e2,_⟩:=mIx_none q1
    refine fin (es.push { key:=a.eval I,val:=a.eval V,born:=ck }) (ck+1) ?_ ?_
    ·have hf:(Instr.findKey kt (a.eval I) es.toList).run P w=.ok none w:=run_findKey' hd' q2
     rw [hu]
     simp only [Instr.mapUpdate,Sem.run_bind,run_underlying' m1,Result.andThen_ok,run_getObj' hb,hck,hf,run_setObj' hb]
    ·rw [e2,Array.toList_push]
     exact MEnts.append ⟨⟨ks,k1,k2⟩,⟨vs,v1,v2⟩⟩ hme
   ·obtain ⟨_,p,e1,_,he,e4,_⟩:=mIx_some q1
    simp only [Nat.sub_zero] at q4 e1 e4
    obtain ⟨cs,c1,c2⟩:=(hme.get q4 e1).key
    have hkey:en.key=a.eval I:=by
     have hxy:z=p.1:=by
      rcases hdk with ⟨q,q',rfl,rfl⟩ | ⟨rfl,rfl⟩
      ·exact W.ext (by have he:(W.n (k:=q') z==W.n (k:=q') p.1)=true:=he;simpa using he)
      ·exact Str.ext (by have he:(Str.l z==Str.l p.1)=true:=he;simpa using he)
     rw [←hxy] at c1
     rcases hdk with ⟨q,q',rfl,rfl⟩ | ⟨rfl,rfl⟩
     ·have f1:=k1.intInv;have f2:=c1.intInv
      subst f1 f2
      unfold valOk at k2 c2
      rw [if_neg (by simp [aggB])] at k2 c2
      simp only [List.cons.injEq,and_true] at k2 c2
      rw [←k2,←c2]
     ·have f1:=k1.strInv;have f2:=c1.strInv
      subst f1 f2
      unfold valOk at k2 c2
      rw [if_neg (by simp [aggB])] at k2 c2
      simp only [List.cons.injEq,and_true] at k2 c2
      rw [←k2,←c2]
    have hj:es[j]?=some en:=by simpa using q4
    refine fin (es.modify j fun e'=>{ e' with key:=a.eval I,val:=a.eval V }) ck ?_ ?_
    ·have hf:(Instr.findKey kt (a.eval I) es.toList).run P w=.ok (some (j,en.val)) w:=run_findKey' hd' q2
     rw [hu]
     simp only [Instr.mapUpdate,Sem.run_bind,run_underlying' m1,Result.andThen_ok,run_getObj' hb,hck,hf,hj,Option.map_some,Option.getD_some,hkey,hsame,run_setObj' hb]
    ·rw [e4]
     have hl2:(es.modify j fun e'=>{ e' with key:=a.eval I,val:=a.eval V }).toList=es.toList.set j { en with key:=a.eval I,val:=a.eval V }:=by
      rw [Array.toList_modify]
      refine List.ext_getElem? fun m=>?_
      rw [List.getElem?_modify,List.getElem?_set]
      by_cases hmj:j=m
      ·subst hmj
       have:j < es.toList.length:=(List.getElem?_eq_some_iff.1 q4).1
       rw [q4];simp at this;simp [this]
      ·simp [hmj]
     rw [hl2]
     exact MEnts.set ⟨⟨ks,k1,k2⟩,⟨vs,v1,v2⟩⟩ j hme
  ·cases hs
 ·cases hs
include hd hnext in
theorem step_mdel {c:Call} {t t2:TypeId} {ts:List TypeId} {k T:Γ.X.Ty} {x i:AX Γ.X} (ho:o.op=.call c) (hc:c.callee=.builtin .delete) (hty:c.argTypes.toList=[t,t2]) (hx:argsC Γ K ts c.args.toList=some [x,i]) (hm:mapC P Γ t=some (k,T))
  (hs:eff ans g e o.dst (.mdel k T x i)=some us):o.wp P a w next Q:=by
 obtain ⟨kt,et,m1,m2,m3,m4⟩:=mapC_some hm
 obtain ⟨l1,h2⟩:=argsC_spec hx
 obtain ⟨TY,Y,hY,hcY⟩:=h2 0 x rfl
 obtain ⟨TZ,I,hI,hcI⟩:=h2 1 i rfl
 have hargs:c.args=#[Y,I]:=by
  rw [←Array.toList_inj]
  generalize c.args.toList=L at l1 hY hI
  match L,l1,hY,hI with
  | [_,_],_,hY,hI=>simp at hY hI;rw [hY,hI]
 have hat:c.argTypes=#[t,t2]:=by rw [←Array.toList_inj,hty]
 simp only [eff] at hs
 split at hs
 ·rename_i s g' l z hl hz
  cases hs
  obtain ⟨R,r1,_,_⟩:=h.rd hX hcY
  obtain ⟨hes,_,hu',blk,ck,es,hu,hS,hb,hme⟩:=h.mapAt hl r1
  obtain ⟨ks,k1,k2⟩:=rdP hX h hcI hz
  obtain ⟨d,hd',hdk⟩:=keyC_rep m2
  have hck:=run_checkKey' (P:=P) (w:=w) m2 k1 k2 es.isEmpty
  have fin:∀ es' ck',(Builtin.delete_ c.argTypes o.type #[a.eval Y,a.eval I]).run P w=.ok (.tuple #[]) { w with heap:=w.heap.setIfInBounds blk (.map es' ck') }→MEnts w F k T es'.toList (mDel (Γ.X.eq k) l z)→o.wp P a w next Q:=fun es' ck' hrun hme'=>by
   have hrun':(execOp a.eval o).run P w=.ok (.value (.tuple #[])) { w with heap:=w.heap.setIfInBounds blk (.map es' ck') }:=by
    simp only [execOp,ho,resolve,hc,hargs]
    simp [invoke,builtin,hrun]
   unfold Oper.wp
   rw [hrun']
   have h1:=h.writeM (ck':=ck') hes hS hb (by rw [←hu',hu]) hme'
   refine hnext _ _ (h1.out hd hg (x:=.tup []) (u:=.tuple #[]) (Hand.ofPure ?_ trivial) trivial)
   exact .tup [] [] (fun _=>[]) rfl fun i y u hy=>by simp at hy
  rcases findNow_rep m2 hd' k1 k2 0 hme with ⟨q1,q2⟩ | ⟨j,en,q1,q2,q3,q4⟩
  ·obtain ⟨_,_,e3⟩:=mIx_none q1
   refine fin es ck ?_ (by rw [e3];exact hme)
   have hf:(Instr.findKey kt (a.eval I) es.toList).run P w=.ok none w:=run_findKey' hd' q2
   rw [hu,hat]
   simp [Builtin.delete_,run_underlying' m1,run_getObj' hb,hck,hf,run_setObj' hb]
  ·obtain ⟨_,p,e1,_,he,_,e5⟩:=mIx_some q1
   simp only [Nat.sub_zero] at q4 e1 e5
   refine fin (es.eraseIdxIfInBounds j) ck ?_ ?_
   ·have hf:(Instr.findKey kt (a.eval I) es.toList).run P w=.ok (some (j,en.val)) w:=run_findKey' hd' q2
    rw [hu,hat]
    simp [Builtin.delete_,run_underlying' m1,run_getObj' hb,hck,hf,run_setObj' hb]
   ·rw [e5]
    have hj:j < es.size:=by have:=(List.getElem?_eq_some_iff.1 q4).1;simpa using this
    have:(es.eraseIdxIfInBounds j).toList=es.toList.eraseIdx j:=by
     unfold Array.eraseIdxIfInBounds
     rw [dif_pos hj,Array.toList_eraseIdx]
    rw [this]
    exact MEnts.erase j hme
 ·cases hs
end steps
end
end
end Go.A2
namespace Go.A2
section
variable {P:Program} {Γ:Cx}
section
variable {K:List Nat} {N:Slots} {F0 B U:Nat→Prop} {w0:World} {F:Nat→Prop} {S:Nat→List Nat} {e:Env Γ.X} {a:Act} {w:World}
theorem funT_some {t:TypeId} (h:funT P t=true):sizeO P t=some 1∧isAggT P t=some false∧∃ i z c,P.info? t=some i∧i.zero=some z∧z.cells=#[c]:=by
 unfold funT at h
 split at h
 ·rename_i z0 h1 h2 h3
  refine ⟨h1,h2,?_⟩
  unfold zeroO at h3
  split at h3
  ·rename_i i hi
   cases hz:i.zero with
   | none=>rw [hz] at h3;cases h3
   | some z=>
    rw [hz] at h3
    simp only [Option.map_some,Option.some.injEq] at h3
    exact ⟨i,z,z0,hi,hz,by rw [←Array.toList_inj];exact h3⟩
  ·cases h3
 ·cases h
theorem fn_inv {e:Env Γ.X} {f:Nat} {as bs:List (AV Γ.X)} {u:Value} {R:List Nat} (hr:SRep e a w F (.fn f as bs) u R):R=[]∧∃ us vs:List Value,u=.func (.func f) us.toArray vs.toArray∧as.length=us.length∧bs.length=vs.length ∧
  (∀ (i:Nat) x u,as[i]?=some x→us[i]?=some u→SRep e a w F x u [])∧(∀ (i:Nat) x u,bs[i]?=some x→vs[i]?=some u→SRep e a w F x u []):=by
 cases hr with
 | u h=>cases h
 | fn _ _ _ us vs hl hl' h h'=>exact ⟨rfl,us,vs,rfl,hl,hl',h,h'⟩
theorem rfn_inv {e:Env Γ.X} {f:Nat} {as bs:List (AV Γ.X)} {u:Value} {R:List Nat} (hr:SRep e a w F (.rfn f as bs) u R):R=[]∧∃ (us vs:List Value) (blk:Nat),u=.pointer (some ⟨blk,0,none⟩)∧F blk∧w.cell? ⟨blk,0,none⟩=some (.func (.func f) us.toArray vs.toArray)∧as.length=us.length∧bs.length=vs.length ∧
  (∀ (i:Nat) x u,as[i]?=some x→us[i]?=some u→SRep e a w F x u [])∧(∀ (i:Nat) x u,bs[i]?=some x→vs[i]?=some u→SRep e a w F x u []):=by
 cases hr with
 | u h=>cases h
 | rfn _ _ _ us vs blk hb hc hl hl' h h'=>exact ⟨rfl,us,vs,blk,rfl,hb,hc,hl,hl',h,h'⟩
theorem fnew_inv {e:Env Γ.X} {g:Nat} {u:Value} {R:List Nat} (hr:SRep e a w F (.fnew g) u R):∃ blk c ty,R=[blk]∧u=.pointer (some ⟨blk,0,none⟩)∧w.heap[blk]?=some (.cells #[c] ty (0,0)):=by
 cases hr with
 | u h=>cases h
 | fnew _ blk c ty hg=>exact ⟨blk,c,ty,rfl,rfl,hg⟩
section steps
variable {T0 T1 T2:Option Γ.X.Ty} {g:Nat} {o:Oper} {us:Ups Γ.X} {ans:Ret Γ.X} (hX:TabOk Γ.X) (h:EnvRel N F0 B U w0 F S e a w) (hg:¬ U g) (hd:∀ k,o.dst=some k→N.ok k)
variable {next:Act→World→Prop} {Q:Exit→Act→World→Prop} (hnext:∀ a' w',Sim N F0 B (withG U g) w0 (applyU e us) a' w'→next a' w')
include hX h hg hd
theorem look_loadF {t:TypeId} {Y:Operand} {x:AX Γ.X} (ho:o.op=.load t Y) (ht:funT P t=true) (hx:compX Γ K T0 Y=some x) (hs:eff ans g e o.dst (.loadF x)=some us):Looks N F0 B U w0 P e a w g o us:=by
 obtain ⟨h1,h2,_⟩:=funT_some ht
 simp only [eff] at hs
 split at hs
 ·rename_i f as bs hr
  cases hs
  obtain ⟨R,k1,k2,_⟩:=h.rd hX hx
  rw [hr] at k1 k2
  obtain ⟨rfl,us,vs,blk,hu,hb,hc,hl,hl',ha,hb'⟩:=rfn_inv k1
  refine ⟨.func (.func f) us.toArray vs.toArray,?_,h.out hd hg (Hand.ofPure (.fn f as bs us vs hl hl' ha hb') k2) trivial⟩
  simp only [execOp,ho,Instr.loadAt,Instr.sureAddr,hu]
  simp [loadVar,run_isAggT h2,run_load,hc]
 ·cases hs
include hnext
omit hX in
theorem step_allocF {t:TypeId} (ho:o.op=.alloc t) (ht:funT P t=true) (hs:eff ans g e o.dst (.allocF)=some us):o.wp P a w next Q:=by
 obtain ⟨_,_,i,z,c,h1,h2,h3⟩:=funT_some ht
 have hrun:(execOp a.eval o).run P w=.ok (.value (.pointer (some ⟨w.heap.size,0,none⟩))) (w.alloc (.cells z.cells t)):=by
  simp only [execOp,ho,Instr.alloc]
  simp [zeroValue,run_typeInfo' h1,h2,newVar,newRow]
 unfold Oper.wp
 rw [hrun]
 simp only [eff] at hs
 cases hs
 have k1:=h.world (w':=w.alloc (.cells z.cells t)) (F':=F) (fun _ h=>h) (fun b hb=>heap_alloc_old w _ b (h.free b hb)) (fun t b hb=>heap_alloc_old w _ b (h.own t b hb).2.1) (belowP_alloc w _) fun b hb=>.inl hb
 refine hnext _ _ (k1.out hd hg (x:=.fnew g) (u:=.pointer (some ⟨w.heap.size,0,none⟩)) (T:=[w.heap.size]) ⟨.fnew g _ c t (by rw [←h3];exact heap_alloc_new w _),trivial,by simp,fun b hb=>?_,fun b hb s hs=>?_⟩ rfl)
 ·simp only [List.mem_singleton] at hb;subst hb
  exact ⟨h.base _ (Nat.le_refl _),by simp,fun hf=>by have:=h.free _ hf;omega⟩
 ·simp only [List.mem_singleton] at hb;subst hb
  have:=(h.own s _ hs).2.1;omega
omit hd hg in
theorem step_storeF {t:TypeId} {Y V:Operand} {x v:AX Γ.X} (ho:o.op=.store t Y V) (ht:funT P t=true) (hx:compX Γ K T0 Y=some x) (hv:compX Γ K T1 V=some v) (hdn:o.dst=none)
  (hs:eff ans g e o.dst (.storeF x v)=some us):o.wp P a w next Q:=by
 obtain ⟨z1,z2,_⟩:=funT_some ht
 simp only [eff] at hs
 have key:∀ {s f g':Nat} {as bs:List (AV Γ.X)},Y=.tmp s→Go.A2.rd e v=.fn f as bs→e s=.fnew g'→us=[(s,.rfn f as bs)]→o.wp P a w next Q:=fun {s f g' as bs} hY hr hes hs=>by
  obtain ⟨R,k1,k2,_⟩:=h.rd hX hv
  rw [hr] at k1 k2
  obtain ⟨rfl,us1,vs1,hu,hl,hl',ha,hb'⟩:=fn_inv k1
  have hrep:=h.rep s
  rw [hes] at hrep
  obtain ⟨blk,c,ty,hS,hp,hc⟩:=fnew_inv hrep
  have hev:a.eval Y=.pointer (some ⟨blk,0,none⟩):=by rw [hY];exact hp
  have hrun:(execOp a.eval o).run P w=.ok .skip (w.setRow blk #[.func (.func f) us1.toArray vs1.toArray]):=by
   simp only [execOp,ho,Instr.storeAt,Instr.sureAddr,hev]
   have:=run_storeCells_at (P:=P) blk 0 ty [a.eval V] 0 #[c] w hc (by simp) (by rw [hu];intro u hu;simp at hu;subst hu;rfl)
   have hcl:(a.eval V).cells=#[a.eval V]:=by rw [hu];rfl
   simp only [storeVar,Sem.run_bind,run_sizeO z1,Result.andThen_ok,hcl]
   rw [hu] at this ⊢
   simp only [List.size_toArray,List.toArray] at this ⊢
   simp at this
   simp [this]
  unfold Oper.wp
  rw [hrun]
  show next (a.put o.dst Go.undef) _
  rw [hdn]
  obtain ⟨hBb,hbw,hbF⟩:=h.own s blk (by rw [hS];simp)
  generalize hw':w.setRow blk #[.func (.func f) us1.toArray vs1.toArray]=w'
  have hF':∀ b',F b'→w'.heap[b']?=w.heap[b']?:=fun b' hb'=>by rw [←hw'];exact row_other fun he=>hbF (he ▸ hb')
  have hoth:∀ t,t ≠ s→∀ b'∈S t,w'.heap[b']?=w.heap[b']?:=fun t hts b' hb'=>by rw [←hw'];exact row_other fun he=>h.apart t s b' hts hb' (by rw [he,hS];simp)
  have hnew:w'.heap[blk]?=some (.cells #[.func (.func f) us1.toArray vs1.toArray] ty (0,0)):=by rw [←hw'];exact setRow_heap w blk #[c] _ ty (0,0) hc
  have hk:Kept U e a w (upd e s (.rfn f as bs)) a w':=h.kept fun t=>by
   by_cases hts:t=s
   ·subst hts;exact .inr (by rw [upd_same];trivial)
   ·exact .inl ⟨upd_ne e _ hts,rfl,hoth t hts⟩
  have st:=h.turn (F':=fun b=>F b∨b=blk) (U':=withG U g) (x:=.rfn f as bs) (T:=[]) (a':=a) (w':=w') rfl rfl (fun _ _=>rfl) (fun _ _=>rfl) hk (fun g hg=>.inl hg) (fun _ h=>.inl h) hF' hoth (by rw [←hw'];exact belowP_setRow hBb w _)
   (fun b' hb'=>hb'.elim .inl fun he=>.inr (by subst he;refine ⟨hBb,by rw [←hw'];simpa using hbw,fun t hts hbt=>h.apart t s _ hts hbt (by rw [hS];simp)⟩))
   (by
    rw [hp]
    refine .rfn f as bs us1 vs1 blk (.inr rfl) ?_ hl hl' (fun i x u hx hu=>?_) fun i x u hx hu=>?_
    ·rw [cell_of hnew];simp
    ·exact (ha i x u hx hu).step (fun _ h=>.inl h) hF' hk (RefGL_get k2.1 hx) (by simp)
    ·exact (hb' i x u hx hu).step (fun _ h=>.inl h) hF' hk (RefGL_get k2.2 hx) (by simp))
   trivial (k2.imp fun _ h=>.inl h) List.nodup_nil (by simp) (by simp)
  exact hnext a _ (by rw [hs];exact ⟨_,_,st⟩)
 split at hs
 ·rename_i s f as bs hr
  split at hs
  ·rename_i g' hes
   rw [hdn] at hs
   simp only [Option.isNone_none,if_true,Option.some.injEq] at hs
   refine key (s:=s) ?_ hr hes hs.symm
   cases Y with
   | tmp t'=>simp only [compX] at hx;split at hx<;>cases hx;rfl
   | const c=>simp only [compX] at hx;obtain ⟨y,_,hy⟩:=Option.map_eq_some_iff.1 hx;cases hy
   | func f=>cases hx
   | global q=>simp only [compX] at hx;obtain ⟨y,_,hy⟩:=Option.map_eq_some_iff.1 hx;cases hy
  ·cases hs
 ·rename_i s f as bs hr
  split at hs
  ·rename_i g' hes
   rw [hdn] at hs
   simp only [Option.isNone_none,if_true,Option.some.injEq] at hs
   refine key (s:=s) ?_ hr hes hs.symm
   cases Y with
   | tmp t'=>simp only [compX] at hx;split at hx<;>cases hx;rfl
   | const c=>simp only [compX] at hx;obtain ⟨y,_,hy⟩:=Option.map_eq_some_iff.1 hx;cases hy
   | func f=>cases hx
   | global q=>simp only [compX] at hx;obtain ⟨y,_,hy⟩:=Option.map_eq_some_iff.1 hx;cases hy
  ·cases hs
 ·cases hs
end steps
end
end
end Go.A2
namespace Go.A2
section
variable {X:Tab}
inductive FRep (w:World) (F:Nat→Prop):AV X→Value→List Nat→Prop where
 | u {x:AV X} {u:Value} {S:List Nat} (h:URep w F x u S):FRep w F x u S
 | tup (l:List (AV X)) (us:List Value) (Ss:Nat→List Nat) (hl:l.length=us.length) (h:∀ (i:Nat) x u,l[i]?=some x→us[i]?=some u→FRep w F x u (Ss i)):FRep w F (.tup l) (.tuple us.toArray) (cat Ss l.length)
 | fn (f:Nat) (as bs:List (AV X)) (us vs:List Value) (hl:as.length=us.length) (hl':bs.length=vs.length) (h:∀ (i:Nat) x u,as[i]?=some x→us[i]?=some u→FRep w F x u [])
   (h':∀ (i:Nat) x u,bs[i]?=some x→vs[i]?=some u→FRep w F x u []):FRep w F (.fn f as bs) (.func (.func f) us.toArray vs.toArray) []
 | box (g:Nat) (T:X.Ty) (v:X.den T) (o:Own) (b:Nat) (cells:Array Value) (ty:TypeId) (S:List Nat) (hg:w.heap[b]?=some (.cells cells ty (0,0))) (h:VRep w F T v o cells.toList S):
   FRep w F (.box g T v o) (.pointer (some ⟨b,0,none⟩)) (b :: S)
 | fnb (f g:Nat) (T:X.Ty) (v:X.den T) (o:Own) (b:Nat) (cells:Array Value) (ty:TypeId) (S:List Nat) (hg:w.heap[b]?=some (.cells cells ty (0,0))) (h:VRep w F T v o cells.toList S):
   FRep w F (.fnb f g T v o) (.func (.func f) #[] #[.pointer (some ⟨b,0,none⟩)]) (b :: S)
theorem FRep.toS {w:World} {F:Nat→Prop} {x:AV X} {u:Value} {S:List Nat} (h:FRep w F x u S) (e:Env X) (a:Act):SRep e a w F x u S:=by
 induction h with
 | u h=>exact .u h
 | tup l us Ss hl _ ih=>exact .tup l us Ss hl ih
 | fn f as bs us vs hl hl' _ _ ih ih'=>exact .fn f as bs us vs hl hl' ih ih'
 | box g T v o b cells ty S hg h=>exact .box g T v o b cells ty S hg h
 | fnb f g T v o b cells ty S hg h=>exact .fnb f g T v o b cells ty S hg h
def CapRep (vals:List Value) (x:AV X) (u:Value):Prop:=x=.undef∨∃ k b,x=.ptr (.box k 0) []∧vals[k]?=some u∧u=.pointer (some ⟨b,0,none⟩)
inductive ARep (w:World) (F:Nat→Prop) (vals:List Value):AV X→Value→List Nat→Prop where
 | f {x:AV X} {u:Value} {S:List Nat} (h:FRep w F x u S):ARep w F vals x u S
 | rfn (f:Nat) (as bs:List (AV X)) (us vs:List Value) (blk:Nat) (hb:F blk) (hc:w.cell? ⟨blk,0,none⟩=some (.func (.func f) us.toArray vs.toArray)) (hl:as.length=us.length) (hl':bs.length=vs.length)
   (h:∀ (i:Nat) x u,as[i]?=some x→us[i]?=some u→CapRep vals x u) (h':∀ (i:Nat) x u,bs[i]?=some x→vs[i]?=some u→CapRep vals x u):ARep w F vals (.rfn f as bs) (.pointer (some ⟨blk,0,none⟩)) []
def isRfn:AV X→Bool
 | .rfn _ _ _=>true
 | _=>false
theorem CapRep.toS {w:World} {F:Nat→Prop} {vals:List Value} {x:AV X} {u:Value} (h:CapRep vals x u) (e:Env X) (a:Act) (hv:∀ (k:Nat) u,vals[k]?=some u→a.tmps.getD k undef=u):SRep e a w F x u []:=by
 rcases h with rfl | ⟨k,b,rfl,h1,h2⟩
 ·exact .u (.undef u)
 ·exact .ptrB k 0 [] u fun T v o _=>⟨b,(hv k u h1).trans h2,by rw [h2];simp [offQ],rfl⟩
theorem ARep.toS {w:World} {F:Nat→Prop} {vals:List Value} {x:AV X} {u:Value} {S:List Nat} (h:ARep w F vals x u S) (e:Env X) (a:Act) (hv:∀ (k:Nat) u,vals[k]?=some u→a.tmps.getD k undef=u):SRep e a w F x u S:=by
 cases h with
 | f h=>exact h.toS e a
 | rfn f as bs us vs blk hb hc hl hl' h h'=>exact .rfn f as bs us vs blk hb hc hl hl' (fun i x u h1 h2=>(h i x u h1 h2).toS e a hv) fun i x u h1 h2=>(h' i x u h1 h2).toS e a hv
def Known (P:Program) (f:Nat):Prop:=∃ fn:Func,P.funcs[f]?=some fn∧fn.body.isSome=true∧(fn.name == "runtime.NumGoroutine")=false
def SpecPost (F0:Nat→Prop) (w:World) (vals:List Value) (Ss:Nat→List Nat) (r:Ret X) (en:Ending) (w':World):Prop:=
 ∃ (v:Value) (F':Nat→Prop) (R:List Nat) (So:Nat→List Nat),en=.returned v∧BelowP (fun b=>w.heap.size≤b∨∃ i,b∈Ss i) w w' ∧
   FRep w' F' r.1 v R∧(∀ (i:Nat) x v,r.2[i]?=some x→vals[i]?=some v→FRep w' F' x v (So i)) ∧
   R.Nodup∧(∀ i,(So i).Nodup)∧(∀ i j b,i ≠ j→b∈So i→b ∉ So j)∧(∀ i b,b∈So i→b ∉ R) ∧
   (∀ b,(b∈R∨∃ i,b∈So i)→(w.heap.size≤b∨∃ i,b∈Ss i)∧b < w'.heap.size∧¬ F' b) ∧
   (∀ b,F0 b→F' b)∧∀ b,F' b→(F0 b∨w.heap.size≤b∨∃ i,b∈Ss i)∧b < w'.heap.size
def SpecC (Cl:Array Value→World→(Ending→World→Prop)→Prop) (args:List (AV X)) (r:Ret X):Prop:=
 ∀ (w:World) (F0:Nat→Prop) (vals:List Value) (Ss:Nat→List Nat),(∀ b,F0 b→b < w.heap.size)→GlobIn X F0 w→args.length=vals.length→
  (∀ (i:Nat) x v,args[i]?=some x→vals[i]?=some v→ARep w F0 vals x v (Ss i))→
  (∀ i,(Ss i).Nodup)→(∀ i j b,i ≠ j→b∈Ss i→b ∉ Ss j)→(∀ i b,b∈Ss i→b < w.heap.size∧¬ F0 b)→
  Cl vals.toArray w (SpecPost F0 w vals Ss r)
def Spec (P:Program) (f:Nat) (args:List (AV X)) (r:Ret X):Prop:=
 Known P f∧SpecC (Calls P f) args r∧(isDf X f=true→SpecC (fun vs w R=>CallsD P f vs .returning w fun en u w'=>u=.returning∧R en w') args r)
theorem nodupB_iff:∀ {l:List Nat},nodupB l=true→l.Nodup
 | [],_=>List.nodup_nil
 | x :: l,h=>by
  simp only [nodupB,Bool.and_eq_true] at h
  refine List.nodup_cons.2 ⟨fun hx=>?_,nodupB_iff h.2⟩
  have:=List.all_eq_true.1 h.1 x hx
  simp at this
theorem PRep.flatF (hX:TabOk X) {w w':World} {F F':Nat→Prop} {T:X.Ty} {v:X.den T} {cs:List Value} (h:PRep w F T v cs) (hf:X.flat T=true):PRep w' F' T v cs:=by
 induction h with
 | int k v=>exact .int k v
 | bool b=>exact .bool b
 | str s=>exact .str s
 | named i v css _ ih=>exact .named i v css fun j t x hj=>ih j t x hj (hX.flat i hf t (List.mem_of_getElem? (getT_type hj)))
 | arr n t v css _ ih=>exact .arr n t v css fun j x hj=>ih j x hj hf
 | slice=>cases hf
 | mapNil=>cases hf
 | map=>cases hf
theorem VRep.flatF (hX:TabOk X) {w w':World} {F F':Nat→Prop} {T:X.Ty} {v:X.den T} {o:Own} {cs:List Value} {S:List Nat} (h:VRep w F T v o cs S) (hf:X.flat T=true):VRep w' F' T v o cs S:=by
 induction h with
 | pure h=>exact .pure (h.flatF hX hf)
 | full=>cases hf
 | ownNil=>cases hf
 | own=>cases hf
 | dead=>cases hf
 | ownM=>cases hf
 | st i v l css Ss _ ih=>exact .st i v l css Ss fun j t x hj=>ih j t x hj (hX.flat i hf t (List.mem_of_getElem? (getT_type hj)))
theorem flatL_get:∀ {l:List (AV X)},flatL l=true→∀ {i:Nat} {x:AV X},l[i]?=some x→flatV x=true
 | [],_,i,x,hi=>by simp at hi
 | y :: l,h,i,x,hi=>by
  simp only [flatL,Bool.and_eq_true] at h
  cases i with
  | zero=>simp at hi;subst hi;exact h.1
  | succ i=>exact flatL_get h.2 (by simpa using hi)
theorem FRep.flatF (hX:TabOk X) {w w':World} {F F':Nat→Prop} {x:AV X} {u:Value} {S:List Nat} (h:FRep w F x u S) (hf:flatV x=true):FRep w' F' x u S:=by
 induction h with
 | u h=>cases h with
  | undef=>cases hf
  | val T v o u' cs S hv hu=>exact .u (.val T v o _ cs _ (hv.flatF hX hf) hu)
  | rptr=>cases hf
 | tup l us Ss hl _ ih=>exact .tup l us Ss hl fun i x u hx hu=>ih i x u hx hu (flatL_get hf hx)
 | fn=>cases hf
 | box=>cases hf
 | fnb=>cases hf
end
section
variable {P:Program} {Γ:Cx}
section
variable {K:List Nat} {N:Slots} {F0 B U:Nat→Prop} {w0:World} {F:Nat→Prop} {S:Nat→List Nat} {e:Env Γ.X} {a:Act} {w:World}
def Place (e:Env Γ.X) (a:Act) (w:World) (s:Nat) (q:List PS) (b:Nat) (t:Γ.X.Ty) (l:Sl b (Γ.X.den t)) (u:Value):Prop:=
 ∃ T v o,slotC (e s)=some ⟨T,v,o⟩∧onlyFld q=true∧getQ q T v=some ⟨.slice b t,l⟩∧hdr e a w s q=some u∧(ownAt o q).alive=true
theorem slotC_withMask {x:AV Γ.X} {T:Γ.X.Ty} {v:Γ.X.den T} {o m:Own} (h:slotC x=some ⟨T,v,o⟩):slotC (withMask x m)=some ⟨T,v,m⟩:=by
 rcases slotC_some h with rfl | ⟨g,rfl⟩<;>rfl
theorem hdr_withMask {s:Nat} {q:List PS} {m:Own}:hdr (upd e s (withMask (e s) m)) a w s q=hdr e a w s q:=by
 unfold hdr
 rw [upd_same]
 cases e s<;>rfl
theorem Place.step {s s':Nat} {q q':List PS} {b b':Nat} {t t':Γ.X.Ty} {l:Sl b (Γ.X.den t)} {u:Value} {T:Γ.X.Ty} {v:Γ.X.den T} {o m:Own} {l':Sl b' (Γ.X.den t')} (h:Place e a w s q b t l u) (hs:slotC (e s')=some ⟨T,v,o⟩) (hq:onlyFld q'=true)
  (hg:getQ q' T v=some ⟨.slice b' t',l'⟩) (hm:setO o q' .no=some m):Place (upd e s' (withMask (e s') m)) a w s q b t l u:=by
 obtain ⟨T1,v1,o1,h1,h2,h3,h4,h5⟩:=h
 by_cases hss:s=s'
 ·subst hss
  rw [hs] at h1;cases h1
  refine ⟨T,v,m,by rw [upd_same];exact slotC_withMask hs,h2,h3,by rw [hdr_withMask];exact h4,?_⟩
  rcases path_cases (tyQ_of_getQ hq hg) h2 (tyQ_of_getQ h2 h3) with ⟨r,rfl,hr⟩ | hd
  ·rw [ownAt_ext hm hq]
   have:∀ r,ownAt .no r=.no:=fun r=>by
    induction r with
    | nil=>rfl
    | cons p r ih=>cases p<;>simp only [ownAt,Own.fldD];exact ih
   rw [this];rfl
  ·rw [ownAt_div hd hm];exact h5
 ·refine ⟨T1,v1,o1,by rw [upd_ne e _ hss];exact h1,h2,h3,?_,h5⟩
  unfold hdr at h4 ⊢
  rw [upd_ne e _ hss];exact h4
theorem EnvRel.freezeAll (hX:TabOk Γ.X):∀ {roots:List (Nat×List PS)} {F:Nat→Prop} {S:Nat→List Nat} {e:Env Γ.X} (_:EnvRel N F0 B U w0 F S e a w) {us:Ups Γ.X} (_:Go.A2.freezeAll e roots=some us)
  (_:∀ r∈roots,∃ b t l u,Place e a w r.1 r.2 b t l u),
  ∃ F1 S1,EnvRel N F0 B U w0 F1 S1 (applyU e us) a w∧Less F S F1 S1∧(∀ t,(∀ r∈roots,r.1 ≠ t)→applyU e us t=e t)∧(∀ r∈roots,∀ b t l u,Place e a w r.1 r.2 b t l u→PRep w F1 (.slice b t) l [u])
 | [],F,S,e,h,us,hf,_=>by
  simp [Go.A2.freezeAll] at hf;subst hf
  exact ⟨F,S,h,.refl _ _,fun _ _=>rfl,by simp⟩
 | (s,q) :: roots,F,S,e,h,us,hf,hr=>by
  simp only [Go.A2.freezeAll] at hf
  split at hf
  ·rename_i u hu
   obtain ⟨T,v,o,m,k1,k2,rfl⟩:=setMask_some hu
   cases hfr:Go.A2.freezeAll (applyU e [(s,withMask (e s) m)]) roots with
   | none=>rw [hfr] at hf;cases hf
   | some us'=>
    rw [hfr] at hf
    simp only [Option.map_some,Option.some.injEq] at hf;subst hf
    obtain ⟨b,t,l,uu,T',v',o',p1,p2,p3,p4,p5⟩:=hr (s,q) (by simp)
    rw [k1] at p1;cases p1
    obtain ⟨F1,S1,cx,g1,g2,g3,g4,_⟩:=h.freezeAt hX k1 (tyQ_of_getQ p2 p3) p3 k2 p5
    obtain ⟨F2,S2,q1,q2,q3,q4⟩:=EnvRel.freezeAll hX g1 hfr fun r hrr=>by
     obtain ⟨b',t',l',u',hp⟩:=hr r (by simp [hrr])
     exact ⟨b',t',l',u',hp.step k1 p2 p3 k2⟩
    refine ⟨F2,S2,by rw [applyU_append];exact q1,g2.trans q2,fun t' ht'=>?_,fun r hrr b' t' l' u' hp=>?_⟩
    ·rw [applyU_append]
     exact (q3 t' fun r hr'=>ht' r (by simp [hr'])).trans (upd_ne e _ (Ne.symm (ht' (s,q) (by simp))))
    ·rcases List.mem_cons.1 hrr with rfl | hrr
     ·obtain ⟨T',v',o',z1,z2,z3,z4,z5⟩:=hp
      rw [k1] at z1;cases z1
      rw [p3] at z3;cases z3
      rw [p4] at z4;cases z4
      have hl:=g3.length hX
      simp only [Tab.sz] at hl
      cases cx with
      | nil=>simp at hl
      | cons c cx=>cases cx with
       | cons=>simp at hl
       | nil=>
        have:=g4 c rfl
        rw [p4] at this;cases this
        exact g3.mono q2.keeps fun _ _=>rfl
     ·exact q4 r hrr b' t' l' u' (hp.step k1 p2 p3 k2)
  ·cases hf
theorem EnvRel.capArg (hX:TabOk Γ.X) (h:EnvRel N F0 B U w0 F S e a w) {v:AV Γ.X} {A:Arg Γ.X} (hA:Go.A2.capArg e v=some A) {u:Value} {R:List Nat} (hr:SRep e a w F v u R) {G:Nat→Prop} (hFG:∀ b,F b→G b) (hcap:∀ s∈A.caps,∀ b∈S s,G b):
  FRep w G A.a u []∧A.back=none∧A.roots=[]:=by
 cases v with
 | val T v o=>
  simp only [Go.A2.capArg] at hA
  split at hA
  ·rename_i hp
   cases hA
   obtain ⟨cs,k1,k2⟩:=hr.valInv
   exact ⟨.u (.val T v .no u cs [] (.pure ((k1.toPure hp).1.mono hFG fun _ _=>rfl)) k2),rfl,rfl⟩
  ·cases hA
 | rptr T v=>
  simp only [Go.A2.capArg,Option.some.injEq] at hA;subst hA
  cases hr with
  | u h=>cases h with
   | rptr T v b o cs hb hc hp=>exact ⟨.u (.rptr T v b o cs (hFG b hb) hc (hp.mono hFG fun _ _=>rfl)),rfl,rfl⟩
 | ptr b q=>
  cases b with
  | elem s p g i=>simp [Go.A2.capArg] at hA
  | box s g=>
   simp only [Go.A2.capArg] at hA
   split at hA
   ·rename_i g' T v o hes
    split at hA
    ·rename_i hc
     obtain ⟨rfl,hpo⟩:=hc
     split at hA
     ·rename_i T' x hx
      cases hA
      cases hr with
      | u h=>cases h
      | ptrB _ _ _ _ hh=>
       obtain ⟨b,q1,q2,q3⟩:=hh T v o hes
       obtain ⟨T2,hT2⟩:=Option.isSome_iff_exists.1 q3
       obtain ⟨x2,hx2⟩:=getQ_of_tyQ v hT2
       rw [hx] at hx2;cases hx2
       obtain ⟨b',cells,ty,S',k1,k2,k3,k4⟩:=h.boxAt hes
       rw [k1] at q1;cases q1
       obtain ⟨k5,_⟩:=k3.toPure hpo
       obtain ⟨c1,cx,c2,S1,Sx,S2,e1,e2,e3,e4,_⟩:=(VRep.pure k5).lens hX hT2 hx
       have h0:∀ q,ownAt .no q=.no:=fun q=>by
        induction q with
        | nil=>rfl
        | cons p q ih=>cases p<;>simp only [ownAt,Own.fldD];exact ih
       rw [h0] at e4
       subst q2
       refine ⟨.u (.rptr T' x b (offQ q T) cx (hcap s (by simp) b (by rw [k4];simp)) (fun j u hj=>?_) ((e4.toPure rfl).1.mono hFG fun _ _=>rfl)),rfl,rfl⟩
       rw [cell_of k2,←Array.getElem?_toList,e1,←e2]
       have hjl:j < cx.length:=(List.getElem?_eq_some_iff.1 hj).1
       rw [List.append_assoc,List.getElem?_append_right (by omega),List.getElem?_append_left (by omega),←hj]
       congr 1;omega
     ·cases hA
    ·cases hA
   ·cases hA
 | undef=>
  simp only [Go.A2.capArg,Option.some.injEq] at hA;subst hA
  exact ⟨.u (.undef u),rfl,rfl⟩
 | _=>simp [Go.A2.capArg] at hA
inductive BkVal:AV Γ.X→AV Γ.X→Value→Value→Prop where
 | same (x y:AV Γ.X) (u:Value) (hx:∀ f g T v o,x ≠ .fnb f g T v o) (hy:∀ f g T v o,y ≠ .fnb f g T v o):BkVal x y u u
 | give (f g g':Nat) (T:Γ.X.Ty) (v:Γ.X.den T) (o:Own) (T':Γ.X.Ty) (v':Γ.X.den T') (o':Own) (u:Value):BkVal (.box g' T' v' o') (.fnb f g T v o) (.func (.func f) #[] #[u]) u
 | take (f g g':Nat) (T:Γ.X.Ty) (v:Γ.X.den T) (o:Own) (T':Γ.X.Ty) (v':Γ.X.den T') (o':Own) (u:Value):BkVal (.fnb f g T v o) (.box g' T' v' o') u (.func (.func f) #[] #[u])
 | both (f g g':Nat) (T:Γ.X.Ty) (v:Γ.X.den T) (o:Own) (T':Γ.X.Ty) (v':Γ.X.den T') (o':Own) (u:Value):BkVal (.fnb f g T v o) (.fnb f g' T' v' o') u u
theorem EnvRel.argV (hX:TabOk Γ.X) (h:EnvRel N F0 B U w0 F S e a w) {v:AV Γ.X} {A:Arg Γ.X} (hA:Go.A2.argV e v=some A) {u:Value} {R:List Nat} (hr:SRep e a w F v u R) {F1 G:Nat→Prop} {S1:Nat→List Nat} {e1:Env Γ.X} (h1:EnvRel N F0 B U w0 F1 S1 e1 a w)
  (hFG:∀ b,F b→G b) (hF1G:∀ b,F1 b→G b) (hcap:∀ s∈A.caps,∀ b∈S s,G b) (hback:∀ s,A.back=some s→e1 s=e s) (hroot:∀ r∈A.roots,∀ b t l u,Place e a w r.1 r.2 b t l u→PRep w G (.slice b t) l [u]):
  (isRfn A.a=false→FRep w G A.a u (match A.back with | some s=>S1 s | none=>[]))∧(isRfn A.a=true→A.back=none∧SRep e a w F A.a u [])∧(∀ s,A.back=some s→BkVal (e s) A.a u (a.tmps.getD s Go.undef))∧(∀ r∈A.roots,∃ b t l u,Place e a w r.1 r.2 b t l u):=by
 cases v with
 | rfn f as bs=>
  simp only [Go.A2.argV,Option.some.injEq] at hA;subst hA
  refine ⟨fun h=>(by cases h),fun _=>⟨rfl,?_⟩,by simp,by simp⟩
  cases hr with
  | u h=>cases h
  | rfn f as bs us vs blk hb hc hl hl' k k'=>exact .rfn f as bs us vs blk hb hc hl hl' k k'
 | val T v o=>
  simp only [Go.A2.argV] at hA
  split at hA
  ·rename_i hp
   cases hA
   obtain ⟨cs,k1,k2⟩:=hr.valInv
   exact ⟨fun _=>.u (.val T v .no u cs [] (.pure ((k1.toPure hp).1.mono hFG fun _ _=>rfl)) k2),(fun hh=>by cases hh),by simp,by simp⟩
  ·cases hA
 | rptr T v=>
  simp only [Go.A2.argV,Option.some.injEq] at hA;subst hA
  cases hr with
  | u h=>cases h with
   | rptr T v b o cs hb hc hp=>exact ⟨fun _=>.u (.rptr T v b o cs (hFG b hb) hc (hp.mono hFG fun _ _=>rfl)),(fun hh=>by cases hh),by simp,by simp⟩
 | ref s q g=>
  simp only [Go.A2.argV] at hA
  split at hA
  ·rename_i b t l hc
   cases hA
   obtain ⟨T,v,o,c1,c2,c3⟩:=cont_some hc
   obtain ⟨hq,hh⟩:=h.refAt hc hr
   have hpl:Place e a w s q b t l u:=⟨T,v,o,c1,hq,c2,hh,by rw [c3];rfl⟩
   exact ⟨fun _=>.u (.val (.slice b t) l .no u [u] [] (.pure (hroot (s,q) (by simp) b t l u hpl)) (by unfold valOk;rw [if_neg (by simp [aggB])])),(fun hh=>by cases hh),by simp,fun r hr=>by simp at hr;subst hr;exact ⟨b,t,l,u,hpl⟩⟩
  ·cases hA
 | ptr b q=>
  cases b with
  | elem s p g i=>simp [Go.A2.argV] at hA
  | box s g=>
   cases q with
   | cons=>simp [Go.A2.argV] at hA
   | nil=>
    simp only [Go.A2.argV] at hA
    split at hA
    ·rename_i g' T v o hes
     split at hA
     ·rename_i hc
      subst hc
      cases hA
      cases hr with
      | u h=>cases h
      | ptrB _ _ _ _ hh=>
       obtain ⟨b,q1,q2,q3⟩:=hh T v o hes
       have hes1:=(hback s rfl).trans hes
       obtain ⟨b',cells,ty,S',k1,k2,k3,k4⟩:=h1.boxAt hes1
       rw [k1] at q1;cases q1
       have hu:u=.pointer (some ⟨b,0,none⟩):=by rw [q2];simp [offQ]
       refine ⟨fun _=>?_,(fun hh=>by cases hh),fun s' hs'=>by cases hs';rw [k1,hu,hes];exact .same _ _ _ (by simp) (by simp),by simp⟩
       rw [hu]
       show FRep w G _ _ (S1 s)
       rw [k4]
       exact .box 0 T v _ b cells ty S' k2 ((k3.gen 0).mono hF1G (fun _ _=>rfl) fun _ _=>rfl)
     ·cases hA
    ·cases hA
 | aview bs q b n t off hi=>
  cases bs with
  | elem s p g i=>simp [Go.A2.argV] at hA
  | box s g=>
   simp only [Go.A2.argV] at hA
   split at hA
   ·rename_i g0 T0 v0 o0 bb tt ll hes hsl
    split at hA
    ·rename_i hpo
     cases hA
     simp only [slOf] at hsl
     split at hsl
     ·rename_i v hd
      split at hsl
      ·rename_i hok
       cases hsl
       cases hr with
       | u h=>cases h
       | aview _ _ _ _ _ _ _ blk o c m hp p1 p2 p3 p4=>
        obtain ⟨cells,ty,css,r1,r2,r3,r4⟩:=h.arrAt hX hd hp
        have hgg:g=g0:=by
         simp only [derefA,hes] at hd
         split at hd
         ·rename_i hc;exact hc.1
         ·cases hd
        subst hgg
        have hGb:G blk:=by
         cases hp with
         | u h=>cases h
         | ptrB _ _ _ _ hh=>
          obtain ⟨b',q1,q2,_⟩:=hh _ _ _ hes
          cases q2
          obtain ⟨b3,_,_,S',k1,_,_,k4⟩:=h.boxAt hes
          rw [q1] at k1;cases k1
          exact hcap s (by simp) blk (by rw [k4];simp)
        refine ⟨fun _=>?_,(fun hh=>by cases hh),by simp,by simp⟩
        have hln:(Arr.sl b v hok).l.length=n:=v.h
        have cl:∀ i,i < n→(css i).length=Γ.X.sz t:=fun i hi=>(r4 i _ (List.getElem?_eq_getElem (by rw [v.h];exact hi))).length hX
        have hcl:((Arr.sl b v hok).cut off hi).l.length=hi - off:=by simp only [Sl.cut,List.length_drop,List.length_take];omega
        have hget:∀ i,i < hi - off→((Arr.sl b v hok).cut off hi).l[i]?=v.l[off+i]?:=fun i hi'=>by
         simp only [Sl.cut]
         rw [List.getElem?_drop,List.getElem?_take_of_lt (by omega)]
         rfl
        refine .u (.val _ _ .no _ [.slice m (hi - off) c] [] (.pure ?_) (by unfold valOk;rw [if_neg (by simp [aggB])]))
        rw [←hcl]
        refine .slice b t _ m c (fun i=>css (off+i)) (by omega) (fun hne=>?_) fun i x hx=>?_
        ·have hpos:0 < ((Arr.sl b v hok).cut off hi).l.length:=List.length_pos_iff.2 hne
         refine ⟨blk,o+off*Γ.X.sz t,p4 (by omega),hGb,fun i j u hi' hj=>?_⟩
         have hjl:j < Γ.X.sz t:=by rw [←cl (off+i) (by omega)];exact (List.getElem?_eq_some_iff.1 hj).1
         have:=r3 ((off+i)*Γ.X.sz t+j) u (by rw [cat_get cl (by omega) hjl];exact hj)
         rw [cell_of r1,←this];congr 1;rw [Nat.add_mul];omega
        ·have hil:i < hi - off:=by rw [←hcl];exact (List.getElem?_eq_some_iff.1 hx).1
         rw [hget i hil] at hx
         exact (r4 _ x hx).mono hFG fun _ _=>rfl
      ·cases hsl
     ·cases hsl
    ·cases hA
   ·cases hA
 | fref s g=>
  simp only [Go.A2.argV] at hA
  split at hA
  ·rename_i f g' T v o hes
   split at hA
   ·rename_i hc
    subst hc
    cases hA
    cases hr with
    | u h=>cases h
    | fref _ _ _ hh=>
     have hu:=hh f T v o hes
     have hes1:=(hback s rfl).trans hes
     obtain ⟨b,cells,ty,S',k1,k2,k3,k4⟩:=h1.fnbAt hes1
     refine ⟨fun _=>?_,(fun hh=>by cases hh),fun s' hs'=>by cases hs';rw [hes,hu];exact .both ..,by simp⟩
     show FRep w G _ _ (S1 s)
     rw [k4,hu,k1]
     exact .fnb f 0 T v _ b cells ty S' k2 ((k3.gen 0).mono hF1G (fun _ _=>rfl) fun _ _=>rfl)
   ·cases hA
  ·cases hA
 | fn f first caps=>
  simp only [Go.A2.argV] at hA
  split at hA
  ·unfold Go.A2.lendB at hA
   split at hA
   ·rename_i s g
    split at hA
    ·rename_i g' T v o hes
     split at hA
     ·rename_i hc
      subst hc
      cases hA
      cases hr with
      | u h=>cases h
      | fn _ _ _ us vs hl hl' ha hb=>
       obtain rfl:us=[]:=by simpa using hl.symm
       obtain ⟨v0,rfl⟩:∃ v0,vs=[v0]:=by
        match vs,hl' with
        | [v0],_=>exact ⟨v0,rfl⟩
       have hr0:=hb 0 _ v0 rfl rfl
       cases hr0 with
       | u h=>cases h
       | ptrB _ _ _ _ hh=>
        obtain ⟨b,q1,q2,q3⟩:=hh T v o hes
        have hes1:=(hback s rfl).trans hes
        obtain ⟨b',cells,ty,S',k1,k2,k3,k4⟩:=h1.boxAt hes1
        rw [k1] at q1;cases q1
        have hu:v0=.pointer (some ⟨b,0,none⟩):=by rw [q2];simp [offQ]
        subst hu
        refine ⟨fun _=>?_,(fun hh=>by cases hh),fun s' hs'=>by cases hs';rw [k1,hes];exact .give ..,by simp⟩
        show FRep w G _ _ (S1 s)
        rw [k4]
        exact .fnb f 0 T v _ b cells ty S' k2 ((k3.gen 0).mono hF1G (fun _ _=>rfl) fun _ _=>rfl)
     ·cases hA
    ·cases hA
   ·cases hA
  split at hA
  ·rename_i fs cs h1' h2'
   cases hA
   cases hr with
   | u h=>cases h
   | fn _ _ _ us vs hl hl' ha hb=>
    obtain ⟨n1,_⟩:=allO_spec h1'
    obtain ⟨n2,_⟩:=allO_spec h2'
    refine ⟨fun _=>.fn f _ _ us vs (by simp [n1,hl]) (by simp [n2,hl']) (fun i x u hi hu=>?_) (fun i x u hi hu=>?_),(fun hh=>by cases hh),by simp,by simp⟩
    ·rw [List.getElem?_map] at hi
     cases hfi:fs[i]? with
     | none=>simp [hfi] at hi
     | some A=>
      simp [hfi] at hi;subst hi
      obtain ⟨y,hy,hcy⟩:=allO_get' h1' hfi
      exact (h.capArg hX hcy (ha i y u hy hu) hFG fun s hs=>hcap s (List.mem_flatMap.2 ⟨A,by simp [List.mem_of_getElem? hfi],hs⟩)).1
    ·rw [List.getElem?_map] at hi
     cases hfi:cs[i]? with
     | none=>simp [hfi] at hi
     | some A=>
      simp [hfi] at hi;subst hi
      obtain ⟨y,hy,hcy⟩:=allO_get' h2' hfi
      exact (h.capArg hX hcy (hb i y u hy hu) hFG fun s hs=>hcap s (List.mem_flatMap.2 ⟨A,by simp [List.mem_of_getElem? hfi],hs⟩)).1
  ·cases hA
 | _=>simp [Go.A2.argV] at hA
theorem EnvRel.lendArg (h:EnvRel N F0 B U w0 F S e a w) {s g:Nat} {A:Arg Γ.X} (hA:Go.A2.lendR e s g=some A) {u:Value} {R:List Nat} (hr:SRep e a w F (.ref s [] g) u R) {F1 G:Nat→Prop} {S1:Nat→List Nat} {e1:Env Γ.X} (h1:EnvRel N F0 B U w0 F1 S1 e1 a w)
  (hF1G:∀ b,F1 b→G b) (hback:∀ s,A.back=some s→e1 s=e s):
  (isRfn A.a=false→FRep w G A.a u (match A.back with | some s=>S1 s | none=>[]))∧(isRfn A.a=true→A.back=none∧SRep e a w F A.a u [])∧(∀ s,A.back=some s→BkVal (e s) A.a u (a.tmps.getD s Go.undef))∧(∀ r∈A.roots,∃ b t l u,Place e a w r.1 r.2 b t l u):=by
 unfold Go.A2.lendR at hA
 split at hA
 ·rename_i b t l g' hes
  split at hA
  ·rename_i hg
   subst hg
   cases hA
   have hc:cont e s [] g=some ⟨b,t,l⟩:=by
    unfold cont
    rw [hes]
    simp [slotC,getQ,ownAt]
   obtain ⟨_,hh⟩:=h.refAt hc hr
   have hu:u=a.tmps.getD s Go.undef:=by
    obtain ⟨cs,k1,k2⟩:=h.valAt hes
    unfold hdr at hh
    rw [hes] at hh
    simp only [offQ] at hh
    unfold valOk at k2
    rw [if_neg (by simp [aggB])] at k2
    have hone:∃ ad n c,a.tmps.getD s Go.undef=.slice ad n c:=by
     generalize a.tmps.getD s Go.undef=z at k2
     subst k2
     generalize hz:[z]=zs at k1
     generalize S s=Rs at k1
     cases k1 with
     | ownNil _ _ _ _ ad _=>exact ⟨_,_,_,by simpa using hz⟩
     | own _ _ _ _ blk cap cells ty css _ _ _ _ _ _=>exact ⟨_,_,_,by simpa using hz⟩
    obtain ⟨ad,n,c,hz⟩:=hone
    rw [hz] at hh ⊢
    simpa [Value.cells] using hh.symm
   have hes1:=(hback s rfl).trans hes
   obtain ⟨cs,k1,k2⟩:=h1.valAt hes1
   refine ⟨fun _=>?_,(fun hh=>by cases hh),fun s' hs'=>by cases hs';rw [hu,hes];exact .same _ _ _ (by simp) (by simp),by simp⟩
   rw [hu]
   exact .u (.val _ l (.yes 0) _ cs (S1 s) ((k1.gen 0).mono hF1G (fun _ _=>rfl) fun _ _=>rfl) k2)
  ·cases hA
 ·cases hA
end
end
end Go.A2
namespace Go.A2
section
variable {P:Program} {Γ:Cx}
section
variable {K:List Nat} {N:Slots} {F0 B U:Nat→Prop} {w0:World} {F:Nat→Prop} {S:Nat→List Nat} {e:Env Γ.X} {a:Act} {w:World}
inductive Bk (g:Nat):AV Γ.X→AV Γ.X→AV Γ.X→Prop where
 | box (g' g0:Nat) (T:Γ.X.Ty) (v v0:Γ.X.den T) (m m0:Own):Bk g (.box g' T v0 m0) (.box g0 T v m) (.box g' T v (m.gen g))
 | val (b:Nat) (t:Γ.X.Ty) (l l0:Sl b (Γ.X.den t)) (m:Own) (g':Nat):Bk g (.val (.slice b t) l0 (.yes g')) (.val (.slice b t) l m) (.val (.slice b t) l (m.gen g))
 | und (b:Nat) (t:Γ.X.Ty) (l0:Sl b (Γ.X.den t)) (g':Nat):Bk g (.val (.slice b t) l0 (.yes g')) .undef .undef
 | took (f g' g0:Nat) (T:Γ.X.Ty) (v v0:Γ.X.den T) (m m0:Own):Bk g (.fnb f g' T v0 m0) (.box g0 T v m) (.fnb f g' T v (m.gen g))
 | gave (f g' g0:Nat) (T:Γ.X.Ty) (v v0:Γ.X.den T) (m m0:Own):Bk g (.box g' T v0 m0) (.fnb f g0 T v m) (.box g' T v (m.gen g))
 | both (f g' g0:Nat) (T:Γ.X.Ty) (v v0:Γ.X.den T) (m m0:Own):Bk g (.fnb f g' T v0 m0) (.fnb f g0 T v m) (.fnb f g' T v (m.gen g))
theorem bk1_spec {g:Nat} {x o z:AV Γ.X} (h:bk1 g x o=some z):Bk g x o z:=by
 unfold bk1 at h
 split at h
 ·split at h
  ·rename_i hT
   subst hT
   cases h
   exact .box ..
  ·cases h
 ·split at h
  ·rename_i hT
   obtain ⟨rfl,rfl⟩:=hT
   cases h
   exact .val ..
  ·cases h
 ·cases h
  exact .und ..
 ·split at h
  ·rename_i hT
   subst hT
   cases h
   exact .took ..
  ·cases h
 ·split at h
  ·rename_i hT
   subst hT
   cases h
   exact .gave ..
  ·cases h
 ·split at h
  ·rename_i hT
   obtain ⟨rfl,rfl⟩:=hT
   cases h
   exact .both ..
  ·cases h
 ·cases h
theorem giveBack_spec {e:Env Γ.X} {g:Nat}:∀ {as:List (Arg Γ.X)} {os:List (AV Γ.X)} {us:Ups Γ.X} {e1:Env Γ.X},giveBack e g as os=some us→
  os.length=as.length∧∀ t,(∃ (i:Nat) (A:Arg Γ.X) (o z:AV Γ.X),as[i]?=some A∧A.back=some t∧os[i]?=some o∧Bk g (e t) o z∧applyU e1 us t=z) ∨
   ((∀ (i:Nat) A,as[i]?=some A→A.back ≠ some t)∧applyU e1 us t=e1 t)
 | [],[],us,e1,h=>by
  simp [giveBack] at h;subst h
  exact ⟨rfl,fun t=>.inr ⟨by simp,rfl⟩⟩
 | [],_ :: _,us,e1,h=>by simp [giveBack] at h
 | _ :: _,[],us,e1,h=>by simp [giveBack] at h
 | A :: as,o :: os,us,e1,h=>by
  have shift:∀ {us:Ups Γ.X} {e1:Env Γ.X} {t:Nat},(∃ (i:Nat) (A:Arg Γ.X) (o z:AV Γ.X),as[i]?=some A∧A.back=some t∧os[i]?=some o∧Bk g (e t) o z∧applyU e1 us t=z)→
    ∃ (i:Nat) (A':Arg Γ.X) (o' z:AV Γ.X),(A :: as)[i]?=some A'∧A'.back=some t∧(o :: os)[i]?=some o'∧Bk g (e t) o' z∧applyU e1 us t=z:=fun {us e1 t} hh=>by
   obtain ⟨i,A',o',z,h1,h2,h3,h4,h5⟩:=hh
   exact ⟨i+1,A',o',z,by simpa using h1,h2,by simpa using h3,h4,h5⟩
  simp only [giveBack] at h
  split at h
  ·rename_i s hb
   split at h
   ·rename_i z hz
    cases hr:giveBack e g as os with
    | none=>rw [hr] at h;cases h
    | some us'=>
     rw [hr] at h
     simp only [Option.map_some,Option.some.injEq] at h;subst h
     obtain ⟨k1,k2⟩:=giveBack_spec (e1:=upd e1 s z) hr
     refine ⟨by simp [k1],fun t=>?_⟩
     show _∨(_∧applyU (upd e1 s z) us' t=e1 t)
     rcases k2 t with hh | ⟨q1,q2⟩
     ·exact .inl (shift hh)
     ·by_cases ht:t=s
      ·subst ht
       rw [upd_same] at q2
       exact .inl ⟨0,A,o,z,rfl,hb,rfl,bk1_spec hz,q2⟩
      ·rw [upd_ne e1 _ ht] at q2
       refine .inr ⟨fun i A' hA'=>?_,q2⟩
       cases i with
       | zero=>simp at hA';subst hA';rw [hb];simp [Ne.symm ht]
       | succ i=>exact q1 i A' (by simpa using hA')
   ·cases h
  ·rename_i hb
   obtain ⟨k1,k2⟩:=giveBack_spec (e1:=e1) h
   refine ⟨by simp [k1],fun t=>?_⟩
   rcases k2 t with hh | ⟨q1,q2⟩
   ·exact .inl (shift hh)
   ·refine .inr ⟨fun i A' hA'=>?_,q2⟩
    cases i with
    | zero=>simp at hA';subst hA';rw [hb];simp
    | succ i=>exact q1 i A' (by simpa using hA')
def ownArg (as:List (Arg Γ.X)) (S:Nat→List Nat) (i:Nat):List Nat:=match (as[i]?).bind (·.back) with | some s=>S s | none=>[]
theorem back_inj:∀ {as:List (Arg Γ.X)},(as.filterMap (·.back)).Nodup→∀ {i j:Nat} {A A':Arg Γ.X} {s:Nat},as[i]?=some A→as[j]?=some A'→A.back=some s→A'.back=some s→i=j
 | [],_,i,j,A,A',s,h,_,_,_=>by simp at h
 | x :: as,nd,i,j,A,A',s,h1,h2,h3,h4=>by
  have tail:(as.filterMap (·.back)).Nodup:=by
   cases hb:x.back with
   | none=>simpa [List.filterMap_cons,hb] using nd
   | some t=>rw [List.filterMap_cons,hb] at nd;exact (List.nodup_cons.1 nd).2
  have head:∀ {k:Nat} {A':Arg Γ.X},x.back=some s→as[k]?=some A'→A'.back=some s→False:=fun {k A'} hb hk hA=>by
   rw [List.filterMap_cons,hb] at nd
   exact (List.nodup_cons.1 nd).1 (List.mem_filterMap.2 ⟨A',List.mem_of_getElem? hk,hA⟩)
  cases i with
  | zero=>
   simp at h1;subst h1
   cases j with
   | zero=>rfl
   | succ j=>exact (head h3 (by simpa using h2) h4).elim
  | succ i=>
   cases j with
   | zero=>simp at h2;subst h2;exact (head h4 (by simpa using h1) h3).elim
   | succ j=>exact congrArg (·+1) (back_inj tail (i:=i) (j:=j) (A:=A) (A':=A') (by simpa using h1) (by simpa using h2) h3 h4)
theorem FRep_ref {w:World} {F:Nat→Prop} {x:AV Γ.X} {u:Value} {R:List Nat} (hx:FRep w F x u R) {Q:Nat→Prop}:RefG Q x:=by
 induction hx with
 | u h=>cases h<;>exact trivial
 | tup l us Ss hl _ ih=>
  refine RefGL_mk fun y hy=>?_
  obtain ⟨i,hi,rfl⟩:=List.mem_iff_getElem.1 hy
  exact ih i _ (us[i]'(by omega)) (List.getElem?_eq_getElem hi) (List.getElem?_eq_getElem (by omega))
 | fn f as bs us vs hl hl' _ _ ih ih'=>
  refine ⟨RefGL_mk fun y hy=>?_,RefGL_mk fun y hy=>?_⟩
  ·obtain ⟨i,hi,rfl⟩:=List.mem_iff_getElem.1 hy
   exact ih i _ (us[i]'(by omega)) (List.getElem?_eq_getElem hi) (List.getElem?_eq_getElem (by omega))
  ·obtain ⟨i,hi,rfl⟩:=List.mem_iff_getElem.1 hy
   exact ih' i _ (vs[i]'(by omega)) (List.getElem?_eq_getElem hi) (List.getElem?_eq_getElem (by omega))
 | box=>trivial
 | fnb=>trivial
theorem EnvRel.land (h:EnvRel N F0 B U w0 F S e a w) {g:Nat} (hg:¬ U g) {d:Option Nat} (hd:∀ k,d=some k→N.ok k) {as:List (Arg Γ.X)} (nd:(as.filterMap (·.back)).Nodup) {outs:List (AV Γ.X)} {e0:Env Γ.X} {u2:Ups Γ.X}
  (hgb:giveBack e0 g as outs=some u2) (hbe:∀ (i:Nat) A s,as[i]?=some A→A.back=some s→e s=e0 s) {vals:List Value} (hlen:vals.length=as.length) (hval:∀ (i:Nat) A u s,as[i]?=some A→vals[i]?=some u→A.back=some s→BkVal (e0 s) A.a u (a.tmps.getD s Go.undef))
  {w':World} {F2:Nat→Prop} {R:List Nat} {So:Nat→List Nat} {x:AV Γ.X} {v:Value} (hB:BelowP (fun b=>w.heap.size≤b∨∃ i,b∈ownArg as S i) w w') (hx:FRep w' F2 x v R)
  (hO:∀ (i:Nat) (A:Arg Γ.X) s x v,as[i]?=some A→A.back=some s→outs[i]?=some x→vals[i]?=some v→FRep w' F2 x v (So i)) (hRn:R.Nodup) (hSn:∀ i,(So i).Nodup) (hSS:∀ i j b,i ≠ j→b∈So i→b ∉ So j) (hSR:∀ i b,b∈So i→b ∉ R)
  (hown:∀ b,(b∈R∨∃ i,b∈So i)→(w.heap.size≤b∨∃ i,b∈ownArg as S i)∧b < w'.heap.size∧¬ F2 b) (hF:∀ b,F b→F2 b) (hF2:∀ b,F2 b→(F b∨w.heap.size≤b∨∃ i,b∈ownArg as S i)∧b < w'.heap.size):
  Sim N F0 B (withG U g) w0 (applyU e (u2++outU d (genV g x))) (a.put d v) w':=by
 classical
 obtain ⟨hol,hgs⟩:=giveBack_spec (e1:=e) hgb
 have hOwn:∀ {i:Nat} {b:Nat},b∈ownArg as S i→∃ A s,as[i]?=some A∧A.back=some s∧b∈S s:=fun {i b} hb=>by
  unfold ownArg at hb
  cases hai:as[i]? with
  | none=>rw [hai] at hb;simp at hb
  | some A=>
   rw [hai] at hb
   cases hbk:A.back with
   | none=>simp [hbk] at hb
   | some s=>simp [hbk] at hb;exact ⟨A,s,rfl,hbk,hb⟩
 have hFkeep:∀ b,F b→w'.heap[b]?=w.heap[b]?:=fun b hb=>hB.block b (h.free b hb) fun hh=>by
  rcases hh with hh | ⟨i,hh⟩
  ·have:=h.free b hb;omega
  ·obtain ⟨A,s,_,_,hs⟩:=hOwn hh
   exact (h.own s b hs).2.2 hb
 have hSkeep:∀ t,(∀ (i:Nat) A,as[i]?=some A→A.back ≠ some t)→∀ b∈S t,w'.heap[b]?=w.heap[b]?:=fun t ht b hb=>hB.block b (h.own t b hb).2.1 fun hh=>by
  rcases hh with hh | ⟨i,hh⟩
  ·have:=(h.own t b hb).2.1;omega
  ·obtain ⟨A,s,q1,q2,hs⟩:=hOwn hh
   exact h.apart s t b (fun he=>ht i A q1 (he ▸ q2)) hs hb
 let idx:Nat→Option Nat:=fun t=>if hh:∃ (i:Nat) (A:Arg Γ.X),as[i]?=some A∧A.back=some t then some (Classical.choose hh) else none
 let S3:Nat→List Nat:=fun t=>if d=some t then R else match idx t with | some i=>So i | none=>S t
 have hidx:∀ {i:Nat} {A:Arg Γ.X} {t:Nat},as[i]?=some A→A.back=some t→idx t=some i:=fun {i A t} h1 h2=>by
  have hh:∃ (i:Nat) (A:Arg Γ.X),as[i]?=some A∧A.back=some t:=⟨i,A,h1,h2⟩
  show (if hh:∃ (i:Nat) (A:Arg Γ.X),as[i]?=some A∧A.back=some t then some (Classical.choose hh) else none)=some i
  rw [dif_pos hh]
  obtain ⟨A',q1,q2⟩:=Classical.choose_spec hh
  rw [back_inj nd q1 h1 q2 h2]
 have hidn:∀ {t:Nat},(∀ (i:Nat) A,as[i]?=some A→A.back ≠ some t)→idx t=none:=fun {t} hn=>by
  show (if hh:∃ (i:Nat) (A:Arg Γ.X),as[i]?=some A∧A.back=some t then some (Classical.choose hh) else none)=none
  rw [dif_neg]
  rintro ⟨i,A,h1,h2⟩
  exact hn i A h1 h2
 have hidx':∀ {t i:Nat},idx t=some i→∃ A:Arg Γ.X,as[i]?=some A∧A.back=some t:=fun {t i} hi=>by
  by_cases hh:∃ (i:Nat) (A:Arg Γ.X),as[i]?=some A∧A.back=some t
  ·obtain ⟨j,A,h1,h2⟩:=hh
   have:=hidx h1 h2
   rw [hi] at this;cases this
   exact ⟨A,h1,h2⟩
  ·have:idx t=none:=hidn fun i A h1 h2=>hh ⟨i,A,h1,h2⟩
   rw [hi] at this;cases this
 have hput:∀ t,(a.put d v).tmps.getD t Go.undef=if d=some t then v else a.tmps.getD t Go.undef:=fun t=>by
  cases d with
  | none=>simp [Act.put]
  | some k=>
   rw [getD_put a k t v (h.size ▸ (hd k rfl).1)]
   by_cases ht:t=k
   ·subst ht;simp
   ·rw [if_neg ht,if_neg (fun hh=>ht (Option.some.inj hh).symm)]
 have hap:∀ t,applyU e (u2++outU d (genV g x)) t=if d=some t then genV g x else applyU e u2 t:=fun t=>by
  rw [applyU_append]
  cases d with
  | none=>rfl
  | some k=>
   show upd _ k _ t=_
   by_cases ht:t=k
   ·subst ht;rw [upd_same];simp
   ·rw [upd_ne _ _ ht,if_neg (fun hh=>ht (Option.some.inj hh).symm)]
 generalize he3:applyU e (u2++outU d (genV g x))=e3 at hap ⊢
 have st:∀ t,(d=some t∧e3 t=genV g x∧S3 t=R∧(a.put d v).tmps.getD t Go.undef=v) ∨
   (d ≠ some t∧(a.put d v).tmps.getD t Go.undef=a.tmps.getD t Go.undef∧∃ (i:Nat) (A:Arg Γ.X) (o:AV Γ.X),as[i]?=some A∧A.back=some t∧outs[i]?=some o∧Bk g (e t) o (e3 t)∧S3 t=So i) ∨
   (d ≠ some t∧(a.put d v).tmps.getD t Go.undef=a.tmps.getD t Go.undef∧(∀ (i:Nat) A,as[i]?=some A→A.back ≠ some t)∧e3 t=e t∧S3 t=S t):=fun t=>by
  by_cases hdt:d=some t
  ·exact .inl ⟨hdt,by rw [hap,if_pos hdt],by show (if d=some t then R else _)=R;rw [if_pos hdt],by rw [hput,if_pos hdt]⟩
  ·rcases hgs t with ⟨i,A,o,z,h1,h2,h3,h4,h5⟩ | ⟨h1,h2⟩
   ·refine .inr (.inl ⟨hdt,by rw [hput,if_neg hdt],i,A,o,h1,h2,h3,by rw [hbe i A t h1 h2,hap,if_neg hdt,h5];exact h4,?_⟩)
    show (if d=some t then R else match idx t with | some i=>So i | none=>S t)=So i
    rw [if_neg hdt,hidx h1 h2]
   ·refine .inr (.inr ⟨hdt,by rw [hput,if_neg hdt],h1,by rw [hap,if_neg hdt];exact h2,?_⟩)
    show (if d=some t then R else match idx t with | some i=>So i | none=>S t)=S t
    rw [if_neg hdt,hidn h1]
 have hgU:∀ {o:Own},OGen (·=g) o→OGen (fun q=>¬ U q) o:=fun ho=>ho.imp fun q (hq:q=g) hu=>hg (hq ▸ hu)
 have hk:Kept U e a w e3 (a.put d v) w':=by
  refine ⟨fun t q g' b ty l' hqf hug hc=>?_,fun t g' T1 v1 o1 hug hb=>?_,fun t f g' T1 v1 o1 hug hb=>?_,fun t g' k ty l hug hb=>?_⟩
  ·rcases st t with ⟨h1,h2,_⟩ | ⟨h1,h2,i,A,o,h3,h4,h5,h6,h8⟩ | ⟨h1,h2,h3,h4,h5⟩
   ·exact absurd hug (cont_gen (P:=fun q=>¬ U q) (by rw [h2];exact (OwnsG_gen g x).imp fun q (hq:q=g) hu=>hg (hq ▸ hu)) hc)
   ·exfalso
    generalize hx0:e t=x0 at h6
    generalize hz0:e3 t=z0 at h6
    cases h6 with
    | box gg g0 T vv v0 m m0=>
     unfold cont at hc
     rw [hz0] at hc
     simp only [slotC] at hc
     split at hc
     ·rename_i b1 t1 l1 g1 hg1 ho1
      split at hc
      ·rename_i hgg
       subst hgg
       exact ownAt_gen (P:=fun q=>¬ U q) (hgU (OGen_gen g m)) ho1 hug
      ·cases hc
     ·cases hc
    | val b1 t1 l1 l0 m gg=>
     exact absurd hug (cont_gen (P:=fun q=>¬ U q) (by rw [hz0];exact hgU (OGen_gen g m)) hc)
    | und b1 t1 l0 gg=>
     unfold cont at hc
     rw [hz0] at hc
     cases hc
    | took f gg g0 T vv v0 m m0=>
     unfold cont at hc
     rw [hz0] at hc
     cases hc
    | both f gg g0 T vv v0 m m0=>
     unfold cont at hc
     rw [hz0] at hc
     cases hc
    | gave f gg g0 T vv v0 m m0=>
     unfold cont at hc
     rw [hz0] at hc
     simp only [slotC] at hc
     split at hc
     ·rename_i b1 t1 l1 g1 hg1 ho1
      split at hc
      ·rename_i hgg
       subst hgg
       exact ownAt_gen (P:=fun q=>¬ U q) (hgU (OGen_gen g m)) ho1 hug
      ·cases hc
     ·cases hc
   ·rw [cont_congr h4] at hc
    refine ⟨l',hc,rfl,hdr_congr h4 h2 (fun g T v o hes=>?_) q⟩
    obtain ⟨b',cells,ty',S',k1,k2,k3,k4⟩:=h.boxAt hes
    exact ⟨b',k1,hSkeep t h3 b' (by rw [k4];simp)⟩
  ·rcases st t with ⟨h1,h2,_⟩ | ⟨h1,h2,i,A,o,h3,h4,h5,h6,h8⟩ | ⟨h1,h2,h3,h4,h5⟩
   ·have:=OwnsG_gen g x
    rw [←h2,hb] at this
    exact absurd (show g'=g from this.1) fun hh=>hg (hh ▸ hug)
   ·rw [hb] at h6
    generalize hx0:e t=x0 at h6
    cases h6 with
    | box gg g0 T vv v0 m m0=>exact ⟨v0,m0,rfl,h2⟩
    | gave f gg g0 T vv v0 m m0=>exact ⟨v0,m0,rfl,h2⟩
   ·exact ⟨v1,o1,by rw [←h4,hb],h2⟩
  ·rcases st t with ⟨h1,h2,_⟩ | ⟨h1,h2,i,A,o,h3,h4,h5,h6,h8⟩ | ⟨h1,h2,h3,h4,h5⟩
   ·have:=OwnsG_gen g x
    rw [←h2,hb] at this
    exact absurd (show g'=g from this.1) fun hh=>hg (hh ▸ hug)
   ·rw [hb] at h6
    generalize hx0:e t=x0 at h6
    cases h6 with
    | took f gg g0 T vv v0 m m0=>exact ⟨v0,m0,rfl,h2⟩
    | both f gg g0 T vv v0 m m0=>exact ⟨v0,m0,rfl,h2⟩
   ·exact ⟨v1,o1,by rw [←h4,hb],h2⟩
  ·rcases st t with ⟨h1,h2,_⟩ | ⟨h1,h2,i,A,o,h3,h4,h5,h6,h8⟩ | ⟨h1,h2,h3,h4,h5⟩
   ·have:=OwnsG_gen g x
    rw [←h2,hb] at this
    exact absurd (show g'=g from this) fun hh=>hg (hh ▸ hug)
   ·rw [hb] at h6
    generalize e t=x0 at h6
    cases h6
   ·exact ⟨l,by rw [←h4,hb],h2⟩
 have memB:∀ {b:Nat},(w.heap.size≤b∨∃ i,b∈ownArg as S i)→B b:=fun {b} hh=>by
  rcases hh with hh | ⟨i,hh⟩
  ·exact h.base b hh
  ·obtain ⟨A,s,_,_,hs⟩:=hOwn hh
   exact (h.own s b hs).1
 have inS3:∀ {t b:Nat},b∈S3 t→((b∈R∨∃ i,b∈So i))∨((∀ (i:Nat) A,as[i]?=some A→A.back ≠ some t)∧b∈S t):=fun {t b} hb=>by
  rcases st t with ⟨_,_,h3,_⟩ | ⟨_,_,i,_,_,_,_,_,_,h8⟩ | ⟨_,_,h3,_,h5⟩
  ·rw [h3] at hb;exact .inl (.inl hb)
  ·rw [h8] at hb;exact .inl (.inr ⟨i,hb⟩)
  ·rw [h5] at hb;exact .inr ⟨h3,hb⟩
 have oldNew:∀ {t b:Nat},(∀ (i:Nat) A,as[i]?=some A→A.back ≠ some t)→b∈S t→(w.heap.size≤b∨∃ i,b∈ownArg as S i)→False:=fun {t b} hn hb hh=>by
  rcases hh with hh | ⟨i,hh⟩
  ·have:=(h.own t b hb).2.1;omega
  ·obtain ⟨A,s,q1,q2,hs⟩:=hOwn hh
   exact h.apart s t b (fun he=>hn i A q1 (he ▸ q2)) hs hb
 refine ⟨F2,S3,?_,?_,?_,?_,?_,?_,?_,?_,?_,?_,?_,?_,?_,?_,h.gl⟩
 ·cases d<;>simp [Act.put,h.size]
 ·intro s u hsu
  rw [hput,if_neg]
  ·exact h.lent s u hsu
  ·intro hds
   exact (hd s hds).2 (s,u) hsu rfl
 ·cases d<;>simp [Act.put,h.defers]
 ·intro t
  rcases st t with ⟨h1,h2,h3,h4⟩ | ⟨h1,h2,i,A,o,h3,h4,h5,h6,h8⟩ | ⟨h1,h2,h3,h4,h5⟩
  ·rw [h2,h3,h4];exact (hx.toS _ _).gen g
  ·obtain ⟨u,hu⟩:∃ u,vals[i]?=some u:=⟨_,List.getElem?_eq_getElem (by rw [hlen];exact (List.getElem?_eq_some_iff.1 h3).1)⟩
   have:=(hO i A t _ u h3 h4 h5 hu).toS e3 (a.put d v)
   have hvl:=hval i A u t h3 hu h4
   rw [←hbe i A t h3 h4] at hvl
   have hbx:∀ g T v o,e t=.box g T v o→∃ b,a.tmps.getD t Go.undef=.pointer (some ⟨b,0,none⟩):=fun g T v o hes=>by
    obtain ⟨b,_,_,_,q,_⟩:=h.boxAt hes
    exact ⟨b,q⟩
   have hbf:∀ f g T v o,e t=.fnb f g T v o→∃ b,a.tmps.getD t Go.undef=.func (.func f) #[] #[.pointer (some ⟨b,0,none⟩)]:=fun f g T v o hes=>by
    obtain ⟨b,_,_,_,q,_⟩:=h.fnbAt hes
    exact ⟨b,q⟩
   rw [h8,h2]
   generalize a.tmps.getD t Go.undef=z at hvl hbx hbf
   generalize So i=Si at this
   generalize A.a=xA at hvl
   generalize hx0:e t=x0 at h6 hvl hbx hbf
   generalize hz0:e3 t=z0 at h6
   cases h6 with
   | box gg g0 T vv v0 m m0=>
    cases this with
    | u h=>cases h
    | box _ _ _ _ b cells ty S' hgc hv=>cases hvl with
     | same=>exact .box gg T vv _ b cells ty S' hgc (hv.gen g)
   | val b1 t1 l1 l0 m gg=>
    cases this with
    | u h=>cases h with
     | val T v o u cs S hv hu=>cases hvl with
      | same=>exact .u (.val (.slice b1 t1) l1 _ _ cs _ (hv.gen g) hu)
   | und b1 t1 l0 gg=>cases this with
    | u h=>cases h with
     | undef=>exact .u (.undef _)
   | took f gg g0 T vv v0 m m0=>
    cases this with
    | u h=>cases h
    | box _ _ _ _ b cells ty S' hgc hv=>
     obtain ⟨b0,hb0⟩:=hbf _ _ _ _ _ rfl
     cases hvl with
     | same _ _ _ hx=>exact absurd rfl (hx _ _ _ _ _)
     | take=>exact .fnb f gg T vv _ b cells ty S' hgc (hv.gen g)
     | both=>cases hb0
   | both f gg g0 T vv v0 m m0=>
    cases this with
    | u h=>cases h
    | fnb _ _ _ _ _ b cells ty S' hgc hv=>
     obtain ⟨b0,hb0⟩:=hbf _ _ _ _ _ rfl
     cases hvl with
     | same _ _ _ hx=>exact absurd rfl (hx _ _ _ _ _)
     | both=>exact .fnb f gg T vv _ b cells ty S' hgc (hv.gen g)
     | take=>simp at hb0
   | gave f gg g0 T vv v0 m m0=>
    cases this with
    | u h=>cases h
    | fnb _ _ _ _ _ b cells ty S' hgc hv=>
     obtain ⟨b0,hb0⟩:=hbx _ _ _ _ rfl
     subst hb0
     cases hvl with
     | give=>exact .box gg T vv _ b cells ty S' hgc (hv.gen g)
  ·rw [h4,h5,h2]
   exact (h.rep t).step hF hFkeep hk (h.refs t) (hSkeep t h3)
 ·intro t
  rcases st t with ⟨h1,h2,h3,h4⟩ | ⟨h1,h2,i,A,o,h3,h4,h5,h6,h8⟩ | ⟨h1,h2,h3,h4,h5⟩
  ·rw [h2];exact (OwnsG_gen g x).imp fun q hq=>.inr hq
  ·have:=h.owns t
   generalize hx0:e t=x0 at h6 this
   generalize hz0:e3 t=z0 at h6
   cases h6 with
   | box gg g0 T vv v0 m m0=>exact ⟨.inl this.1,(OGen_gen g m).imp fun q hq=>.inr hq⟩
   | val b1 t1 l1 l0 m gg=>exact (OGen_gen g m).imp fun q hq=>.inr hq
   | und=>trivial
   | took f gg g0 T vv v0 m m0=>exact ⟨.inl this.1,(OGen_gen g m).imp fun q hq=>.inr hq⟩
   | gave f gg g0 T vv v0 m m0=>exact ⟨.inl this.1,(OGen_gen g m).imp fun q hq=>.inr hq⟩
   | both f gg g0 T vv v0 m m0=>exact ⟨.inl this.1,(OGen_gen g m).imp fun q hq=>.inr hq⟩
  ·rw [h4];exact (h.owns t).imp fun q hq=>.inl hq
 ·intro t
  rcases st t with ⟨h1,h2,h3,h4⟩ | ⟨h1,h2,i,A,o,h3,h4,h5,h6,h8⟩ | ⟨h1,h2,h3,h4,h5⟩
  ·rw [h2]
   exact RefG_gen g (FRep_ref hx)
  ·generalize hx0:e t=x0 at h6
   generalize hz0:e3 t=z0 at h6
   cases h6<;>trivial
  ·rw [h4];exact (h.refs t).imp fun q hq=>.inl hq
 ·intro t
  rcases st t with ⟨_,_,h3,_⟩ | ⟨_,_,i,_,_,_,_,_,_,h8⟩ | ⟨_,_,h3,_,h5⟩
  ·rw [h3];exact hRn
  ·rw [h8];exact hSn i
  ·rw [h5];exact h.nodup t
 ·intro s t b hst hbs hbt
  rcases st s with ⟨p1,_,p3,_⟩ | ⟨p1,_,i,A,_,q1,q2,_,_,p8⟩ | ⟨_,_,p3,_,p5⟩<;>rcases st t with ⟨r1,_,r3,_⟩ | ⟨r1,_,j,A',_,s1,s2,_,_,r8⟩ | ⟨_,_,r3,_,r5⟩
  ·rw [p1] at r1;exact hst (Option.some.inj r1)
  ·rw [p3] at hbs;rw [r8] at hbt;exact hSR j b hbt hbs
  ·rw [p3] at hbs;rw [r5] at hbt;exact oldNew r3 hbt (hown b (.inl hbs)).1
  ·rw [p8] at hbs;rw [r3] at hbt;exact hSR i b hbs hbt
  ·rw [p8] at hbs;rw [r8] at hbt
   refine hSS i j b (fun hij=>?_) hbs hbt
   subst hij
   rw [q1] at s1;cases s1
   rw [q2] at s2;exact hst (Option.some.inj s2)
  ·rw [p8] at hbs;rw [r5] at hbt;exact oldNew r3 hbt (hown b (.inr ⟨i,hbs⟩)).1
  ·rw [p5] at hbs;rw [r3] at hbt;exact oldNew p3 hbs (hown b (.inl hbt)).1
  ·rw [p5] at hbs;rw [r8] at hbt;exact oldNew p3 hbs (hown b (.inr ⟨j,hbt⟩)).1
  ·rw [p5] at hbs;rw [r5] at hbt;exact h.apart s t b hst hbs hbt
 ·intro t b hb
  rcases inS3 hb with hb | ⟨hn,hb⟩
  ·obtain ⟨k1,k2,k3⟩:=hown b hb
   exact ⟨memB k1,k2,k3⟩
  ·obtain ⟨k1,k2,k3⟩:=h.own t b hb
   refine ⟨k1,Nat.lt_of_lt_of_le k2 hB.size,fun hf=>?_⟩
   rcases (hF2 b hf).1 with hf | hf
   ·exact k3 hf
   ·exact oldNew hn hb hf
 ·exact fun b hb=>(hF2 b hb).2
 ·intro b hb
  rcases (hF2 b hb).1 with hf | hf
  ·exact h.old b hf
  ·exact .inr (memB hf)
 ·exact fun b hb=>hF b (h.keeps b hb)
 ·exact h.below.trans (hB.wider fun k _ hk=>memB hk)
 ·exact fun b hb=>h.base b (Nat.le_trans hB.size hb)
end
end
end Go.A2
namespace Go.A2
section
variable {P:Program} {Γ:Cx}
section
variable {K:List Nat} {N:Slots} {F0 B U:Nat→Prop} {w0:World} {F:Nat→Prop} {S:Nat→List Nat} {e:Env Γ.X} {a:Act} {w:World}
theorem FRep.flatO (hX:TabOk Γ.X) {w:World} {F F':Nat→Prop} {x:AV Γ.X} {u:Value} {S:List Nat} (h:FRep w F x u S) (hf:Go.A2.flatO x=true):FRep w F' x u S:=by
 cases h with
 | u h=>cases h with
  | undef=>exact .u (.undef _)
  | val T v o u cs S hv hu=>
   cases T with
   | slice b t=>
    refine .u (.val _ v o _ cs S ?_ hu)
    cases hv with
    | pure=>cases hf
    | full=>cases hf
    | dead=>cases hf
    | ownNil _ _ _ g a hv=>exact .ownNil b t v g a hv
    | own _ _ _ g blk cap cells ty css hg hsz hcap hmx hc h=>exact .own b t v g blk cap cells ty css hg hsz hcap hmx hc fun i x hi=>(h i x hi).flatF hX hf
   | _=>cases hf
  | rptr=>cases hf
 | tup=>cases hf
 | fn=>cases hf
 | box g T v o b cells ty S hg hv=>exact .box g T v o b cells ty S hg (hv.flatF hX hf)
 | fnb f g T v o b cells ty S hg hv=>exact .fnb f g T v o b cells ty S hg (hv.flatF hX hf)
theorem EnvRel.dropL:∀ (l:List Nat) {S:Nat→List Nat} {e:Env Γ.X},EnvRel N F0 B U w0 F S e a w→∃ S1,EnvRel N F0 B U w0 F S1 (dropAll e l) a w∧(∀ t b,b∈S1 t→b∈S t)∧∀ t∈l,S1 t=[]
 | [],S,_,h=>⟨S,h,fun _ _ h=>h,fun _ h=>by cases h⟩
 | s :: l,S,_,h=>by
  obtain ⟨S1,k1,k2,k3⟩:=EnvRel.dropL l (h.drop s)
  refine ⟨S1,k1,fun t b hb=>?_,fun t ht=>?_⟩
  ·have:=k2 t b hb
   by_cases hts:t=s
   ·subst hts;rw [updS_same] at this;cases this
   ·rwa [updS_ne S _ hts] at this
  ·rcases List.mem_cons.1 ht with rfl | ht
   ·refine List.eq_nil_iff_forall_not_mem.2 fun b hb=>?_
    have:=k2 t b hb
    rw [updS_same] at this;cases this
   ·exact k3 t ht
theorem dropAll_ne:∀ (l:List Nat) (e:Env Γ.X) {t:Nat},t ∉ l→dropAll e l t=e t
 | [],_,_,_=>rfl
 | s :: l,e,t,h=>by
  show dropAll (upd e s .undef) l t=e t
  rw [dropAll_ne l _ fun hh=>h (by simp [hh]),upd_ne e _ fun hh=>h (by simp [hh])]
theorem dropAll_ups:∀ (l:List Nat) (e:Env Γ.X),applyU e (l.map fun s=>(s,.undef))=dropAll e l
 | [],_=>rfl
 | s :: l,e=>dropAll_ups l (upd e s .undef)
def ArgOk (e:Env Γ.X) (a:Act) (u:Value) (v:AV Γ.X) (A:Arg Γ.X):Prop:=Go.A2.argV e v=some A∨Go.A2.capArg e v=some A∨(∃ s g,v=.ref s [] g∧Go.A2.lendR e s g=some A)∨(∃ T x,v=.val T x .full∧A=⟨.val T x .full,none,[],[]⟩)∨∃ s g f T x o,e s=.fnb f g T x o∧A=⟨.box 0 T x (o.gen 0),some s,[],[]⟩∧a.tmps.getD s Go.undef=.func (.func f) #[] #[u]
theorem argF_ok {e:Env Γ.X} {f:Nat} {x:AX Γ.X} {A:Arg Γ.X} {a:Act} {u:Value} (h:Go.A2.argF e f x=some A):ArgOk e a u (Go.A2.rd e x) A:=by
 unfold Go.A2.argF at h
 split at h
 ·unfold Go.A2.lendV at h
  split at h
  ·rename_i s g hr
   exact .inr (.inr (.inl ⟨s,g,hr,h⟩))
  ·rename_i T x hr
   exact .inr (.inr (.inr (.inl ⟨T,x,hr,(Option.some.inj h).symm⟩)))
  ·exact .inl h
 ·exact .inl h
theorem capArg_box {e:Env Γ.X} {v:AV Γ.X} {A:Arg Γ.X} (h:Go.A2.capArg e v=some A):∀ s∈A.caps,∃ g T x o,e s=.box g T x o∧o.pure=true:=by
 cases v with
 | ptr b q=>
  cases b with
  | box s g=>
   simp only [Go.A2.capArg] at h
   split at h
   ·rename_i g' T v o hes
    split at h
    ·rename_i hc
     split at h
     ·cases h
      intro s' hs'
      simp at hs';subst hs'
      exact ⟨_,_,_,_,hes,hc.2⟩
     ·cases h
    ·cases h
   ·cases h
  | elem s p g i=>simp [Go.A2.capArg] at h
 | val T v o=>
  simp only [Go.A2.capArg] at h
  split at h
  ·cases h;simp
  ·cases h
 | rptr T v=>simp only [Go.A2.capArg,Option.some.injEq] at h;subst h;simp
 | undef=>simp only [Go.A2.capArg,Option.some.injEq] at h;subst h;simp
 | _=>simp [Go.A2.capArg] at h
theorem ArgOk.box {e:Env Γ.X} {a:Act} {u:Value} {v:AV Γ.X} {A:Arg Γ.X} (h:ArgOk e a u v A):∀ s∈A.caps,∃ g T x o,e s=.box g T x o∧o.pure=true:=by
 rcases h with h | h | ⟨s,g,rfl,h⟩ | ⟨T,x,rfl,rfl⟩ | ⟨s,g,f,T,x,o,_,rfl,_⟩
 ·cases v with
  | rfn f as bs=>simp only [Go.A2.argV,Option.some.injEq] at h;subst h;simp
  | val T v o=>
   simp only [Go.A2.argV] at h
   split at h
   ·cases h;simp
   ·cases h
  | rptr T v=>simp only [Go.A2.argV,Option.some.injEq] at h;subst h;simp
  | ref s q g=>
   simp only [Go.A2.argV] at h
   split at h
   ·cases h;simp
   ·cases h
  | ptr b q=>
   cases b with
   | elem s p g i=>simp [Go.A2.argV] at h
   | box s g=>
    cases q with
    | cons=>simp [Go.A2.argV] at h
    | nil=>
     simp only [Go.A2.argV] at h
     split at h
     ·split at h
      ·cases h;simp
      ·cases h
     ·cases h
  | aview bs q b n t off hi=>
   cases bs with
   | elem=>simp [Go.A2.argV] at h
   | box s g=>
    simp only [Go.A2.argV] at h
    split at h
    ·rename_i hes _
     split at h
     ·rename_i hpo
      cases h
      intro s' hs'
      simp at hs';subst hs'
      exact ⟨_,_,_,_,hes,hpo⟩
     ·cases h
    ·cases h
  | fref s g=>
   simp only [Go.A2.argV] at h
   split at h
   ·split at h
    ·cases h;simp
    ·cases h
   ·cases h
  | fn f first caps=>
   simp only [Go.A2.argV] at h
   split at h
   ·unfold Go.A2.lendB at h
    split at h
    ·split at h
     ·split at h
      ·cases h;simp
      ·cases h
     ·cases h
    ·cases h
   split at h
   ·rename_i fs cs h1' h2'
    cases h
    intro s hs
    obtain ⟨C,hC,hsC⟩:=List.mem_flatMap.1 hs
    rcases List.mem_append.1 hC with hC | hC
    ·obtain ⟨i,hi,rfl⟩:=List.mem_iff_getElem.1 hC
     obtain ⟨y,_,hcy⟩:=allO_get' h1' (List.getElem?_eq_getElem hi)
     exact capArg_box hcy s hsC
    ·obtain ⟨i,hi,rfl⟩:=List.mem_iff_getElem.1 hC
     obtain ⟨y,_,hcy⟩:=allO_get' h2' (List.getElem?_eq_getElem hi)
     exact capArg_box hcy s hsC
   ·cases h
  | _=>simp [Go.A2.argV] at h
 ·exact capArg_box h
 ·unfold Go.A2.lendR at h
  split at h
  ·split at h
   ·cases h;simp
   ·cases h
  ·cases h
 ·simp
 ·simp
theorem EnvRel.argAny (hX:TabOk Γ.X) (h:EnvRel N F0 B U w0 F S e a w) {v:AV Γ.X} {A:Arg Γ.X} {u:Value} (hA:ArgOk e a u v A) {R:List Nat} (hr:SRep e a w F v u R) {F1 G:Nat→Prop} {S1:Nat→List Nat} {e1:Env Γ.X} (h1:EnvRel N F0 B U w0 F1 S1 e1 a w)
  (hFG:∀ b,F b→G b) (hF1G:∀ b,F1 b→G b) (hcap:∀ s∈A.caps,∀ b∈S s,G b) (hback:∀ s,A.back=some s→e1 s=e s) (hroot:∀ r∈A.roots,∀ b t l u,Place e a w r.1 r.2 b t l u→PRep w G (.slice b t) l [u]):
  (isRfn A.a=false→FRep w G A.a u (match A.back with | some s=>S1 s | none=>[]))∧(isRfn A.a=true→A.back=none∧SRep e a w F A.a u [])∧(∀ s,A.back=some s→BkVal (e s) A.a u (a.tmps.getD s Go.undef))∧(∀ r∈A.roots,∃ b t l u,Place e a w r.1 r.2 b t l u):=by
 rcases hA with hA | hA | ⟨s,g,rfl,hA⟩ | ⟨T,x,rfl,rfl⟩ | ⟨s,g,f,T,x,o,hes,rfl,htm⟩
 ·exact h.argV hX hA hr h1 hFG hF1G hcap hback hroot
 rotate_left
 ·exact h.lendArg hA hr h1 hF1G hback
 ·obtain ⟨cs,k1,k2⟩:=hr.valInv
  have hR:=(k1.toPure rfl).2
  subst hR
  exact ⟨fun _=>.u (.val T x .full u cs [] (k1.mono hFG (fun _ _=>rfl) fun _ _=>rfl) k2),(fun hh=>by cases hh),by simp,by simp⟩
 ·have hes1:=(hback s rfl).trans hes
  obtain ⟨b,cells,ty,S',k1,k2,k3,k4⟩:=h1.fnbAt hes1
  rw [htm] at k1
  obtain rfl:u=.pointer (some ⟨b,0,none⟩):=by simpa using k1
  refine ⟨fun _=>?_,(fun hh=>by cases hh),fun s' hs'=>by cases hs';rw [htm,hes];exact .take ..,by simp⟩
  show FRep w G _ _ (S1 s)
  rw [k4]
  exact .box 0 T x _ b cells ty S' k2 ((k3.gen 0).mono hF1G (fun _ _=>rfl) fun _ _=>rfl)
 ·obtain ⟨k1,k2,k3⟩:=h.capArg hX hA hr hFG hcap
  rw [k2,k3]
  refine ⟨fun _=>k1,fun hh=>?_,by simp,by simp⟩
  generalize A.a=x at k1 hh
  generalize ([]:List Nat)=R' at k1
  cases k1 with
  | u h=>cases h<;>cases hh
  | tup=>cases hh
  | fn=>cases hh
  | box=>cases hh
  | fnb=>cases hh
theorem capA_any {e:Env Γ.X} {f:Nat} {v:AV Γ.X} {A:Arg Γ.X} {a:Act} {u:Value} (h:capA e f v=some A):ArgOk e a u v A:=by
 unfold capA at h
 split at h
 ·unfold capL at h
  split at h
  ·exact .inl h
  ·exact .inl h
  ·exact .inr (.inl h)
 ·exact .inr (.inl h)
theorem findB_some:∀ {l:List (Option Nat)} {s i k:Nat},findB l s i=some k→i≤k∧l[k - i]?=some (some s)
 | [],_,_,_,h=>by cases h
 | some t :: l,s,i,k,h=>by
  simp only [findB] at h
  split at h
  ·rename_i ht
   cases h;subst ht
   exact ⟨Nat.le_refl _,by simp⟩
  ·obtain ⟨h1,h2⟩:=findB_some h
   refine ⟨by omega,?_⟩
   have:k - i=(k - (i+1))+1:=by omega
   rw [this];simpa using h2
 | none :: l,s,i,k,h=>by
  simp only [findB] at h
  obtain ⟨h1,h2⟩:=findB_some h
  refine ⟨by omega,?_⟩
  have:k - i=(k - (i+1))+1:=by omega
  rw [this];simpa using h2
theorem fixP_rep {e:Env Γ.X} {as:List (Arg Γ.X)} {vals:List Value} (hlen:vals.length=as.length) (hval:∀ (i:Nat) A u s,as[i]?=some A→vals[i]?=some u→A.back=some s→BkVal (e s) A.a u (a.tmps.getD s Go.undef))
  {x:AV Γ.X} {u:Value} (hr:SRep e a w F x u []):CapRep vals (fixP e (as.map (·.bk)) x) u:=by
 unfold fixP
 split
 ·rename_i s g
  split
  ·rename_i g' T v o hes
   split
   ·rename_i hg
    subst hg
    split
    ·rename_i i hi
     obtain ⟨_,h2⟩:=findB_some hi
     rw [Nat.sub_zero,List.getElem?_map] at h2
     cases hai:as[i]? with
     | none=>rw [hai] at h2;simp at h2
     | some A=>
      rw [hai] at h2
      simp at h2
      obtain ⟨v',hv'⟩:∃ v',vals[i]?=some v':=⟨_,List.getElem?_eq_getElem (by rw [hlen];exact (List.getElem?_eq_some_iff.1 hai).1)⟩
      cases hr with
      | u h=>cases h
      | ptrB _ _ _ _ hh=>
       obtain ⟨b,q1,q2,_⟩:=hh T v o hes
       refine .inr ⟨i,b,rfl,?_,by rw [q2];simp [offQ]⟩
       have hbb:A.back=some s∧∀ f g T v o,A.a ≠ .fnb f g T v o:=by
        unfold Arg.bk at h2
        split at h2
        ·cases h2
        ·rename_i hn;exact ⟨h2,fun f g T v o he=>hn f g T v o he⟩
       have hbv:=hval i A v' s hai hv' hbb.1
       rw [hes] at hbv
       generalize hAa:A.a=y at hbv
       cases hbv with
       | same=>rw [hv',q1,q2];simp [offQ]
       | give=>exact absurd hAa (hbb.2 _ _ _ _ _)
    ·exact .inl rfl
   ·exact .inl rfl
  ·exact .inl rfl
 ·exact .inl rfl
theorem fixV_rep {e:Env Γ.X} {as:List (Arg Γ.X)} {vals:List Value} (hlen:vals.length=as.length) (hval:∀ (i:Nat) A u s,as[i]?=some A→vals[i]?=some u→A.back=some s→BkVal (e s) A.a u (a.tmps.getD s Go.undef))
  {x:AV Γ.X} {u:Value} (hr:SRep e a w F x u []) (hx:isRfn x=true) {G:Nat→Prop} (hFG:∀ b,F b→G b):ARep w G vals (fixV e (as.map (·.bk)) x) u []:=by
 cases x with
 | rfn f as' bs'=>
  cases hr with
  | u h=>cases h
  | rfn _ _ _ us vs blk hb hc hl hl' k k'=>
   refine .rfn f _ _ us vs blk (hFG blk hb) hc (by simp [hl]) (by simp [hl']) (fun i x u hx hu=>?_) fun i x u hx hu=>?_
   ·rw [List.getElem?_map] at hx
    cases hi:as'[i]? with
    | none=>simp [hi] at hx
    | some y=>simp [hi] at hx;subst hx;exact fixP_rep hlen hval (k i y u hi hu)
   ·rw [List.getElem?_map] at hx
    cases hi:bs'[i]? with
    | none=>simp [hi] at hx
    | some y=>simp [hi] at hx;subst hx;exact fixP_rep hlen hval (k' i y u hi hu)
 | _=>cases hx
theorem fixV_same {e:Env Γ.X} {bk:List (Option Nat)} {x:AV Γ.X} (hx:isRfn x=false):fixV e bk x=x:=by
 cases x<;>first | rfl | cases hx
theorem EnvRel.enter (hX:TabOk Γ.X) (h:EnvRel N F0 B U w0 F S e a w) {g:Nat} (hg:¬ U g) {d:Option Nat} (hd:∀ k,d=some k→N.ok k) {as0 as:List (Arg Γ.X)} (has:as=fixAll e as0) {vals:List Value} (hlen:vals.length=as0.length)
  (hin:∀ (i:Nat) A u,as0[i]?=some A→vals[i]?=some u→∃ y R,ArgOk e a u y A∧SRep e a w F y u R) {r:Ret Γ.X} {Cl:Array Value→World→(Ending→World→Prop)→Prop} (hmono:∀ {vs:Array Value} {w:World} {R R':Ending→World→Prop},Cl vs w R→(∀ e w',R e w'→R' e w')→Cl vs w R') (hsp:SpecC Cl (as.map (·.a)) r) {us:Ups Γ.X} {cp:Bool} (haf:afterCall cp e g as d r=some us)
  {next:Act→World→Prop} {Q:Exit→Act→World→Prop} (hnext:∀ a' w',Sim N F0 B (withG U g) w0 (applyU e us) a' w'→next a' w'):
  Cl vals.toArray w fun
   | .returned v,w''=>next (a.put d v) w''
   | .panicked chain,w''=>Q (.panic chain) a w''
   | .outgrown,_=>LetsOut Q:=by
 have hlen0:=hlen
 replace hlen:vals.length=as.length:=by rw [hlen,has];simp [fixAll]
 have hfx:∀ (i:Nat) A,as[i]?=some A→∃ A0,as0[i]?=some A0∧A=fixA e (as0.map (·.bk)) A0:=fun i A hA=>by
  rw [has,fixAll,List.getElem?_map] at hA
  cases hi:as0[i]? with
  | none=>simp [hi] at hA
  | some A0=>simp [hi] at hA;exact ⟨A0,rfl,hA.symm⟩
 unfold afterCall at haf
 simp only [] at haf
 split at haf
 ·rename_i hcond
  simp only [Bool.and_eq_true] at hcond
  obtain ⟨⟨⟨c1,c2⟩,c3⟩,_⟩:=hcond
  have nd:=nodupB_iff c1
  have ne:∀ {x y:Nat},(!(x==y))=true→x ≠ y:=fun {x y} hh he=>by subst he;simp at hh
  have hroots:∀ (i:Nat) A r (j:Nat) A' s,as[i]?=some A→r∈A.roots→as[j]?=some A'→A'.back=some s→r.1 ≠ s:=fun i A r j A' s h1 h2 h3 h4=>
   ne (List.all_eq_true.1 (List.all_eq_true.1 c2 r (List.mem_flatMap.2 ⟨A,List.mem_of_getElem? h1,h2⟩)) s (List.mem_filterMap.2 ⟨A',List.mem_of_getElem? h3,h4⟩))
  have hcaps:∀ (i:Nat) A q (j:Nat) A' s,as[i]?=some A→q∈A.caps→as[j]?=some A'→A'.back=some s→q ≠ s:=fun i A r j A' s h1 h2 h3 h4=>
   ne (List.all_eq_true.1 (List.all_eq_true.1 c3 r (List.mem_flatMap.2 ⟨A,List.mem_of_getElem? h1,h2⟩)) s (List.mem_filterMap.2 ⟨A',List.mem_of_getElem? h3,h4⟩))
  let G:Nat→Prop:=fun b=>F b∨∃ s,(∀ (i:Nat) A,as[i]?=some A→A.back ≠ some s)∧b∈S s
  have hplG:∀ {s:Nat} {q:List PS} {b:Nat} {t:Γ.X.Ty} {l:Sl b (Γ.X.den t)} {u:Value},(∀ (i:Nat) A,as[i]?=some A→A.back ≠ some s)→Place e a w s q b t l u→PRep w G (.slice b t) l [u]:=fun {s q b t l u} hn hp=>by
   obtain ⟨T,v,o,p1,p2,p3,p4,p5⟩:=hp
   obtain ⟨cx,Sx,k1,k2,k3⟩:=h.place hX p1 (tyQ_of_getQ p2 p3) p3
   have hl:=k1.length hX
   simp only [Tab.sz] at hl
   cases cx with
   | nil=>simp at hl
   | cons c cx=>cases cx with
    | cons=>simp at hl
    | nil=>
     have:=k3 c rfl
     rw [p4] at this;cases this
     exact k1.freeze (fun b hb=>.inl hb) (fun b hb=>.inr ⟨s,hn,k2 b hb⟩) p5
  have hval0:∀ (i:Nat) A u s,as0[i]?=some A→vals[i]?=some u→A.back=some s→BkVal (e s) A.a u (a.tmps.getD s Go.undef):=fun i A u s h1 h2 hs=>by
   obtain ⟨y,R,hy,hr⟩:=hin i A u h1 h2
   exact (h.argAny hX hy hr h (G:=fun _=>True) (fun b hb=>trivial) (fun b hb=>trivial) (fun s hs b hb=>trivial) (fun _ _=>rfl)
    (fun r hr b t l u hp=>by
     obtain ⟨T,v,o,p1,p2,p3,p4,p5⟩:=hp
     obtain ⟨cx,Sx,k1,k2,k3⟩:=h.place hX p1 (tyQ_of_getQ p2 p3) p3
     have hl:=k1.length hX
     simp only [Tab.sz] at hl
     cases cx with
     | nil=>simp at hl
     | cons c cx=>cases cx with
      | cons=>simp at hl
      | nil=>
       have:=k3 c rfl
       rw [p4] at this;cases this
       exact k1.freeze (fun b hb=>trivial) (fun b hb=>trivial) p5)).2.2.1 s hs
  have hbkv:∀ {A0:Arg Γ.X} {s:Nat} {u:Value},BkVal (e s) A0.a u (a.tmps.getD s Go.undef)→isRfn A0.a=true→BkVal (e s) (fixV e (as0.map (·.bk)) A0.a) u (a.tmps.getD s Go.undef):=fun {A0 s u} hb hx=>by
   generalize A0.a=y at hb hx
   generalize e s=y' at hb
   generalize a.tmps.getD s Go.undef=z at hb
   cases hb with
   | same _ _ _ h1 _=>
    refine .same _ _ _ h1 fun f g T v o=>?_
    cases y with
    | rfn=>simp [fixV]
    | _=>cases hx
   | _=>cases hx
  have hflat:∀ (i:Nat) A u,as[i]?=some A→vals[i]?=some u→ARep w G vals A.a u (ownArg as S i)∧(∀ s,A.back=some s→BkVal (e s) A.a u (a.tmps.getD s Go.undef))∧(∀ r∈A.roots,∃ b t l u,Place e a w r.1 r.2 b t l u):=fun i A u h1 h2=>by
   obtain ⟨A0,h10,rfl⟩:=hfx i A h1
   obtain ⟨y,R,hy,hr⟩:=hin i A0 u h10 h2
   obtain ⟨z1,z2,z3,z6⟩:=h.argAny hX hy hr h (G:=G) (fun b hb=>.inl hb) (fun b hb=>.inl hb) (fun s hs b hb=>.inr ⟨s,fun j A' h3 h4=>hcaps i _ s j A' s h1 hs h3 h4 rfl,hb⟩) (fun _ _=>rfl)
    (fun r hr b t l u hp=>hplG (fun j A' h3 h4=>hroots i _ r j A' _ h1 hr h3 h4 rfl) hp)
   replace z3:∀ s,(fixA e (as0.map (·.bk)) A0).back=some s→BkVal (e s) (fixA e (as0.map (·.bk)) A0).a u (a.tmps.getD s Go.undef):=fun s hs=>by
    show BkVal (e s) (fixV e _ A0.a) u _
    cases hx:isRfn A0.a with
    | false=>rw [fixV_same hx];exact z3 s hs
    | true=>exact hbkv (z3 s hs) hx
   refine ⟨?_,z3,z6⟩
   unfold ownArg
   rw [h1]
   show ARep w G vals (fixV e _ A0.a) u (match A0.back with | some s=>S s | none=>[])
   cases hx:isRfn A0.a with
   | false=>rw [fixV_same hx];exact .f (z1 hx)
   | true=>
    obtain ⟨z4,z5⟩:=z2 hx
    rw [z4]
    exact fixV_rep hlen0 hval0 z5 hx fun b hb=>.inl hb
  have hval:∀ (i:Nat) A u s,as[i]?=some A→vals[i]?=some u→A.back=some s→BkVal (e s) A.a u (a.tmps.getD s Go.undef):=fun i A u s h1 h2 h3=>(hflat i A u h1 h2).2.1 s h3
  have hOwn:∀ {S:Nat→List Nat} {i:Nat} {b:Nat},b∈ownArg as S i→∃ A s,as[i]?=some A∧A.back=some s∧b∈S s:=fun {S i b} hb=>by
   unfold ownArg at hb
   cases hai:as[i]? with
   | none=>rw [hai] at hb;simp at hb
   | some A=>
    rw [hai] at hb
    cases hbk:A.back with
    | none=>simp [hbk] at hb
    | some s=>simp [hbk] at hb;exact ⟨A,s,rfl,hbk,hb⟩
  have hOwnN:∀ {S:Nat→List Nat},(∀ s,(S s).Nodup)→∀ i,(ownArg as S i).Nodup:=fun {S} hS i=>by
   unfold ownArg
   split
   ·exact hS _
   ·exact List.nodup_nil
  have hargs:∀ (i:Nat) x v,(as.map (·.a))[i]?=some x→vals[i]?=some v→∃ A,as[i]?=some A∧x=A.a:=fun i x v h1 _=>by
   rw [List.getElem?_map] at h1
   cases hai:as[i]? with
   | none=>simp [hai] at h1
   | some A=>simp [hai] at h1;exact ⟨A,rfl,h1.symm⟩
  split at haf
  ·rename_i u1 u2 hu1 hu2
   simp only [Option.some.injEq] at haf;subst haf
   split at hu1
   ·
    rename_i hfl
    simp only [Option.some.injEq] at hu1;subst hu1
    rw [Bool.and_eq_true] at hfl
    obtain ⟨fl1,fl2⟩:=hfl
    refine hmono (hsp w G vals (ownArg as S) (fun b hb=>hb.elim (h.free b) fun ⟨s,_,hs⟩=>(h.own s b hs).2.1) (h.globNow fun b hb=>.inl hb) (by simp [hlen]) (fun i x v hx hv=>?_) (hOwnN h.nodup) (fun i j b hij hbi hbj=>?_) (fun i b hb=>?_)) fun en w' hpost=>?_
    ·obtain ⟨A,hA,rfl⟩:=hargs i x v hx hv
     exact (hflat i A v hA hv).1
    ·obtain ⟨A,s,q1,q2,q3⟩:=hOwn hbi
     obtain ⟨A',s',r1,r2,r3⟩:=hOwn hbj
     by_cases hss:s=s'
     ·subst hss;exact hij (back_inj nd q1 r1 q2 r2)
     ·exact h.apart s s' b hss q3 r3
    ·obtain ⟨A,s,q1,q2,q3⟩:=hOwn hb
     refine ⟨(h.own s b q3).2.1,fun hG=>?_⟩
     rcases hG with hG | ⟨s',hn,hs'⟩
     ·exact (h.own s b q3).2.2 hG
     ·exact h.apart s s' b (fun he=>hn i A q1 (he ▸ q2)) q3 hs'
    ·obtain ⟨v,F',R,So,rfl,hB,hx,hO,hRn,hSn,hSS,hSR,hown,hFF,hF'⟩:=hpost
     refine hnext _ _ ?_
     rw [List.nil_append]
     refine h.land hg hd nd hu2 (fun _ _ _ _ _=>rfl) hlen hval (F2:=F) hB (hx.flatF hX fl1) (fun i A s x v h1 h2 h3 h4=>(hO i x v h3 h4).flatO hX (List.all_eq_true.1 fl2 x (List.mem_of_getElem? h3))) hRn hSn hSS hSR (fun b hb=>?_) (fun _ hb=>hb) fun b hb=>⟨.inl hb,Nat.lt_of_lt_of_le (h.free b hb) hB.size⟩
     obtain ⟨q1,q2,q3⟩:=hown b hb
     exact ⟨q1,q2,fun hf=>q3 (hFF b (.inl hf))⟩
   ·split at hu1
    ·rename_i hce
     obtain ⟨u0,hu0,rfl⟩:=Option.map_eq_some_iff.1 hu1
     have hcr:∀ c∈as.flatMap (·.caps),∀ r∈as.flatMap (·.roots),r.1 ≠ c:=fun c hc r hr=>by
      simp only [Bool.or_eq_true,Bool.and_eq_true] at hce
      rcases hce with hce | ⟨_,hce⟩
      ·rw [List.isEmpty_iff] at hce;rw [hce] at hc;cases hc
      ·exact ne (List.all_eq_true.1 (List.all_eq_true.1 hce c hc) r hr)
     obtain ⟨Fz,Sz,z1,z2,z3,z4⟩:=h.freezeAll hX hu0 fun r hr=>by
      obtain ⟨A,hA,hrA⟩:=List.mem_flatMap.1 hr
      obtain ⟨i,hi,rfl⟩:=List.mem_iff_getElem.1 hA
      exact (hflat i _ (vals[i]'(by omega)) (List.getElem?_eq_getElem hi) (List.getElem?_eq_getElem (by omega))).2.2 r hrA
     obtain ⟨S1,y1,y2,y3⟩:=z1.dropL (as.flatMap (·.caps))
     obtain ⟨F1,hF1⟩:∃ F1:Nat→Prop,F1=fun b=>Fz b∨∃ s∈as.flatMap (·.caps),b∈Sz s:=⟨_,rfl⟩
     have k1:EnvRel N F0 B U w0 F1 S1 (applyU e (u0++(as.flatMap (·.caps)).map fun s=>(s,.undef))) a w:=by
      rw [applyU_append,dropAll_ups,hF1]
      exact y1.world (fun _ h=>.inl h) (fun _ _=>rfl) (fun _ _ _=>rfl) (.refl _ _) fun b hb=>hb.imp_right fun ⟨s,hs,hbs⟩=>⟨(z1.own s b hbs).1,(z1.own s b hbs).2.1,fun t' ht'=>by
       by_cases hst:s=t'
       ·subst hst;rw [y3 s hs] at ht';cases ht'
       ·exact z1.apart s t' b hst hbs (y2 t' b ht')⟩
     have k2:Less F S F1 S1:=z2.trans (by rw [hF1];exact ⟨fun _ h=>.inl h,fun b hb=>hb.imp_right fun ⟨s,_,hbs⟩=>⟨s,hbs⟩,y2⟩)
     have k3:∀ t,(∀ r∈as.flatMap (·.roots),r.1 ≠ t)→t ∉ as.flatMap (·.caps)→applyU e (u0++(as.flatMap (·.caps)).map fun s=>(s,.undef)) t=e t:=fun t h1 h2=>by
      rw [applyU_append,dropAll_ups,dropAll_ne _ _ h2,z3 t h1]
     have k4:∀ r∈as.flatMap (·.roots),∀ b t l u,Place e a w r.1 r.2 b t l u→PRep w F1 (.slice b t) l [u]:=fun r hr b t l u hp=>(z4 r hr b t l u hp).mono (by rw [hF1];exact fun _ h=>.inl h) fun _ _=>rfl
     have hcapF:∀ (i:Nat) A,as[i]?=some A→∀ s∈A.caps,∀ b∈S s,F1 b:=fun i A hA s hs b hb=>by
      obtain ⟨A0,h10,rfl⟩:=hfx i A hA
      obtain ⟨y,R,hy,_⟩:=hin i A0 (vals[i]'(by rw [hlen0];exact (List.getElem?_eq_some_iff.1 h10).1)) h10 (List.getElem?_eq_getElem _)
      obtain ⟨g',T,x,o,hes,hpo⟩:=hy.box s hs
      have hsc:s∈as.flatMap (·.caps):=List.mem_flatMap.2 ⟨_,List.mem_of_getElem? hA,hs⟩
      obtain ⟨b',cells,ty,S',q1,q2,q3,q4⟩:=h.boxAt hes
      have hS':=(q3.toPure hpo).2
      rw [q4,hS'] at hb
      simp at hb;subst hb
      obtain ⟨b2,_,_,S2,p1,_,_,p4⟩:=z1.boxAt ((z3 s fun r hr=>hcr s hsc r hr).trans hes)
      rw [q1] at p1;cases p1
      rw [hF1]
      exact .inr ⟨s,hsc,by rw [p4];simp⟩
     have hbe:∀ (i:Nat) A s,as[i]?=some A→A.back=some s→applyU e (u0++(as.flatMap (·.caps)).map fun s=>(s,.undef)) s=e s:=fun i A s h1 h2=>k3 s (fun r hr=>by
      obtain ⟨A',hA',hrA⟩:=List.mem_flatMap.1 hr
      obtain ⟨j,hj,rfl⟩:=List.mem_iff_getElem.1 hA'
      exact hroots j _ r i A s (List.getElem?_eq_getElem hj) hrA h1 h2) fun hc=>by
      obtain ⟨A',hA',hcA⟩:=List.mem_flatMap.1 hc
      obtain ⟨j,hj,rfl⟩:=List.mem_iff_getElem.1 hA'
      exact hcaps j _ s i A s (List.getElem?_eq_getElem hj) hcA h1 h2 rfl
     have hfr:∀ (i:Nat) A u,as[i]?=some A→vals[i]?=some u→ARep w F1 vals A.a u (ownArg as S1 i):=fun i A u h1 h2=>by
      obtain ⟨A0,h10,rfl⟩:=hfx i A h1
      obtain ⟨y,R,hy,hr⟩:=hin i A0 u h10 h2
      obtain ⟨z1,z2,_⟩:=(h.argAny hX hy hr k1 (G:=F1) k2.keeps (fun b hb=>hb) (hcapF i (fixA e (as0.map (·.bk)) A0) h1) (fun s hs=>hbe i _ s h1 hs)
       (fun r hr b t l u hp=>k4 r (List.mem_flatMap.2 ⟨_,List.mem_of_getElem? h1,hr⟩) b t l u hp))
      unfold ownArg
      rw [h1]
      show ARep w F1 vals (fixV e _ A0.a) u (match A0.back with | some s=>S1 s | none=>[])
      cases hx:isRfn A0.a with
      | false=>rw [fixV_same hx];exact .f (z1 hx)
      | true=>
       obtain ⟨z4,z5⟩:=z2 hx
       rw [z4]
       exact fixV_rep hlen0 hval0 z5 hx k2.keeps
     refine hmono (hsp w F1 vals (ownArg as S1) k1.free (k1.globNow fun _ h=>h) (by simp [hlen]) (fun i x v hx hv=>?_) (hOwnN k1.nodup) (fun i j b hij hbi hbj=>?_) (fun i b hb=>?_)) fun en w' hpost=>?_
     ·obtain ⟨A,hA,rfl⟩:=hargs i x v hx hv
      exact hfr i A v hA hv
     ·obtain ⟨A,s,q1,q2,q3⟩:=hOwn hbi
      obtain ⟨A',s',r1,r2,r3⟩:=hOwn hbj
      by_cases hss:s=s'
      ·subst hss;exact hij (back_inj nd q1 r1 q2 r2)
      ·exact k1.apart s s' b hss q3 r3
     ·obtain ⟨A,s,q1,q2,q3⟩:=hOwn hb
      exact ⟨(k1.own s b q3).2.1,(k1.own s b q3).2.2⟩
     ·obtain ⟨v,F',R,So,rfl,hB,hx,hO,hRn,hSn,hSS,hSR,hown,hFF,hF'⟩:=hpost
      refine hnext _ _ ?_
      rw [applyU_append]
      exact k1.land hg hd nd hu2 hbe hlen hval (F2:=F') hB hx (fun i A s x v h1 h2 h3 h4=>hO i x v h3 h4) hRn hSn hSS hSR hown hFF hF'
    ·cases hu1
  ·cases haf
 ·cases haf
theorem callFunc_run {f:Nat} {fn:Func} {args:Array Value} (hf:P.funcs[f]?=some fn) (hb:fn.body.isSome=true) (hn:(fn.name == "runtime.NumGoroutine")=false):(callFunc f args).run P w=.ok (.enter f args) w:=by
 have hb':fn.body.isNone=false:=by cases hbb:fn.body<;>simp [hbb] at hb ⊢
 unfold callFunc
 simp only [Sem.run_bind,run_program,Result.andThen_ok,hf,hn,hb',Bool.false_eq_true,if_false]
 rfl
section steps
variable {T0 T1 T2:Option Γ.X.Ty} {g:Nat} {o:Oper} {us:Ups Γ.X} {ans:Ret Γ.X} (hX:TabOk Γ.X) (h:EnvRel N F0 B U w0 F S e a w) (hg:¬ U g) (hd:∀ k,o.dst=some k→N.ok k)
variable {next:Act→World→Prop} {Q:Exit→Act→World→Prop} (hnext:∀ a' w',Sim N F0 B (withG U g) w0 (applyU e us) a' w'→next a' w')
include hX h hg hd hnext
theorem step_call {c:Call} {f:Nat} {ts:List TypeId} {xs:List (AX Γ.X)} {as:List (Arg Γ.X)} (ho:o.op=.call c) (hc:c.callee=.value (.func f)) (hx:argsC Γ K ts c.args.toList=some xs) (has:callArgs e (.call f xs)=some (f,as))
  (hsp:Spec P f (as.map (·.a)) ans) (hs:eff ans g e o.dst (.call f xs)=some us):o.wp P a w next Q:=by
 simp only [eff,has] at hs
 obtain ⟨fn,hfn,hb,hn⟩:=hsp.1
 have hrun:(execOp a.eval o).run P w=.ok (.enter f (c.args.map a.eval)) w:=by
  simp only [execOp,ho,resolve,hc,Act.eval,Deferred.ofValue]
  simp [invoke,callFunc_run hfn hb hn]
 unfold Oper.wp
 rw [hrun]
 obtain ⟨l1,l2⟩:=argsC_spec hx
 obtain ⟨as0,has',has⟩:∃ as0,allO (argF e f) xs=some as0∧as=fixAll e as0:=by
  simp only [callArgs] at has
  split at has
  ·rename_i as' h1
   simp only [Option.some.injEq,Prod.mk.injEq,true_and] at has
   exact ⟨as',h1,has.symm⟩
  ·cases has
 obtain ⟨n1,_⟩:=allO_spec has'
 have hargs:c.args.map a.eval=(c.args.toList.map a.eval).toArray:=by rw [←Array.toList_inj];simp
 rw [hargs]
 refine h.enter hX hg hd has (vals:=c.args.toList.map a.eval) (by simp [n1,l1]) (fun i A u hA hu=>?_) (fun h hr=>h.mono hr) hsp.2.1 hs hnext
 obtain ⟨x,hxi,hax⟩:=allO_get' has' hA
 obtain ⟨T,Y,hY,hcx⟩:=l2 i x hxi
 rw [List.getElem?_map,hY] at hu
 simp at hu;subst hu
 obtain ⟨R,k1,_,_⟩:=h.rd hX hcx
 exact ⟨_,R,argF_ok hax,k1⟩
theorem step_callv {c:Call} {f:Nat} {Y:Operand} {y:AX Γ.X} {ts:List TypeId} {xs:List (AX Γ.X)} {as:List (Arg Γ.X)} (ho:o.op=.call c) (hc:c.callee=.value Y) (hY:compX Γ K T0 Y=some y) (hx:argsC Γ K ts c.args.toList=some xs) (has:callArgs e (.callv y xs)=some (f,as))
  (hsp:Spec P f (as.map (·.a)) ans) (hs:eff ans g e o.dst (.callv y xs)=some us):o.wp P a w next Q:=by
 simp only [eff,has] at hs
 obtain ⟨fn,hfn,hb,hn⟩:=hsp.1
 obtain ⟨l1,l2⟩:=argsC_spec hx
 simp only [callArgs] at has
 split at has
 ·rename_i f' first caps hrd
  split at has
  ·rename_i as0 fs cs h1 h2 h3
   simp only [Option.some.injEq,Prod.mk.injEq] at has
   obtain ⟨rfl,rfl⟩:=has
   obtain ⟨n1,_⟩:=allO_spec h1
   obtain ⟨n2,_⟩:=allO_spec h2
   obtain ⟨n3,_⟩:=allO_spec h3
   obtain ⟨R,k1,_,_⟩:=h.rd hX hY
   rw [hrd] at k1
   generalize hu:a.eval Y=u at k1
   cases k1 with
   | u h=>cases h
   | fn _ _ _ us0 vs0 hl hl' ha hb'=>
    have hrun:(execOp a.eval o).run P w=.ok (.enter f' (us0.toArray++c.args.map a.eval++vs0.toArray)) w:=by
     simp only [execOp,ho,resolve,hc,hu,Deferred.ofValue]
     simp [invoke,callFunc_run hfn hb hn]
    unfold Oper.wp
    rw [hrun]
    have hargs:us0.toArray++c.args.map a.eval++vs0.toArray=(us0++c.args.toList.map a.eval++vs0).toArray:=by rw [←Array.toList_inj];simp
    rw [hargs]
    refine h.enter hX hg hd rfl (vals:=us0++c.args.toList.map a.eval++vs0) (by simp [n1,n2,n3,l1,hl,hl']) (fun i A u hA hu=>?_) (fun h hr=>h.mono hr) hsp.2.1 hs hnext
    have hsz:c.args.size=as0.length:=by rw [n1,l1];simp
    have hsz2:fs.length=us0.length:=by rw [n2,hl]
    by_cases hi1:i < fs.length
    ·rw [List.append_assoc,List.getElem?_append_left hi1] at hA
     rw [List.append_assoc,List.getElem?_append_left (by omega)] at hu
     obtain ⟨x,hxi,hax⟩:=allO_get' h2 hA
     exact ⟨x,[],.inr (.inl hax),ha i x u hxi hu⟩
    ·by_cases hi2:i < fs.length+as0.length
     ·rw [List.append_assoc,List.getElem?_append_right (by omega),List.getElem?_append_left (by omega)] at hA
      rw [List.append_assoc,List.getElem?_append_right (by omega),List.getElem?_append_left (by simp;omega)] at hu
      have he:i - us0.length=i - fs.length:=by omega
      rw [he] at hu
      obtain ⟨x,hxi,hax⟩:=allO_get' h1 hA
      obtain ⟨T,Y',hY',hcx⟩:=l2 _ x hxi
      rw [List.getElem?_map,hY'] at hu
      simp at hu;subst hu
      obtain ⟨R,k1,_,_⟩:=h.rd hX hcx
      exact ⟨_,R,argF_ok hax,k1⟩
     ·rw [List.getElem?_append_right (by simp;omega)] at hA
      rw [List.getElem?_append_right (by simp;omega)] at hu
      have he:i - (us0++c.args.toList.map a.eval).length=i - (fs++as0).length:=by simp;omega
      rw [he] at hu
      obtain ⟨x,hxi,hax⟩:=allO_get' h3 hA
      exact ⟨x,[],capA_any hax,hb' _ x u hxi hu⟩
  ·cases has
 ·rename_i s g0 hrd
  split at has
  ·rename_i f' g' T v m hes
   split at has
   ·rename_i hg0
    subst hg0
    split at has
    ·rename_i as0 h1
     simp only [Option.some.injEq,Prod.mk.injEq] at has
     obtain ⟨rfl,rfl⟩:=has
     obtain ⟨n1,_⟩:=allO_spec h1
     obtain ⟨R,k1,_,_⟩:=h.rd hX hY
     rw [hrd] at k1
     obtain ⟨b,cells,ty,S',q1,q2,q3,q4⟩:=h.fnbAt hes
     generalize hu:a.eval Y=u at k1
     cases k1 with
     | u h=>cases h
     | fref _ _ _ hh=>
      have hue:=(hh f' T v m hes).trans q1
      have hrun:(execOp a.eval o).run P w=.ok (.enter f' (c.args.map a.eval++#[Value.pointer (some ⟨b,0,none⟩)])) w:=by
       simp only [execOp,ho,resolve,hc,hu,hue,Deferred.ofValue]
       simp [invoke,callFunc_run hfn hb hn]
      unfold Oper.wp
      rw [hrun]
      have hargs:c.args.map a.eval++#[Value.pointer (some ⟨b,0,none⟩)]=(c.args.toList.map a.eval++[Value.pointer (some ⟨b,0,none⟩)]).toArray:=by rw [←Array.toList_inj];simp
      rw [hargs]
      refine h.enter hX hg hd rfl (vals:=c.args.toList.map a.eval++[Value.pointer (some ⟨b,0,none⟩)]) (by simp [n1,l1]) (fun i A u hA hu=>?_) (fun h hr=>h.mono hr) hsp.2.1 hs hnext
      have hsz:c.args.size=as0.length:=by rw [n1,l1];simp
      by_cases hi1:i < as0.length
      ·rw [List.getElem?_append_left hi1] at hA
       rw [List.getElem?_append_left (by simp;omega)] at hu
       obtain ⟨x,hxi,hax⟩:=allO_get' h1 hA
       obtain ⟨T,Y',hY',hcx⟩:=l2 _ x hxi
       rw [List.getElem?_map,hY'] at hu
       simp at hu;subst hu
       obtain ⟨R,k1,_,_⟩:=h.rd hX hcx
       exact ⟨_,R,argF_ok hax,k1⟩
      ·rw [List.getElem?_append_right (by omega)] at hA
       rw [List.getElem?_append_right (by simp;omega)] at hu
       have hi0:i - as0.length=0:=by
        have:=(List.getElem?_eq_some_iff.1 hA).1
        simp at this;omega
       have hi1:i - (c.args.toList.map a.eval).length=0:=by simp;omega
       rw [hi0] at hA;rw [hi1] at hu
       simp at hA hu;subst hA;subst hu
       exact ⟨.undef,[],.inr (.inr (.inr (.inr ⟨s,g0,f',T,v,m,hes,rfl,q1⟩))),.u (.undef _)⟩
    ·cases has
   ·cases has
  ·cases has
 ·cases has
end steps
end
end
end Go.A2
