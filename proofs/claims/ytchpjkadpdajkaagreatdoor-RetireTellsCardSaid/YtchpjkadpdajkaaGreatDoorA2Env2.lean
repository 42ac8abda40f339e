/- A2Env2: the typed environment: a slot is set, emptied, turned; memory grows. No statement of the seat is proved here. -/
import Derived.Test.YtchpjkadpdajkaaGreatDoorA2Env
set_option linter.unusedSimpArgs false
set_option linter.unusedVariables false
namespace Go.A2
section
variable {X:Tab}
mutual
theorem OGen.imp {P Q:Nat→Prop} (hPQ:∀ g,P g→Q g):∀ {o:Own},OGen P o→OGen Q o
 | .no,_=>trivial
 | .full,_=>trivial
 | .yes _,h=>hPQ _ h
 | .dead,_=>trivial
 | .st _,h=>OGenL.imp hPQ h
theorem OGenL.imp {P Q:Nat→Prop} (hPQ:∀ g,P g→Q g):∀ {l:List Own},OGenL P l→OGenL Q l
 | [],_=>trivial
 | _ :: _,h=>⟨OGen.imp hPQ h.1,OGenL.imp hPQ h.2⟩
end
mutual
theorem OwnsG.imp {P Q:Nat→Prop} (hPQ:∀ g,P g→Q g):∀ {x:AV X},OwnsG P x→OwnsG Q x
 | .val _ _ _,h=>OGen.imp hPQ h
 | .box _ _ _ _,h=>⟨hPQ _ h.1,OGen.imp hPQ h.2⟩
 | .tup _,h=>OwnsGL.imp hPQ h
 | .undef,_=>trivial
 | .ref _ _ _,_=>trivial
 | .ptr _ _,_=>trivial
 | .rptr _ _,_=>trivial
 | .fn _ _ _,_=>trivial
 | .view _ _ _ _ _,_=>trivial
 | .mref _ _,_=>trivial
 | .aview _ _ _ _ _ _ _,_=>trivial
 | .fnb _ _ _ _ _,h=>⟨hPQ _ h.1,OGen.imp hPQ h.2⟩
 | .fref _ _,_=>trivial
 | .rfn _ _ _,_=>trivial
 | .fnew _,h=>hPQ _ h
theorem OwnsGL.imp {P Q:Nat→Prop} (hPQ:∀ g,P g→Q g):∀ {l:List (AV X)},OwnsGL P l→OwnsGL Q l
 | [],_=>trivial
 | _ :: _,h=>⟨OwnsG.imp hPQ h.1,OwnsGL.imp hPQ h.2⟩
end
mutual
theorem RefG.imp {P Q:Nat→Prop} (hPQ:∀ g,P g→Q g):∀ {x:AV X},RefG P x→RefG Q x
 | .ref _ _ _,h=>hPQ _ h
 | .ptr (.box _ _) _,h=>hPQ _ h
 | .ptr (.elem _ _ _ _) _,h=>hPQ _ h
 | .tup _,h=>RefGL.imp hPQ h
 | .fn _ _ _,h=>⟨RefGL.imp hPQ h.1,RefGL.imp hPQ h.2⟩
 | .undef,_=>trivial
 | .val _ _ _,_=>trivial
 | .box _ _ _ _,_=>trivial
 | .rptr _ _,_=>trivial
 | .view _ _ _ _ _,h=>hPQ _ h
 | .mref _ _,h=>hPQ _ h
 | .aview (.box _ _) _ _ _ _ _ _,h=>hPQ _ h
 | .aview (.elem _ _ _ _) _ _ _ _ _ _,h=>hPQ _ h
 | .fref _ _,h=>hPQ _ h
 | .fnb _ _ _ _ _,_=>trivial
 | .rfn _ _ _,h=>⟨RefGL.imp hPQ h.1,RefGL.imp hPQ h.2⟩
 | .fnew _,_=>trivial
theorem RefGL.imp {P Q:Nat→Prop} (hPQ:∀ g,P g→Q g):∀ {l:List (AV X)},RefGL P l→RefGL Q l
 | [],_=>trivial
 | _ :: _,h=>⟨RefG.imp hPQ h.1,RefGL.imp hPQ h.2⟩
end
section
variable {N:Slots} {F0 B U:Nat→Prop} {w0:World} {F:Nat→Prop} {S:Nat→List Nat} {e:Env X} {a:Act} {w:World}
theorem EnvRel.turn (h:EnvRel N F0 B U w0 F S e a w) {s:Nat} {x:AV X} {T:List Nat} {w':World} {F' U':Nat→Prop} {a':Act} (hsz:a'.tmps.size=a.tmps.size) (hdf:a'.defers=a.defers) (hlent:∀ q∈N.V,a'.tmps.getD q.1 undef=a.tmps.getD q.1 undef)
  (hat:∀ t,t ≠ s→a'.tmps.getD t undef=a.tmps.getD t undef) (hk:Kept U e a w (upd e s x) a' w') (hU:∀ g,U g→U' g)
  (hF:∀ b,F b→F' b) (hw:∀ b,F b→w'.heap[b]?=w.heap[b]?) (hS:∀ t,t ≠ s→∀ b∈S t,w'.heap[b]?=w.heap[b]?) (hb:BelowP B w w')
  (hFS:∀ b,F' b→F b∨(B b∧b < w'.heap.size∧∀ t,t ≠ s→b ∉ S t))
  (rep:SRep (upd e s x) a' w' F' x (a'.tmps.getD s undef) T) (owns:OwnsG U' x) (refs:RefG U' x) (nodup:T.Nodup) (own:∀ b∈T,B b∧b < w'.heap.size∧¬ F' b) (apart:∀ b∈T,∀ t,t ≠ s→b ∉ S t):
  EnvRel N F0 B U' w0 F' (updS S s T) (upd e s x) a' w':=by
 refine ⟨hsz.trans h.size,?_,hdf.trans h.defers,?_,?_,?_,?_,?_,?_,?_,?_,?_,h.below.trans hb,?_,h.gl⟩
 ·intro t u ht
  rw [hlent _ ht];exact h.lent t u ht
 ·intro t
  by_cases ht:t=s
  ·subst ht;rw [upd_same,updS_same];exact rep
  ·rw [upd_ne e x ht,updS_ne S T ht,hat t ht]
   exact (h.rep t).step hF hw hk (h.refs t) (hS t ht)
 ·intro t
  by_cases ht:t=s
  ·subst ht;rw [upd_same];exact owns
  ·rw [upd_ne e x ht];exact (h.owns t).imp hU
 ·intro t
  by_cases ht:t=s
  ·subst ht;rw [upd_same];exact refs
  ·rw [upd_ne e x ht];exact (h.refs t).imp hU
 ·intro t
  by_cases ht:t=s
  ·subst ht;rw [updS_same];exact nodup
  ·rw [updS_ne S T ht];exact h.nodup t
 ·intro t r b htr hb'
  by_cases ht:t=s
  ·subst ht
   rw [updS_same] at hb'
   rw [updS_ne S T (Ne.symm htr)]
   exact apart b hb' r (Ne.symm htr)
  ·rw [updS_ne S T ht] at hb'
   by_cases hr:r=s
   ·subst hr;rw [updS_same];exact fun hT=>apart b hT t ht hb'
   ·rw [updS_ne S T hr];exact h.apart t r b htr hb'
 ·intro t b hb'
  by_cases ht:t=s
  ·subst ht;rw [updS_same] at hb';exact own b hb'
  ·rw [updS_ne S T ht] at hb'
   obtain ⟨h1,h2,h3⟩:=h.own t b hb'
   refine ⟨h1,Nat.lt_of_lt_of_le h2 hb.size,fun hf=>?_⟩
   rcases hFS b hf with hf | ⟨_,_,hf⟩
   ·exact h3 hf
   ·exact hf t ht hb'
 ·intro b hf
  rcases hFS b hf with hf | ⟨_,hf,_⟩
  ·exact Nat.lt_of_lt_of_le (h.free b hf) hb.size
  ·exact hf
 ·intro b hf
  rcases hFS b hf with hf | ⟨hf,_,_⟩
  ·exact h.old b hf
  ·exact .inr hf
 ·exact fun b hb'=>hF b (h.keeps b hb')
 ·exact fun b hb'=>h.base b (Nat.le_trans hb.size hb')
theorem EnvRel.world (h:EnvRel N F0 B U w0 F S e a w) {w':World} {F':Nat→Prop} (hF:∀ b,F b→F' b) (hw:∀ b,F b→w'.heap[b]?=w.heap[b]?) (hS:∀ t,∀ b∈S t,w'.heap[b]?=w.heap[b]?) (hb:BelowP B w w')
  (hFS:∀ b,F' b→F b∨(B b∧b < w'.heap.size∧∀ t,b ∉ S t)):EnvRel N F0 B U w0 F' S e a w':=by
 have hk:Kept U e a w e a w':=h.kept fun s=>.inl ⟨rfl,rfl,hS s⟩
 refine ⟨h.size,h.lent,h.defers,fun s=>(h.rep s).step hF hw hk (h.refs s) (hS s),h.owns,h.refs,h.nodup,h.apart,?_,?_,?_,fun b hb'=>hF b (h.keeps b hb'),h.below.trans hb,fun b hb'=>h.base b (Nat.le_trans hb.size hb'),h.gl⟩
 ·intro t b hb'
  obtain ⟨h1,h2,h3⟩:=h.own t b hb'
  refine ⟨h1,Nat.lt_of_lt_of_le h2 hb.size,fun hf=>?_⟩
  rcases hFS b hf with hf | ⟨_,_,hf⟩
  ·exact h3 hf
  ·exact hf t hb'
 ·intro b hf
  rcases hFS b hf with hf | ⟨_,hf,_⟩
  ·exact Nat.lt_of_lt_of_le (h.free b hf) hb.size
  ·exact hf
 ·intro b hf
  rcases hFS b hf with hf | ⟨hf,_,_⟩
  ·exact h.old b hf
  ·exact .inr hf
theorem EnvRel.globNow (h:EnvRel N F0 B U w0 F S e a w) {G:Nat→Prop} (hG:∀ b,F b→G b):GlobIn X G w:=fun q hq=>by
 obtain ⟨g1,g2,g3⟩:=h.gl.1 q hq
 exact ⟨hG _ (h.keeps _ g1),Nat.lt_of_lt_of_le g2 h.below.size,fun j u hj=>(World.cell?_of_block (h.below.block _ g2 (h.gl.2 _ g2 g1))).trans (g3 j u hj)⟩
theorem EnvRel.weakU (h:EnvRel N F0 B U w0 F S e a w) {U':Nat→Prop} (hU:∀ g,U g→U' g):EnvRel N F0 B U' w0 F S e a w:=
 ⟨h.size,h.lent,h.defers,h.rep,fun s=>(h.owns s).imp hU,fun s=>(h.refs s).imp hU,h.nodup,h.apart,h.own,h.free,h.old,h.keeps,h.below,h.base,h.gl⟩
theorem EnvRel.set (h:EnvRel N F0 B U w0 F S e a w) {d:Nat} (hd:N.ok d) {g0:Nat} (hg:¬ U g0) {x:AV X} {u:Value} {T:List Nat} (hh:Hand B U F S e a w x u T) (hx:OwnsG (·=g0) x):
  EnvRel N F0 B (fun g=>U g∨g=g0) w0 F (updS S d T) (upd e d x) (a.put (some d) u) w:=by
 have hda:d < a.tmps.size:=h.size ▸ hd.1
 have hk:Kept U e a w (upd e d x) (a.put (some d) u) w:=h.kept fun s=>by
  by_cases hs:s=d
  ·subst hs
   refine .inr ?_
   rw [upd_same]
   exact OwnsG.imp (P:=(·=g0)) (Q:=fun g=>¬ U g) (fun g hgg hu=>hg (by have h1:g=g0:=hgg;rw [←h1];exact hu)) hx
  ·exact .inl ⟨upd_ne e x hs,by rw [getD_put a d s u hda,if_neg hs],fun _ _=>rfl⟩
 refine h.turn (by simp [Act.put]) (by simp [Act.put]) (fun q hq=>?_) (fun t ht=>by rw [getD_put a d t u hda,if_neg ht]) hk (fun g hg=>.inl hg) (fun _ h=>h) (fun _ _=>rfl) (fun _ _ _ _=>rfl) (.refl _ _) (fun b hb=>.inl hb) ?_ (hx.imp fun g hg=>.inr hg) (hh.refs.imp fun g hg=>.inl hg) hh.nodup hh.own fun b hb t _=>hh.apart b hb t
 ·rw [getD_put a d q.1 u hda,if_neg (hd.2 q hq)]
 ·rw [getD_put a d d u hda,if_pos rfl]
  exact hh.rep.step (fun _ h=>h) (fun _ _=>rfl) hk hh.refs fun _ _=>rfl
theorem EnvRel.setP (h:EnvRel N F0 B U w0 F S e a w) {d:Nat} (hd:N.ok d) {x:AV X} {u:Value} (hh:Hand B U F S e a w x u []) (hx:∀ Q,OwnsG Q x):EnvRel N F0 B U w0 F (updS S d []) (upd e d x) (a.put (some d) u) w:=by
 have hda:d < a.tmps.size:=h.size ▸ hd.1
 have hk:Kept U e a w (upd e d x) (a.put (some d) u) w:=h.kept fun s=>by
  by_cases hs:s=d
  ·subst hs
   refine .inr ?_
   rw [upd_same]
   exact hx _
  ·exact .inl ⟨upd_ne e x hs,by rw [getD_put a d s u hda,if_neg hs],fun _ _=>rfl⟩
 refine h.turn (by simp [Act.put]) (by simp [Act.put]) (fun q hq=>?_) (fun t ht=>by rw [getD_put a d t u hda,if_neg ht]) hk (fun _ h=>h) (fun _ h=>h) (fun _ _=>rfl) (fun _ _ _ _=>rfl) (.refl _ _) (fun b hb=>.inl hb) ?_ (hx _) hh.refs hh.nodup hh.own fun b hb t _=>hh.apart b hb t
 ·rw [getD_put a d q.1 u hda,if_neg (hd.2 q hq)]
 ·rw [getD_put a d d u hda,if_pos rfl]
  exact hh.rep.step (fun _ h=>h) (fun _ _=>rfl) hk hh.refs fun _ _=>rfl
theorem EnvRel.drop (h:EnvRel N F0 B U w0 F S e a w) (d:Nat):EnvRel N F0 B U w0 F (updS S d []) (upd e d .undef) a w:=by
 refine h.turn rfl rfl (fun _ _=>rfl) (fun _ _=>rfl) (h.kept fun s=>?_) (fun _ h=>h) (fun _ h=>h) (fun _ _=>rfl) (fun _ _ _ _=>rfl) (.refl _ _) (fun b hb=>.inl hb) (.u (.undef _)) trivial trivial List.nodup_nil (by simp) (by simp)
 by_cases hs:s=d
 ·subst hs;exact .inr (by rw [upd_same];trivial)
 ·exact .inl ⟨upd_ne e _ hs,rfl,fun _ _=>rfl⟩
theorem EnvRel.handOf (h:EnvRel N F0 B U w0 F S e a w) (d:Nat):Hand B U F (updS S d []) (upd e d .undef) a w (e d) (a.tmps.getD d undef) (S d):=by
 have hk:Kept U e a w (upd e d .undef) a w:=h.kept fun s=>by
  by_cases hs:s=d
  ·subst hs;exact .inr (by rw [upd_same];trivial)
  ·exact .inl ⟨upd_ne e _ hs,rfl,fun _ _=>rfl⟩
 refine ⟨(h.rep d).step (fun _ h=>h) (fun _ _=>rfl) hk (h.refs d) fun _ _=>rfl,h.refs d,h.nodup d,h.own d,fun b hb s=>?_⟩
 by_cases hs:s=d
 ·subst hs;rw [updS_same];simp
 ·rw [updS_ne S _ hs];exact h.apart d s b (Ne.symm hs) hb
theorem Hand.ofPure {x:AV X} {u:Value} (h:SRep e a w F x u []) (hr:RefG U x):Hand B U F S e a w x u []:=⟨h,hr,List.nodup_nil,by simp,by simp⟩
theorem EnvRel.keptSlot (h:EnvRel N F0 B U w0 F S e a w) {s:Nat} {x:AV X} {w':World} {T:X.Ty} {v v':X.den T} {o o':Own} (hx:(e s=.val T v o∧x=.val T v' o')∨∃ g,e s=.box g T v o∧x=.box g T v' o')
  (hS:∀ t,t ≠ s→∀ b∈S t,w'.heap[b]?=w.heap[b]?)
  (hq:∀ q g b t l',onlyFld q=true→U g→ownAt o' q=.yes g→getQ q T v'=some ⟨.slice b t,l'⟩→∃ l:Sl b (X.den t),ownAt o q=.yes g∧getQ q T v=some ⟨.slice b t,l⟩∧l.l.length=l'.l.length)
  (hh:∀ q g,onlyFld q=true→U g→ownAt o' q=.yes g→(∃ b t l,getQ q T v'=some ⟨.slice b t,l⟩)→hdr (upd e s x) a w' s q=hdr e a w s q) (hm:∀ g,e s=.val T v o→U g→o'=.yes g→(∃ k t,T=.map k t)→o=.yes g):Kept U e a w (upd e s x) a w':=by
 have hsc:slotC (e s)=some ⟨T,v,o⟩∧slotC x=some ⟨T,v',o'⟩:=by
  rcases hx with ⟨h1,h2⟩ | ⟨g,h1,h2⟩<;>rw [h1,h2]<;>exact ⟨rfl,rfl⟩
 have h0:=h.kept (e':=upd e s .undef) (a':=a) (w':=w') fun t=>by
  by_cases ht:t=s
  ·subst ht;exact .inr (by rw [upd_same];trivial)
  ·exact .inl ⟨upd_ne e _ ht,rfl,hS t ht⟩
 refine ⟨fun t q g b ty l' hqf hg hc=>?_,fun t g T1 v1 o1 hg hb=>?_,fun t f g T1 v1 o1 hg hb=>?_,fun t' g k ty l hg hb=>?_⟩
 ·by_cases ht:t=s
  ·subst ht
   unfold cont at hc
   rw [upd_same,hsc.2] at hc
   simp only [] at hc
   split at hc
   ·rename_i b1 t1 l1 g1 hg1 ho1
    split at hc
    ·rename_i hgg
     subst hgg
     cases hc
     obtain ⟨l,k1,k2,k3⟩:=hq q g _ _ _ hqf hg ho1 hg1
     refine ⟨l,?_,k3,hh q g hqf hg ho1 ⟨_,_,_,hg1⟩⟩
     unfold cont
     rw [hsc.1]
     simp only [k1,k2,if_true]
    ·cases hc
   ·cases hc
  ·obtain ⟨l,k1,k2,k3⟩:=h0.ref t q g b ty l' hqf hg (by rw [cont_congr (e:=upd e s x) (by rw [upd_ne e _ ht,upd_ne e _ ht])];exact hc)
   refine ⟨l,k1,k2,?_⟩
   rw [←k3]
   unfold hdr
   rw [upd_ne e _ ht,upd_ne e _ ht]
 ·by_cases ht:t=s
  ·subst ht
   rw [upd_same] at hb
   rcases hx with ⟨h1,h2⟩ | ⟨g2,h1,h2⟩
   ·rw [h2] at hb;cases hb
   ·rw [h2] at hb;cases hb
    exact ⟨v,o,h1,rfl⟩
  ·rw [upd_ne e _ ht] at hb
   exact h0.box t g T1 v1 o1 hg (by rw [upd_ne e _ ht];exact hb)
 ·by_cases ht:t=s
  ·subst ht
   rw [upd_same] at hb
   rcases hx with ⟨h1,h2⟩ | ⟨g2,h1,h2⟩<;>(rw [h2] at hb;cases hb)
  ·rw [upd_ne e _ ht] at hb
   exact h0.fb t f g T1 v1 o1 hg (by rw [upd_ne e _ ht];exact hb)
 ·by_cases ht:t'=s
  ·subst ht
   rw [upd_same] at hb
   rcases hx with ⟨h1,h2⟩ | ⟨g2,h1,h2⟩
   ·rw [h2] at hb
    injection hb with e1 e2 e3
    subst e1
    have:=hm g h1 hg e3 ⟨_,_,rfl⟩
    subst this
    exact ⟨v,h1,rfl⟩
   ·rw [h2] at hb;cases hb
  ·rw [upd_ne e _ ht] at hb
   exact h0.mp t' g k ty l hg (by rw [upd_ne e _ ht];exact hb)
end
end
end Go.A2
