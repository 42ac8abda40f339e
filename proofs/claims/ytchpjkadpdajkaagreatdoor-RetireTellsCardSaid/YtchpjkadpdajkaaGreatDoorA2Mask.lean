/- A2Mask: who owns what of a slot is laid down anew. No statement of the seat is proved here. -/
import Derived.Test.YtchpjkadpdajkaaGreatDoorA2Path
set_option linter.unusedSimpArgs false
set_option linter.unusedVariables false
namespace Go.A2
section
variable {X:Tab}
mutual
theorem gen_pure (g:Nat):∀ o:Own,(o.gen g).pure=o.pure
 | .no=>rfl
 | .full=>rfl
 | .yes _=>rfl
 | .dead=>rfl
 | .st l=>gen_pureL g l
theorem gen_pureL (g:Nat):∀ l:List Own,Own.pureL (Own.genL g l)=Own.pureL l
 | []=>rfl
 | o :: l=>by simp only [Own.genL,Own.pureL,gen_pure g o,gen_pureL g l]
end
mutual
theorem OGen_gen (g:Nat):∀ o:Own,OGen (·=g) (o.gen g)
 | .no=>trivial
 | .full=>trivial
 | .yes _=>rfl
 | .dead=>trivial
 | .st l=>OGenL_gen g l
theorem OGenL_gen (g:Nat):∀ l:List Own,OGenL (·=g) (Own.genL g l)
 | []=>trivial
 | o :: l=>⟨OGen_gen g o,OGenL_gen g l⟩
end
mutual
theorem OGen_pure {P:Nat→Prop}:∀ {o:Own},o.pure=true→OGen P o
 | .no,_=>trivial
 | .full,_=>trivial
 | .yes _,h=>by simp [Own.pure] at h
 | .dead,_=>trivial
 | .st _,h=>OGenL_pure h
theorem OGenL_pure {P:Nat→Prop}:∀ {l:List Own},Own.pureL l=true→OGenL P l
 | [],_=>trivial
 | o :: l,h=>by
  simp only [Own.pureL,Bool.and_eq_true] at h
  exact ⟨OGen_pure h.1,OGenL_pure h.2⟩
end
theorem genL_getD (g:Nat) (l:List Own) (j:Nat):(Own.genL g l).getD j .no=(l.getD j .no).gen g:=by
 induction l generalizing j with
 | nil=>rfl
 | cons o l ih=>cases j with
  | zero=>rfl
  | succ j=>simpa [Own.genL] using ih j
theorem VRep.gen {w:World} {F:Nat→Prop} {T:X.Ty} {v:X.den T} {o:Own} {cs:List Value} {S:List Nat} (h:VRep w F T v o cs S) (g:Nat):VRep w F T v (o.gen g) cs S:=by
 induction h with
 | pure h=>exact .pure h
 | full b t v a h=>exact .full b t v a h
 | ownNil b t v g' a hv=>exact .ownNil b t v g a hv
 | own b t v g' blk cap cells ty css hg hsz hcap hmx hc h=>exact .own b t v g blk cap cells ty css hg hsz hcap hmx hc h
 | st i v l css Ss _ ih=>
  refine .st i v (Own.genL g l) css Ss fun j t x hj=>?_
  rw [genL_getD]
  exact ih j t x hj
 | dead b t v c h1=>exact .dead b t v c h1
 | ownM k t v g' blk es ck kss vss hg hl he hk ht=>exact .ownM k t v g blk es ck kss vss hg hl he hk ht
def withMask (x:AV X) (m:Own):AV X:=
 match x with
 | .val T v _=>.val T v m
 | .box g T v _=>.box g T v m
 | x=>x
theorem setMask_some {e:Env X} {s:Nat} {q:List PS} {o:Own} {u:Ups X} (h:setMask e s q o=some u):∃ T v o0 m,slotC (e s)=some ⟨T,v,o0⟩∧setO o0 q o=some m∧u=[(s,withMask (e s) m)]:=by
 unfold setMask at h
 cases hes:e s with
 | val T v m=>
  simp only [hes] at h
  cases hm:setO m q o with
  | none=>simp [hm] at h
  | some m'=>simp [hm] at h;exact ⟨T,v,m,m',rfl,hm,h.symm⟩
 | box g T v m=>
  simp only [hes] at h
  cases hm:setO m q o with
  | none=>simp [hm] at h
  | some m'=>simp [hm] at h;exact ⟨T,v,m,m',rfl,hm,h.symm⟩
 | _=>simp [hes] at h
theorem slotC_some {x:AV X} {T:X.Ty} {v:X.den T} {o:Own} (h:slotC x=some ⟨T,v,o⟩):x=.val T v o∨∃ g,x=.box g T v o:=by
 cases x with
 | val T' v' o'=>simp only [slotC,Option.some.injEq,Sigma.mk.injEq] at h;obtain ⟨rfl,h⟩:=h;cases h;exact .inl rfl
 | box g T' v' o'=>simp only [slotC,Option.some.injEq,Sigma.mk.injEq] at h;obtain ⟨rfl,h⟩:=h;cases h;exact .inr ⟨g,rfl⟩
 | _=>cases h
mutual
theorem OGen_setO {P:Nat→Prop}:∀ {q:List PS} {o o' m:Own},setO o q o'=some m→OGen P o→OGen P o'→OGen P m
 | [],o,o',m,h,_,h'=>by simp only [setO,Option.some.injEq] at h;subst h;exact h'
 | .fld j :: q,o,o',m,h,ho,h'=>by
  have hd:o ≠ .dead:=fun hd=>by subst hd;simp [setO] at h
  have:setO o (.fld j :: q) o'=match setO (o.fldD j) q o' with
    | some b=>if (o.fldD j).isNo&&b.isNo then some o else some (if (putL o.list j b).all Own.isNo then .no else .st (putL o.list j b))
    | none=>none:=by cases o<;>first | rfl | exact absurd rfl hd
  rw [this] at h
  have hfd:OGen P (o.fldD j):=by cases o<;>first | trivial | exact OGenL_getD ho j
  cases hb:setO (o.fldD j) q o' with
  | none=>simp [hb] at h
  | some b=>
   have hgb:=OGen_setO hb hfd h'
   simp only [hb] at h
   split at h
   ·simp only [Option.some.injEq] at h;subst h;exact ho
   ·simp only [Option.some.injEq] at h;subst h
    split
    ·trivial
    ·have hl:OGenL P o.list:=by cases o<;>first | trivial | exact ho
     have gen:∀ (l:List Own) (j:Nat),OGenL P l→OGenL P (putL l j b):=fun l=>by
      induction l with
      | nil=>intro j _;induction j with
       | zero=>exact ⟨hgb,trivial⟩
       | succ j ih=>exact ⟨trivial,ih⟩
      | cons x l ih=>intro j h;cases j with
       | zero=>exact ⟨hgb,h.2⟩
       | succ j=>exact ⟨h.1,ih j h.2⟩
     exact gen _ _ hl
 | .idx j :: q,o,o',m,h,_,_=>by
  cases o<;>simp [setO,Own.isNo] at h
  ·obtain ⟨_,rfl⟩:=h;trivial
end
section
variable {N:Slots} {F0 B U:Nat→Prop} {w0:World} {F:Nat→Prop} {S:Nat→List Nat} {e:Env X} {a:Act} {w:World}
theorem nodup_parts {α:Type} {a b c:List α} (h:(a++b++c).Nodup):(a++c).Nodup∧b.Nodup∧(∀ x∈b,x ∉ a++c):=by
 obtain ⟨h1,h2,h3⟩:=List.nodup_append.1 h
 obtain ⟨h4,h5,h6⟩:=List.nodup_append.1 h1
 refine ⟨List.nodup_append.2 ⟨h4,h2,fun x hx y hy=>h3 x (by simp [hx]) y hy⟩,h5,fun x hx hm=>?_⟩
 rcases List.mem_append.1 hm with hm | hm
 ·exact h6 x hm x hx rfl
 ·exact h3 x (by simp [hx]) x hm rfl
theorem EnvRel.remask (hX:TabOk X) (h:EnvRel N F0 B U w0 F S e a w) {s:Nat} {T T':X.Ty} {v:X.den T} {o o' m:Own} {q:List PS} {x:X.den T'} (hs:slotC (e s)=some ⟨T,v,o⟩) (ht:tyQ q T=some T') (hx:getQ q T v=some ⟨T',x⟩)
  (hm:setO o q o'=some m) (ho':OGen (fun _=>False) o'):
  ∃ cx Sx,VRep w F T' x (ownAt o q) cx Sx∧(∀ b∈Sx,b∈S s)∧Sx.Nodup∧(∀ u,cx=[u]→hdr e a w s q=some u)∧(∀ g b,e s=.box g T v o→a.tmps.getD s Go.undef=.pointer (some ⟨b,0,none⟩)→∀ (j:Nat) u,cx[j]?=some u→w.cell? ⟨b,offQ q T+j,none⟩=some u) ∧
   ∀ F',(∀ b,F b→F' b)→(∀ b,F' b→F b∨b∈Sx)→VRep w F' T' x o' cx []→∃ S',EnvRel N F0 B U w0 F' S' (upd e s (withMask (e s) m)) a w∧(∀ t,t ≠ s→S' t=S t)∧(∀ b∈S' s,b∈S s∧b ∉ Sx):=by
 have hkept:∀ (x':AV X),((e s=.val T v o∧x'=.val T v m)∨∃ g,e s=.box g T v o∧x'=.box g T v m)→Kept U e a w (upd e s x') a w:=fun x' hx'=>by
  refine h.keptSlot (v':=v) (o':=m) hx' (fun _ _ _ _=>rfl) (fun q' g b t l' hf hg ho hgq=>?_) (fun q' g hf hg ho hgq=>?_) ?_
  ·obtain ⟨_,h2,h3⟩:=turned hX ht (setQ_self hX ht hx) hm hf hgq ho (ho'.imp fun _ h=>h.elim)
   exact ⟨l',h2,h3,rfl⟩
  ·unfold hdr
   rw [upd_same]
   rcases hx' with ⟨h1,h2⟩ | ⟨g',h1,h2⟩<;>rw [h1,h2]
  ·rintro g _ hg rfl ⟨k,t,rfl⟩
   cases q with
   | nil=>simp only [setO,Option.some.injEq] at hm;subst hm;exact ho'.elim
   | cons y q=>cases y<;>simp [tyQ] at ht
 have howns:OwnsG U (e s):=h.owns s
 have hgm:OGen U m:=OGen_setO hm (slotC_own howns hs) (ho'.imp fun _ h=>h.elim)
 have hFS:∀ {F':Nat→Prop} {Sx:List Nat},(∀ b,F' b→F b∨b∈Sx)→(∀ b∈Sx,b∈S s)→∀ b,F' b→F b∨(B b∧b < w.heap.size∧∀ t,t ≠ s→b ∉ S t):=fun h1 h2 b hb=>by
  rcases h1 b hb with hb | hb
  ·exact .inl hb
  ·have:=h.own s b (h2 b hb)
   exact .inr ⟨this.1,this.2.1,fun t ht=>h.apart s t b (Ne.symm ht) (h2 b hb)⟩
 rcases slotC_some hs with hes | ⟨g,hes⟩
 ·obtain ⟨cs,k1,k2⟩:=h.valAt hes
  obtain ⟨c1,cx,c2,S1,Sx,S2,e1,e2,e3,e4,e5⟩:=k1.lens hX ht hx
  have hnd:=h.nodup s
  rw [e3] at hnd
  obtain ⟨n1,n2,n3⟩:=nodup_parts hnd
  refine ⟨cx,Sx,e4,fun b hb=>by rw [e3];simp [hb],n2,fun u hu=>?_,fun g b hb=>(by rw [hes] at hb;cases hb),fun F' hF hF' hr=>?_⟩
  ·unfold hdr
   rw [hes]
   have:(a.tmps.getD s undef).cells.toList=cs:=valOk_cells k2 k1.one
   show (a.tmps.getD s undef).cells[offQ q T]?=some u
   rw [←Array.getElem?_toList,this,e1,hu,←e2]
   simp
  ·have hnew:=e5 w F' x o' m cx [] v hF (fun _ _=>rfl) (fun _ _ _=>rfl) (h.nodup s) hr (setQ_self hX ht hx) hm
   rw [←e1] at hnew
   simp only [List.append_nil] at hnew
   rw [hes]
   refine ⟨updS S s (S1++S2),?_,fun t ht=>updS_ne S _ ht,fun b hb=>?_⟩
   ·refine h.turn rfl rfl (fun _ _=>rfl) (fun _ _=>rfl) (hkept _ (.inl ⟨hes,rfl⟩)) (fun _ h=>h) hF (fun _ _=>rfl) (fun _ _ _ _=>rfl) (.refl _ _) (hFS hF' fun b hb=>by rw [e3];simp [hb]) (.u (.val T v m _ cs _ hnew k2)) hgm trivial n1 ?_ ?_
    ·intro b hb
     have hin:b∈S s:=by rw [e3];rcases List.mem_append.1 hb with hb | hb<;>simp [hb]
     obtain ⟨g1,g2,g3⟩:=h.own s b hin
     refine ⟨g1,g2,fun hf=>?_⟩
     rcases hF' b hf with hf | hf
     ·exact g3 hf
     ·exact n3 b hf hb
    ·intro b hb t ht
     have hin:b∈S s:=by rw [e3];rcases List.mem_append.1 hb with hb | hb<;>simp [hb]
     exact h.apart s t b (Ne.symm ht) hin
   ·rw [updS_same] at hb
    exact ⟨by rw [e3];rcases List.mem_append.1 hb with hb | hb<;>simp [hb],fun hx=>n3 b hx hb⟩
 ·obtain ⟨b0,cells,ty,S',k1,k2,k3,k4⟩:=h.boxAt hes
  obtain ⟨c1,cx,c2,S1,Sx,S2,e1,e2,e3,e4,e5⟩:=k3.lens hX ht hx
  have hnd:=h.nodup s
  rw [k4,e3] at hnd
  obtain ⟨nb,nd⟩:=List.nodup_cons.1 hnd
  obtain ⟨n1,n2,n3⟩:=nodup_parts nd
  refine ⟨cx,Sx,e4,fun b hb=>by rw [k4,e3];simp [hb],n2,fun u hu=>?_,fun g' b _ hb j u hj=>?_,fun F' hF hF' hr=>?_⟩
  ·unfold hdr
   rw [hes]
   simp only [k1]
   show w.cell? ⟨b0,offQ q T,none⟩=some u
   simp only [World.cell?,k2]
   show cells[offQ q T]?=some u
   rw [←Array.getElem?_toList,e1,hu,←e2]
   simp
  ·rw [k1] at hb;cases hb
   simp only [World.cell?,k2]
   show cells[offQ q T+j]?=some u
   rw [←Array.getElem?_toList,e1,←e2,List.append_assoc,List.getElem?_append_right (by omega)]
   simp [List.getElem?_append_left (List.getElem?_eq_some_iff.1 hj).1,hj]
  ·have hnew:=e5 w F' x o' m cx [] v hF (fun _ _=>rfl) (fun _ _ _=>rfl) (List.nodup_cons.1 (by have:=h.nodup s;rwa [k4] at this)).2 hr (setQ_self hX ht hx) hm
   rw [←e1] at hnew
   simp only [List.append_nil] at hnew
   rw [hes]
   refine ⟨updS S s (b0 :: (S1++S2)),?_,fun t ht=>updS_ne S _ ht,fun b hb=>?_⟩
   ·refine h.turn rfl rfl (fun _ _=>rfl) (fun _ _=>rfl) (hkept _ (.inr ⟨g,hes,rfl⟩)) (fun _ h=>h) hF (fun _ _=>rfl) (fun _ _ _ _=>rfl) (.refl _ _) (hFS hF' fun b hb=>by rw [k4,e3];simp [hb]) ?_ ⟨?_,hgm⟩ trivial ?_ ?_ ?_
    ·rw [k1];exact .box g T v m b0 cells ty _ k2 hnew
    ·rw [hes] at howns;exact howns.1
    ·exact List.nodup_cons.2 ⟨fun hb=>nb (by rcases List.mem_append.1 hb with hb | hb<;>simp [hb]),n1⟩
    ·intro b hb
     have hin:b∈S s:=by
      rw [k4,e3]
      rcases List.mem_cons.1 hb with rfl | hb
      ·simp
      ·rcases List.mem_append.1 hb with hb | hb<;>simp [hb]
     obtain ⟨g1,g2,g3⟩:=h.own s b hin
     refine ⟨g1,g2,fun hf=>?_⟩
     rcases hF' b hf with hf | hf
     ·exact g3 hf
     ·rcases List.mem_cons.1 hb with rfl | hb
      ·exact nb (by simp [hf])
      ·exact n3 b hf hb
    ·intro b hb t ht
     have hin:b∈S s:=by
      rw [k4,e3]
      rcases List.mem_cons.1 hb with rfl | hb
      ·simp
      ·rcases List.mem_append.1 hb with hb | hb<;>simp [hb]
     exact h.apart s t b (Ne.symm ht) hin
   ·rw [updS_same] at hb
    refine ⟨?_,fun hx=>?_⟩
    ·rw [k4,e3]
     rcases List.mem_cons.1 hb with rfl | hb
     ·simp
     ·rcases List.mem_append.1 hb with hb | hb<;>simp [hb]
    ·rcases List.mem_cons.1 hb with rfl | hb
     ·exact nb (by simp [hx])
     ·exact n3 b hx hb
structure Less (F:Nat→Prop) (S:Nat→List Nat) (F1:Nat→Prop) (S1:Nat→List Nat):Prop where
 keeps:∀ b,F b→F1 b
 from_:∀ b,F1 b→F b∨∃ s,b∈S s
 owned:∀ s b,b∈S1 s→b∈S s
theorem Less.refl (F:Nat→Prop) (S:Nat→List Nat):Less F S F S:=⟨fun _ h=>h,fun _ h=>.inl h,fun _ _ h=>h⟩
theorem Less.trans {F F1 F2:Nat→Prop} {S S1 S2:Nat→List Nat} (h:Less F S F1 S1) (k:Less F1 S1 F2 S2):Less F S F2 S2:=
 ⟨fun b hb=>k.keeps b (h.keeps b hb),fun b hb=>(k.from_ b hb).elim (h.from_ b) fun ⟨s,hs⟩=>.inr ⟨s,h.owned s b hs⟩,fun s b hb=>h.owned s b (k.owned s b hb)⟩
theorem EnvRel.freezeAt (hX:TabOk X) (h:EnvRel N F0 B U w0 F S e a w) {s:Nat} {T T':X.Ty} {v:X.den T} {o m:Own} {q:List PS} {x:X.den T'} (hs:slotC (e s)=some ⟨T,v,o⟩) (ht:tyQ q T=some T') (hx:getQ q T v=some ⟨T',x⟩)
  (hm:setO o q .no=some m) (hal:(ownAt o q).alive=true):
  ∃ F' S' cx,EnvRel N F0 B U w0 F' S' (upd e s (withMask (e s) m)) a w∧Less F S F' S'∧PRep w F' T' x cx∧(∀ u,cx=[u]→hdr e a w s q=some u) ∧
   (∀ g b,e s=.box g T v o→a.tmps.getD s Go.undef=.pointer (some ⟨b,0,none⟩)→∀ (j:Nat) u,cx[j]?=some u→w.cell? ⟨b,offQ q T+j,none⟩=some u):=by
 obtain ⟨cx,Sx,k1,k2,k3,k4,k6,k5⟩:=h.remask hX hs ht hx hm (o':=.no) trivial
 have hp:=k1.freeze (F':=fun b=>F b∨b∈Sx) (fun _ h=>.inl h) (fun _ h=>.inr h) hal
 obtain ⟨S',g1,g2,g3⟩:=k5 (fun b=>F b∨b∈Sx) (fun _ h=>.inl h) (fun _ h=>h) (.pure hp)
 refine ⟨_,S',cx,g1,⟨fun _ h=>.inl h,fun b hb=>hb.elim .inl fun hb=>.inr ⟨s,k2 b hb⟩,fun t b hb=>?_⟩,hp,k4,k6⟩
 by_cases ht:t=s
 ·subst ht;exact (g3 b hb).1
 ·rw [←g2 t ht];exact hb
end
end
end Go.A2
