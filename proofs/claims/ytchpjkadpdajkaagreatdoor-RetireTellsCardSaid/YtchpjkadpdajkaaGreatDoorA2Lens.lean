/- A2Lens: a step into a value, and its cells. No statement of the seat is proved here. -/
import Derived.Test.YtchpjkadpdajkaaGreatDoorA2Rep
set_option linter.unusedSimpArgs false
set_option linter.unusedVariables false
namespace Go.A2
section
variable {X:Tab}
def offQ:List PS→X.Ty→Nat
 | .fld j :: q,.named i=>X.off i j+(match (X.fields i)[j]? with | some t=>offQ q t | none=>0)
 | .idx k :: q,.arr _ t=>k*X.sz t+offQ q t
 | _,_=>0
theorem getQ_of_tyQ:∀ {q:List PS} {T T':X.Ty} (v:X.den T),tyQ q T=some T'→∃ x,getQ q T v=some ⟨T',x⟩
 | [],T,T',v,h=>by simp only [tyQ,Option.some.injEq] at h;subst h;exact ⟨v,rfl⟩
 | .fld j :: q,.named i,T',v,h=>by
  simp only [tyQ] at h
  cases hf:(X.fields i)[j]? with
  | none=>simp [hf] at h
  | some t=>
   simp [hf] at h
   obtain ⟨y,hy⟩:=getT_some (X.to i v) hf
   obtain ⟨x,hx⟩:=getQ_of_tyQ y h
   exact ⟨x,by simp only [getQ];rw [hy];exact hx⟩
 | .idx k :: q,.arr n t,T',v,h=>by
  simp only [tyQ] at h
  split at h
  ·obtain ⟨x,hx⟩:=getQ_of_tyQ (v.l.getD k (X.zero t)) h
   exact ⟨x,hx⟩
  ·cases h
 | .fld _ :: _,.int _,_,_,h | .fld _ :: _,.bool,_,_,h | .fld _ :: _,.str,_,_,h | .fld _ :: _,.arr _ _,_,_,h | .fld _ :: _,.slice _ _,_,_,h=>by simp [tyQ] at h
 | .idx _ :: _,.int _,_,_,h | .idx _ :: _,.bool,_,_,h | .idx _ :: _,.str,_,_,h | .idx _ :: _,.named _,_,_,h | .idx _ :: _,.slice _ _,_,_,h=>by simp [tyQ] at h
theorem putL_getD (l:List Own) (j k:Nat) (o:Own):(putL l j o).getD k .no=if k=j then o else l.getD k .no:=by
 induction l generalizing j k with
 | nil=>
  induction j generalizing k with
  | zero=>cases k<;>simp [putL]
  | succ j ih=>cases k with
   | zero=>simp [putL]
   | succ k=>simpa [putL] using ih k
 | cons x l ih=>
  cases j with
  | zero=>cases k<;>simp [putL]
  | succ j=>cases k with
   | zero=>simp [putL]
   | succ k=>simpa [putL] using ih j k
theorem all_isNo {l:List Own} (h:l.all Own.isNo=true) (j:Nat):l.getD j .no=.no:=by
 induction l generalizing j with
 | nil=>rfl
 | cons o l ih=>
  simp only [List.all_cons,Bool.and_eq_true] at h
  cases j with
  | zero=>cases o<;>first | rfl | (have:=h.1;simp [Own.isNo] at this)
  | succ j=>simpa using ih h.2 j
theorem isNo_eq {o:Own} (h:o.isNo=true):o=.no:=by cases o<;>first | rfl | simp [Own.isNo] at h
theorem VRep.parts {w:World} {F:Nat→Prop} {i:X.ι} {v:X.D i} {o:Own} {cs:List Value} {S:List Nat} (h:VRep (X:=X) w F (.named i) v o cs S):
  ∃ css Ss,cs=cat css (X.fields i).length∧S=cat Ss (X.fields i).length∧∀ j t x,getT (X.fields i) (X.to i v) j=some ⟨t,x⟩→VRep w F t x (o.fldD j) (css j) (Ss j):=by
 cases h with
 | pure h=>cases h with
  | named _ _ css h=>exact ⟨css,fun _=>[],rfl,(cat_nil fun _ _=>rfl).symm,fun j t x hj=>.pure (h j t x hj)⟩
 | st _ _ l css Ss h=>exact ⟨css,Ss,rfl,rfl,h⟩
theorem VRep.ofParts {w:World} {F:Nat→Prop} {i:X.ι} {v:X.D i} (o:Own) {css:Nat→List Value} {Ss:Nat→List Nat} (ho:o=.no∨∃ l,o=.st l)
  (h:∀ j t x,getT (X.fields i) (X.to i v) j=some ⟨t,x⟩→VRep w F t x (o.fldD j) (css j) (Ss j)):VRep (X:=X) w F (.named i) v o (cat css (X.fields i).length) (cat Ss (X.fields i).length):=by
 rcases ho with rfl | ⟨l,rfl⟩
 ·have hS:cat Ss (X.fields i).length=[]:=cat_nil fun j hj=>by
   obtain ⟨y,hy⟩:=getT_some (X.to i v) (List.getElem?_eq_getElem hj)
   exact ((h j _ y hy).toPure rfl).2
  rw [hS]
  exact .pure (.named i v css fun j t x hj=>((h j t x hj).toPure rfl).1)
 ·exact .st i v l css Ss h
theorem getD_dflt {α:Type} {l:List α} {k:Nat} (d:α) (h:k < l.length):l[k]?=some (l.getD k d):=by simp [List.getD_eq_getElem?_getD,h]
theorem offQ_le (hX:TabOk X):∀ {q:List PS} {T T':X.Ty},tyQ q T=some T'→offQ q T+X.sz T'≤X.sz T:=by
 intro q
 induction q with
 | nil=>intro T T' h;simp only [tyQ,Option.some.injEq] at h;subst h;simp [offQ]
 | cons p q ih=>
  intro T T' h
  cases p with
  | fld j=>
   cases T with
   | named i=>
    simp only [tyQ] at h
    cases hf:(X.fields i)[j]? with
    | none=>simp [hf] at h
    | some t=>
     simp [hf] at h
     have h1:=ih h
     have h2:=szs_take (X.fields i) hf
     have h3:X.szs ((X.fields i).take (j+1))≤X.szs (X.fields i):=by
      have gen:∀ (l:List X.Ty) (k:Nat),X.szs (l.take k)≤X.szs l:=fun l=>by
       induction l with
       | nil=>simp
       | cons a l ih=>intro k;cases k with
        | zero=>simp [Tab.szs]
        | succ k=>simp only [List.take_succ_cons,Tab.szs];have:=ih k;omega
      exact gen _ _
     simp only [offQ,hf,Tab.off,Tab.sz,hX.sz]
     omega
   | _=>simp [tyQ] at h
  | idx k=>
   cases T with
   | arr n t=>
    simp only [tyQ] at h
    split at h
    ·rename_i hk
     have h1:=ih h
     have h2:(k+1)*X.sz t≤n*X.sz t:=Nat.mul_le_mul_right _ hk
     simp only [offQ,Tab.sz]
     rw [Nat.succ_mul] at h2
     omega
    ·cases h
   | _=>simp [tyQ] at h
theorem VRep.lens (hX:TabOk X) {w:World} {F:Nat→Prop}:∀ {q:List PS} {T T':X.Ty} {v:X.den T} {o:Own} {cs:List Value} {S:List Nat} {x:X.den T'},VRep w F T v o cs S→tyQ q T=some T'→getQ q T v=some ⟨T',x⟩→
  ∃ c1 cx c2 S1 Sx S2,cs=c1++cx++c2∧c1.length=offQ q T∧S=S1++Sx++S2∧VRep w F T' x (ownAt o q) cx Sx ∧
   ∀ (w':World) (F':Nat→Prop) y o' o1 cx' Sx' v1,(∀ b,F b→F' b)→(∀ b,F b→w'.heap[b]?=w.heap[b]?)→(∀ b∈S,b ∉ Sx→w'.heap[b]?=w.heap[b]?)→S.Nodup→
    VRep w' F' T' y o' cx' Sx'→setQ q T v T' y=some v1→setO o q o'=some o1→VRep w' F' T v1 o1 (c1++cx'++c2) (S1++Sx'++S2)
 | [],T,T',v,o,cs,S,x,h,ht,hg=>by
  simp only [tyQ,Option.some.injEq] at ht
  subst ht
  simp only [getQ,Option.some.injEq,Sigma.mk.injEq,heq_eq_eq,true_and] at hg
  subst hg
  refine ⟨[],cs,[],[],S,[],by simp,rfl,by simp,h,fun w' F' y o' o1 cx' Sx' v1 _ _ _ _ hy hs ho=>?_⟩
  simp only [setQ] at hs
  rw [castT_self] at hs
  simp only [Option.some.injEq] at hs;subst hs
  simp only [setO,Option.some.injEq] at ho
  subst ho
  simpa using hy
 | .fld j :: q,.named i,T',v,o,cs,S,x,h,ht,hg=>by
  simp only [tyQ] at ht
  cases hf:(X.fields i)[j]? with
  | none=>simp [hf] at ht
  | some t=>
   simp [hf] at ht
   obtain ⟨y0,hy0⟩:=getT_some (X.to i v) hf
   have hg':getQ q t y0=some ⟨T',x⟩:=by
    have:=hg
    simp only [getQ] at this
    rw [hy0] at this
    exact this
   have hjl:j < (X.fields i).length:=(List.getElem?_eq_some_iff.1 hf).1
   have hdead:o ≠ .dead:=fun hd=>by subst hd;cases h
   ·obtain ⟨css,Ss,rfl,rfl,hp⟩:=h.parts
    obtain ⟨c1,cx,c2,S1,Sx,S2,e1,e2,e3,e4,e5⟩:=VRep.lens hX (hp j t y0 hy0) ht hg'
    obtain ⟨r,hr1,hr2⟩:=cat_split css hjl
    obtain ⟨rS,hs1,hs2⟩:=cat_split Ss hjl
    refine ⟨cat css j++c1,cx,c2++r,cat Ss j++S1,Sx,S2++rS,by rw [hr1,e1];simp,?_,by rw [hs1,e3];simp,?_,?_⟩
    ·rw [List.length_append,e2]
     simp only [offQ,hf,Tab.off]
     congr 1
     exact cat_szs (fun k t' hk=>by
      obtain ⟨y,hy⟩:=getT_some (X.to i v) hk
      exact (hp k t' y hy).length hX) (Nat.le_of_lt hjl)
    ·exact e4
    ·intro w' F' y o' o1 cx' Sx' v1 hF hw hS hnd hy hset hO
     simp only [setQ] at hset
     rw [hy0] at hset
     simp only [] at hset
     cases hsq:setQ q t y0 T' y with
     | none=>simp [hsq] at hset
     | some z=>
      simp only [hsq] at hset
      cases hst:setT (X.fields i) (X.to i v) j t z with
      | none=>rw [hst] at hset;cases hset
      | some u=>
       rw [hst] at hset
       cases hset
       obtain ⟨k1,k2⟩:=getT_set hst
       have hO':∃ b,setO (o.fldD j) q o'=some b∧o1=if (o.fldD j).isNo&&b.isNo then o else (if (putL o.list j b).all Own.isNo then .no else .st (putL o.list j b)):=by
        have:setO o (.fld j :: q) o'=match setO (o.fldD j) q o' with
          | some b=>if (o.fldD j).isNo&&b.isNo then some o else some (if (putL o.list j b).all Own.isNo then .no else .st (putL o.list j b))
          | none=>none:=by cases o<;>first | rfl | exact absurd rfl hdead
        rw [this] at hO
        split at hO
        ·rename_i b hb
         refine ⟨b,hb,?_⟩
         split at hO
         ·rename_i hc;rw [if_pos hc];simpa using hO.symm
         ·rename_i hc;rw [if_neg hc];simpa using hO.symm
        ·cases hO
       obtain ⟨b,hb,hb1⟩:=hO'
       have hndj:(Ss j).Nodup:=by
        rw [hs1] at hnd
        exact (List.nodup_append.1 (List.nodup_append.1 hnd).1).2.1
       have hnew:=e5 w' F' y o' b cx' Sx' z hF hw (fun b' hb' hn=>hS b' (mem_cat.2 ⟨j,hjl,hb'⟩) hn) hndj hy hsq hb
       have hoth:∀ k t' x',k ≠ j→getT (X.fields i) (X.to i v) k=some ⟨t',x'⟩→VRep w' F' t' x' (o.fldD k) (css k) (Ss k):=fun k t' x' hk hgk=>by
        have hkl:k < (X.fields i).length:=(List.getElem?_eq_some_iff.1 (getT_type hgk)).1
        refine (hp k t' x' hgk).mono hF hw fun b' hb'=>hS b' (mem_cat.2 ⟨k,hkl,hb'⟩) fun hx=>?_
        have hin:b'∈Ss j:=by rw [e3];simp [hx]
        have:∀ n,(cat Ss n).Nodup→∀ a c,a < c→c < n→b'∈Ss a→b'∈Ss c→False:=fun n=>by
         induction n with
         | zero=>intro _ a c _ hc;omega
         | succ n ih=>
          intro hn a c hac hc ha hcc
          rw [cat_succ] at hn
          obtain ⟨n1,n2,n3⟩:=List.nodup_append.1 hn
          by_cases hcn:c=n
          ·subst hcn;exact n3 b' (mem_cat.2 ⟨a,hac,ha⟩) b' hcc rfl
          ·exact ih n1 a c hac (by omega) ha hcc
        rcases Nat.lt_or_ge k j with hlt | hge
        ·exact this _ hnd k j hlt hjl hb' hin
        ·exact this _ hnd j k (by omega) hkl hin hb'
       have key:∀ (oo:Own),(oo=.no∨∃ l,oo=.st l)→oo.fldD j=b→(∀ k,k ≠ j→oo.fldD k=o.fldD k)→VRep (X:=X) w' F' (.named i) (X.of i u) oo (cat css j++c1++cx'++(c2++r)) (cat Ss j++S1++Sx'++(S2++rS)):=fun oo hoo hj1 hj2=>by
        have:=VRep.ofParts (w:=w') (F:=F') (i:=i) (v:=X.of i u) oo (css:=fun k=>if k=j then c1++cx'++c2 else css k) (Ss:=fun k=>if k=j then S1++Sx'++S2 else Ss k) hoo fun k t' x' hgk=>by
         rw [hX.to_of] at hgk
         by_cases hk:k=j
         ·subst hk
          rw [k1] at hgk
          cases hgk
          simp only [if_true,hj1]
          exact hnew
         ·rw [k2 k hk] at hgk
          simp only [hk,if_false]
          rw [hj2 k hk]
          exact hoth k t' x' hk hgk
        rw [hr2 _ fun k hk=>by simp [show k ≠ j by omega],hs2 _ fun k hk=>by simp [show k ≠ j by omega]] at this
        rw [cat_congr (f:=fun k=>if k=j then c1++cx'++c2 else css k) (g:=css) (fun k hk=>by simp [show k ≠ j by omega]),cat_congr (f:=fun k=>if k=j then S1++Sx'++S2 else Ss k) (g:=Ss) (fun k hk=>by simp [show k ≠ j by omega])] at this
        simpa using this
       have hol:∀ k,o.list.getD k .no=o.fldD k:=fun k=>by
        cases o<;>first | rfl | exact absurd rfl hdead
       have hostr:o=.no∨∃ l,o=.st l:=by
        cases o with
        | no=>exact .inl rfl
        | st l=>exact .inr ⟨l,rfl⟩
        | dead=>exact absurd rfl hdead
        | full=>cases h
        | yes g=>cases h
       rw [hb1]
       split
       ·rename_i hc
        rw [Bool.and_eq_true] at hc
        exact key o hostr ((isNo_eq hc.1).trans (isNo_eq hc.2).symm) fun k hk=>rfl
       ·split
        ·rename_i hall
         refine key .no (.inl rfl) ?_ fun k hk=>?_
         ·have:=all_isNo hall j
          rw [putL_getD,if_pos rfl] at this
          exact this.symm
         ·have:=all_isNo hall k
          rw [putL_getD,if_neg hk,hol] at this
          exact this.symm
        ·refine key _ (.inr ⟨_,rfl⟩) ?_ fun k hk=>?_
         ·show (putL o.list j b).getD j .no=b
          rw [putL_getD,if_pos rfl]
         ·show (putL o.list j b).getD k .no=o.fldD k
          rw [putL_getD,if_neg hk,hol]
 | .idx k :: q,.arr n t,T',v,o,cs,S,x,h,ht,hg=>by
  simp only [tyQ] at ht
  split at ht
  ·rename_i hk
   have hkl:k < v.l.length:=by rw [v.h];exact hk
   have hel:v.l[k]?=some (v.l.getD k (X.zero t)):=getD_dflt _ hkl
   cases h with
   | pure h=>cases h with
    | arr _ _ _ css hp=>
     obtain ⟨c1,cx,c2,S1,Sx,S2,e1,e2,e3,e4,e5⟩:=VRep.lens hX (VRep.pure (hp k _ hel)) ht hg
     obtain ⟨r,hr1,hr2⟩:=cat_split css hk
     have hSx:Sx=[]∧S1=[]∧S2=[]:=by
      have:=e3.symm
      simp only [List.append_eq_nil_iff] at this
      exact ⟨this.1.2,this.1.1,this.2⟩
     obtain ⟨rfl,rfl,rfl⟩:=hSx
     refine ⟨cat css k++c1,cx,c2++r,[],[],[],by rw [hr1,e1];simp,?_,rfl,?_,?_⟩
     ·rw [List.length_append,e2]
      simp only [offQ]
      congr 1
      exact cat_length fun j hj=>(hp j _ (List.getElem?_eq_getElem (by omega))).length hX
     ·have h0:∀ q,ownAt .no q=.no:=fun q=>by
       induction q with
       | nil=>rfl
       | cons p q ih=>cases p<;>simp only [ownAt,Own.fldD];exact ih
      rw [h0] at e4 ⊢
      exact e4
     ·intro w' F' y o' o1 cx' Sx' v1 hF hw hS hnd hy hset hO
      simp only [setO,Own.isNo,Bool.true_and] at hO
      split at hO
      ·rename_i hpo
       simp only [Option.some.injEq] at hO;subst hO
       simp only [setQ] at hset
       cases hsq:setQ q t (v.l.getD k (X.zero t)) T' y with
       | none=>rw [hsq] at hset;cases hset
       | some z=>
        rw [hsq] at hset
        cases hset
        obtain ⟨hyp,rfl⟩:=hy.toPure hpo
        have hsO:∀ q,setO .no q .no=some .no:=fun q=>by
         induction q with
         | nil=>rfl
         | cons p q ih=>cases p with
          | fld j=>simp only [setO,Own.fldD,ih];rfl
          | idx j=>rfl
        have hnew:=e5 w' F' y .no .no cx' [] z hF hw (by simp) List.nodup_nil (.pure hyp) hsq (hsO q)
        obtain ⟨hnp,_⟩:=hnew.toPure rfl
        have:PRep w' F' (.arr n t) (Arr.set v k z) (cat (fun j=>if j=k then c1++cx'++c2 else css j) n):=.arr n t _ _ fun j x' hj=>by
         simp only [Arr.set] at hj
         by_cases hjk:j=k
         ·subst hjk
          rw [List.getElem?_set_self hkl] at hj
          cases hj
          simp only [if_true];exact hnp
         ·rw [List.getElem?_set_ne (Ne.symm hjk)] at hj
          simp only [hjk,if_false]
          exact (hp j x' hj).mono hF hw
        rw [hr2 _ fun j hj=>by simp [show j ≠ k by omega],cat_congr (f:=fun j=>if j=k then c1++cx'++c2 else css j) (g:=css) (fun j hj=>by simp [show j ≠ k by omega])] at this
        have:=VRep.pure this
        simpa using this
      ·cases hO
  ·cases ht
 | .fld _ :: _,.int _,_,_,_,_,_,_,_,h,_ | .fld _ :: _,.bool,_,_,_,_,_,_,_,h,_ | .fld _ :: _,.str,_,_,_,_,_,_,_,h,_ | .fld _ :: _,.arr _ _,_,_,_,_,_,_,_,h,_ | .fld _ :: _,.slice _ _,_,_,_,_,_,_,_,h,_=>by simp [tyQ] at h
 | .idx _ :: _,.int _,_,_,_,_,_,_,_,h,_ | .idx _ :: _,.bool,_,_,_,_,_,_,_,h,_ | .idx _ :: _,.str,_,_,_,_,_,_,_,h,_ | .idx _ :: _,.named _,_,_,_,_,_,_,_,h,_ | .idx _ :: _,.slice _ _,_,_,_,_,_,_,_,h,_=>by simp [tyQ] at h
end
end Go.A2
