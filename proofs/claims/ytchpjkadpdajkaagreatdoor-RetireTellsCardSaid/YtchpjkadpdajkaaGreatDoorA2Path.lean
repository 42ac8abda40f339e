/- A2Path: two ways into one value. No statement of the seat is proved here. -/
import Derived.Test.YtchpjkadpdajkaaGreatDoorA2Env2
set_option linter.unusedSimpArgs false
set_option linter.unusedVariables false
namespace Go.A2
section
variable {X:Tab}
inductive Div:List PS→List PS→Prop where
 | here (j k:Nat) (q q':List PS) (h:j ≠ k):Div (.fld j :: q) (.fld k :: q')
 | there (j:Nat) (q q':List PS) (h:Div q q'):Div (.fld j :: q) (.fld j :: q')
theorem path_cases:∀ {q q':List PS} {T T':X.Ty} {b:Nat} {t:X.Ty},tyQ q T=some T'→onlyFld q'=true→tyQ q' T=some (.slice b t)→(∃ r,q'=q++r∧onlyFld r=true)∨Div q q'
 | [],q',_,_,_,_,_,h,_=>.inl ⟨q',rfl,h⟩
 | .fld j :: q,[],T,T',b,t,h,_,h'=>by
  simp only [tyQ,Option.some.injEq] at h';subst h';simp [tyQ] at h
 | .idx j :: q,[],T,T',b,t,h,_,h'=>by
  simp only [tyQ,Option.some.injEq] at h';subst h';simp [tyQ] at h
 | _,.idx k :: q',_,_,_,_,_,hf,_=>by simp [onlyFld] at hf
 | .idx j :: q,.fld k :: q',T,_,_,_,h,_,h'=>by
  cases T<;>simp [tyQ] at h h'
 | .fld j :: q,.fld k :: q',T,T',b,t,h,hf,h'=>by
  cases T with
  | named i=>
   by_cases hjk:j=k
   ·subst hjk
    simp only [tyQ] at h h'
    cases ht:(X.fields i)[j]? with
    | none=>simp [ht] at h
    | some t0=>
     simp [ht] at h h'
     rcases path_cases h (by simpa [onlyFld] using hf) h' with ⟨r,hr,hr'⟩ | hd
     ·exact .inl ⟨r,by rw [hr];rfl,hr'⟩
     ·exact .inr (.there _ _ _ hd)
   ·exact .inr (.here _ _ _ _ hjk)
  | _=>simp [tyQ] at h
theorem setO_fld {o m o':Own} {j:Nat} {q:List PS} (h:setO o (.fld j :: q) o'=some m):o ≠ .dead∧∃ b,setO (o.fldD j) q o'=some b∧m.fldD j=b∧∀ k,k ≠ j→m.fldD k=o.fldD k:=by
 have hd:o ≠ .dead:=fun hd=>by subst hd;simp [setO] at h
 refine ⟨hd,?_⟩
 have:setO o (.fld j :: q) o'=match setO (o.fldD j) q o' with
   | some b=>if (o.fldD j).isNo&&b.isNo then some o else some (if (putL o.list j b).all Own.isNo then .no else .st (putL o.list j b))
   | none=>none:=by cases o<;>first | rfl | exact absurd rfl hd
 rw [this] at h
 have hol:∀ k,o.list.getD k .no=o.fldD k:=fun k=>by cases o<;>first | rfl | exact absurd rfl hd
 cases hb:setO (o.fldD j) q o' with
 | none=>simp [hb] at h
 | some b=>
  simp only [hb] at h
  refine ⟨b,rfl,?_⟩
  split at h
  ·rename_i hc
   rw [Bool.and_eq_true] at hc
   simp only [Option.some.injEq] at h;subst h
   exact ⟨(isNo_eq hc.1).trans (isNo_eq hc.2).symm,fun _ _=>rfl⟩
  ·simp only [Option.some.injEq] at h;subst h
   split
   ·rename_i hall
    refine ⟨?_,fun k hk=>?_⟩
    ·have:=all_isNo hall j
     rw [putL_getD,if_pos rfl] at this
     exact this.symm
    ·have:=all_isNo hall k
     rw [putL_getD,if_neg hk,hol] at this
     exact this.symm
   ·refine ⟨?_,fun k hk=>?_⟩
    ·show (putL o.list j b).getD j .no=b
     rw [putL_getD,if_pos rfl]
    ·show (putL o.list j b).getD k .no=o.fldD k
     rw [putL_getD,if_neg hk,hol]
theorem ownAt_ext:∀ {q r:List PS} {o m o':Own},setO o q o'=some m→onlyFld q=true→ownAt m (q++r)=ownAt o' r
 | [],r,o,m,o',h,_=>by simp only [setO,Option.some.injEq] at h;subst h;rfl
 | .fld j :: q,r,o,m,o',h,hf=>by
  obtain ⟨_,b,h1,h2,_⟩:=setO_fld h
  simp only [List.cons_append,ownAt]
  rw [h2]
  exact ownAt_ext h1 (by simpa [onlyFld] using hf)
 | .idx _ :: _,_,_,_,_,_,hf=>by simp [onlyFld] at hf
theorem ownAt_div {q q':List PS} (hd:Div q q'):∀ {o m o':Own},setO o q o'=some m→ownAt m q'=ownAt o q':=by
 induction hd with
 | here j k q q' hjk=>
  intro o m o' h
  obtain ⟨_,b,_,_,h3⟩:=setO_fld h
  simp only [ownAt]
  rw [h3 k (Ne.symm hjk)]
 | there j q q' _ ih=>
  intro o m o' h
  obtain ⟨_,b,h1,h2,_⟩:=setO_fld h
  simp only [ownAt]
  rw [h2]
  exact ih h1
theorem setQ_fld (hX:TabOk X) {i:X.ι} {v v1:X.D i} {j:Nat} {q:List PS} {T':X.Ty} {y:X.den T'} (h:setQ (X:=X) (.fld j :: q) (.named i) v T' y=some v1):
  ∃ t x z,getT (X.fields i) (X.to i v) j=some ⟨t,x⟩∧setQ q t x T' y=some z∧getT (X.fields i) (X.to i v1) j=some ⟨t,z⟩∧∀ k,k ≠ j→getT (X.fields i) (X.to i v1) k=getT (X.fields i) (X.to i v) k:=by
 simp only [setQ] at h
 split at h
 ·rename_i t x hx
  split at h
  ·rename_i z hz
   cases hs:setT (X.fields i) (X.to i v) j t z with
   | none=>rw [hs] at h;cases h
   | some u=>
    rw [hs] at h
    cases h
    obtain ⟨k1,k2⟩:=getT_set hs
    exact ⟨t,x,z,hx,hz,by rw [hX.to_of];exact k1,fun k hk=>by rw [hX.to_of];exact k2 k hk⟩
  ·cases h
 ·cases h
theorem getQ_div (hX:TabOk X) {q q':List PS} (hd:Div q q'):∀ {T T':X.Ty} {v v1:X.den T} {y:X.den T'},setQ q T v T' y=some v1→getQ q' T v1=getQ q' T v:=by
 induction hd with
 | here j k q q' hjk=>
  intro T T' v v1 y h
  cases T with
  | named i=>
   obtain ⟨t,x,z,_,_,_,h4⟩:=setQ_fld hX h
   simp only [getQ]
   rw [h4 k (Ne.symm hjk)]
  | _=>simp [setQ] at h
 | there j q q' _ ih=>
  intro T T' v v1 y h
  cases T with
  | named i=>
   obtain ⟨t,x,z,h1,h2,h3,_⟩:=setQ_fld hX h
   simp only [getQ]
   rw [h1,h3]
   exact ih h2
  | _=>simp [setQ] at h
theorem off_div (hX:TabOk X) {q q':List PS} (hd:Div q q'):∀ {T T1 T2:X.Ty},tyQ q T=some T1→tyQ q' T=some T2→offQ q' T+X.sz T2≤offQ q T∨offQ q T+X.sz T1≤offQ q' T:=by
 induction hd with
 | here j k q q' hjk=>
  intro T T1 T2 h h'
  cases T with
  | named i=>
   simp only [tyQ] at h h'
   cases ht:(X.fields i)[j]? with
   | none=>simp [ht] at h
   | some t1=>
    cases ht':(X.fields i)[k]? with
    | none=>simp [ht'] at h'
    | some t2=>
     simp [ht] at h
     simp [ht'] at h'
     have l1:=offQ_le hX h
     have l2:=offQ_le hX h'
     have s1:=szs_take (X.fields i) ht
     have s2:=szs_take (X.fields i) ht'
     have mono:∀ (l:List X.Ty) (a c:Nat),a≤c→X.szs (l.take a)≤X.szs (l.take c):=fun l=>by
      induction l with
      | nil=>simp
      | cons x l ih=>
       intro a c hac
       cases a with
       | zero=>simp [Tab.szs]
       | succ a=>cases c with
        | zero=>omega
        | succ c=>simp only [List.take_succ_cons,Tab.szs];have:=ih a c (by omega);omega
     simp only [offQ,ht,ht',Tab.off]
     rcases Nat.lt_or_gt_of_ne hjk with hlt | hgt
     ·have:=mono (X.fields i) (j+1) k hlt
      exact .inr (by omega)
     ·have:=mono (X.fields i) (k+1) j hgt
      exact .inl (by omega)
  | _=>simp [tyQ] at h
 | there j q q' _ ih=>
  intro T T1 T2 h h'
  cases T with
  | named i=>
   simp only [tyQ] at h h'
   cases ht:(X.fields i)[j]? with
   | none=>simp [ht] at h
   | some t1=>
    simp [ht] at h h'
    simp only [offQ,ht]
    rcases ih h h' with hh | hh
    ·exact .inl (by omega)
    ·exact .inr (by omega)
  | _=>simp [tyQ] at h
theorem tyQ_of_getQ:∀ {q:List PS} {T T':X.Ty} {v:X.den T} {x:X.den T'},onlyFld q=true→getQ q T v=some ⟨T',x⟩→tyQ q T=some T'
 | [],T,T',v,x,_,h=>by simp only [getQ,Option.some.injEq,Sigma.mk.injEq] at h;simp [tyQ,h.1]
 | .idx _ :: _,_,_,_,_,hf,_=>by simp [onlyFld] at hf
 | .fld j :: q,T,T',v,x,hf,h=>by
  cases T with
  | named i=>
   simp only [getQ] at h
   cases hg:getT (X.fields i) (X.to i v) j with
   | none=>rw [hg] at h;cases h
   | some y=>
    obtain ⟨t,y⟩:=y
    rw [hg] at h
    simp only [tyQ,getT_type hg]
    exact tyQ_of_getQ (by simpa [onlyFld] using hf) h
  | _=>simp [getQ] at h
theorem turned (hX:TabOk X) {q q':List PS} {T T':X.Ty} {v v1:X.den T} {y:X.den T'} {o o' m:Own} {g b:Nat} {t:X.Ty} {l:Sl b (X.den t)} (ht:tyQ q T=some T') (hs:setQ q T v T' y=some v1) (hm:setO o q o'=some m)
  (hf:onlyFld q'=true) (hg:getQ q' T v1=some ⟨.slice b t,l⟩) (ho:ownAt m q'=.yes g) (hn:OGen (· ≠ g) o'):Div q q'∧ownAt o q'=.yes g∧getQ q' T v=some ⟨.slice b t,l⟩:=by
 rcases path_cases ht hf (tyQ_of_getQ hf hg) with ⟨r,rfl,hr⟩ | hd
 ·exfalso
  have hfq:∀ {q r:List PS},onlyFld (q++r)=true→onlyFld q=true:=fun {q r}=>by
   induction q with
   | nil=>exact fun _=>rfl
   | cons p q ih=>cases p<;>simp only [List.cons_append,onlyFld]<;>first | exact ih | exact fun h=>h
  rw [ownAt_ext hm (hfq hf)] at ho
  exact ownAt_gen hn ho rfl
 ·exact ⟨hd,(ownAt_div hd hm).symm.trans ho,(getQ_div hX hd hs).symm.trans hg⟩
theorem setQ_self (hX:TabOk X):∀ {q:List PS} {T T':X.Ty} {v:X.den T} {x:X.den T'},tyQ q T=some T'→getQ q T v=some ⟨T',x⟩→setQ q T v T' x=some v
 | [],T,T',v,x,ht,h=>by
  simp only [getQ,Option.some.injEq,Sigma.mk.injEq] at h
  obtain ⟨rfl,h⟩:=h
  cases h
  simp only [setQ];exact castT_self v
 | .fld j :: q,.named i,T',v,x,ht,h=>by
  simp only [tyQ] at ht
  simp only [getQ] at h
  cases hg:getT (X.fields i) (X.to i v) j with
  | none=>rw [hg] at h;cases h
  | some y=>
   obtain ⟨t,y⟩:=y
   rw [hg] at h
   rw [getT_type hg] at ht
   have:=setQ_self hX ht h
   simp only [setQ]
   rw [hg]
   simp only []
   rw [this]
   have hst:∀ {ts:List X.Ty} {x:X.Tup ts} {j:Nat} {t:X.Ty} {y:X.den t},getT ts x j=some ⟨t,y⟩→setT ts x j t y=some x:=fun {ts}=>by
    induction ts with
    | nil=>intro x j t y h;simp [getT] at h
    | cons t' ts ih=>
     intro x j t y h
     cases j with
     | zero=>
      simp only [getT,Option.some.injEq,Sigma.mk.injEq] at h
      obtain ⟨rfl,h⟩:=h
      cases h
      simp only [setT];rw [castT_self];rfl
     | succ j=>
      simp only [setT]
      rw [ih h];rfl
   show Option.map (X.of i) (setT (X.fields i) (X.to i v) j t y)=some v
   rw [hst hg]
   exact congrArg some (hX.of_to i v)
 | .idx k :: q,.arr n t,T',v,x,ht,h=>by
  simp only [tyQ] at ht
  split at ht
  ·rename_i hk
   have hkl:k < v.l.length:=by rw [v.h];exact hk
   have:=setQ_self hX ht h
   simp only [setQ]
   rw [this]
   refine congrArg some (Arr.ext ?_)
   show v.l.set k (v.l.getD k (X.zero t))=v.l
   apply List.ext_getElem?
   intro m
   by_cases hm:k=m
   ·subst hm
    rw [List.getElem?_set_self hkl]
    exact (getD_dflt _ hkl).symm
   ·rw [List.getElem?_set_ne hm]
  ·cases ht
 | .fld _ :: _,.int _,_,_,_,h,_ | .fld _ :: _,.bool,_,_,_,h,_ | .fld _ :: _,.str,_,_,_,h,_ | .fld _ :: _,.arr _ _,_,_,_,h,_ | .fld _ :: _,.slice _ _,_,_,_,h,_=>by simp [tyQ] at h
 | .idx _ :: _,.int _,_,_,_,h,_ | .idx _ :: _,.bool,_,_,_,h,_ | .idx _ :: _,.str,_,_,_,h,_ | .idx _ :: _,.named _,_,_,_,h,_ | .idx _ :: _,.slice _ _,_,_,_,h,_=>by simp [tyQ] at h
end
end Go.A2
