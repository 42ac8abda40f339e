/- A2Path: two ways into one value. No statement of the seat is proved here. -/
import Derived.Test.YtnpgljilkkipkaaGreatA2Env2
set_option linter.unusedSimpArgs false
set_option linter.unusedVariables false
namespace Go.A2
section
variable {X:Tab}
inductive Div:List PS→List PS→Prop where
 | here (j k:Nat) (q q':List PS) (h:j ≠ k):Div (.fld j :: q) (.fld k :: q')
 | there (j:Nat) (q q':List PS) (h:Div q q'):Div (.fld j :: q) (.fld j :: q')
theorem yW:∀ {q q':List PS} {T T':X.Ty} {b:Nat} {t:X.Ty},tyQ q T=some T'→bj q'=true→tyQ q' T=some (.slice b t)→(∃ r,q'=q++r∧bj r=true)∨Div q q'
 | [],q',_,_,_,_,_,h,_=>.inl ⟨q',rfl,h⟩
 | .fld j :: q,[],T,T',b,t,h,_,h'=>by
  simp only [tyQ,Option.some.injEq] at h';subst h';simp [tyQ] at h
 | .idx j :: q,[],T,T',b,t,h,_,h'=>by
  simp only [tyQ,Option.some.injEq] at h';subst h';simp [tyQ] at h
 | _,.idx k :: q',_,_,_,_,_,hf,_=>by simp [bj] at hf
 | .idx j :: q,.fld k :: q',T,_,_,_,h,_,h'=>by
  cases T<;>simp [tyQ] at h h'
 | .fld j :: q,.fld k :: q',T,T',b,t,h,hf,h'=>by
  cases T with
  | named i=>
   by_cases hjk:j=k
   ·subst hjk
    simp only [tyQ] at h h'
    cases ht:(X.fields i)[j]? with
    | none=>simp [ht] at h
    | some t0=>
     simp [ht] at h h'
     rcases yW h (by simpa [bj] using hf) h' with ⟨r,hr,hr'⟩ | hd
     ·exact .inl ⟨r,by rw [hr];rfl,hr'⟩
     ·exact .inr (.there _ _ _ hd)
   ·exact .inr (.here _ _ _ _ hjk)
  | _=>simp [tyQ] at h
theorem Ix {o m o':Own} {j:Nat} {q:List PS} (h:a9 o (.fld j :: q) o'=some m):o ≠ .dead∧∃ b,a9 (o.fldD j) q o'=some b∧m.fldD j=b∧∀ k,k ≠ j→m.fldD k=o.fldD k:=by
 have hd:o ≠ .dead:=fun hd=>by subst hd;simp [a9] at h
 refine ⟨hd,?_⟩
 have:a9 o (.fld j :: q) o'=match a9 (o.fldD j) q o' with
   | some b=>if (o.fldD j).isNo&&b.isNo then some o else some (if (bC o.list j b).all Own.isNo then .no else .st (bC o.list j b))
   | none=>none:=by cases o<;>first | rfl | exact absurd rfl hd
 rw [this] at h
 have hol:∀ k,o.list.getD k .no=o.fldD k:=fun k=>by cases o<;>first | rfl | exact absurd rfl hd
 cases hb:a9 (o.fldD j) q o' with
 | none=>simp [hb] at h
 | some b=>
  simp only [hb] at h
  refine ⟨b,rfl,?_⟩
  split at h
  ·rename_i hc
   rw [Bool.and_eq_true] at hc
   simp only [Option.some.injEq] at h;subst h
   exact ⟨(pP hc.1).trans (pP hc.2).symm,fun _ _=>rfl⟩
  ·simp only [Option.some.injEq] at h;subst h
   split
   ·rename_i hall
    refine ⟨?_,fun k hk=>?_⟩
    ·have:=nM hall j
     rw [iz,if_pos rfl] at this
     exact this.symm
    ·have:=nM hall k
     rw [iz,if_neg hk,hol] at this
     exact this.symm
   ·refine ⟨?_,fun k hk=>?_⟩
    ·show (bC o.list j b).getD j .no=b
     rw [iz,if_pos rfl]
    ·show (bC o.list j b).getD k .no=o.fldD k
     rw [iz,if_neg hk,hol]
theorem Hg:∀ {q r:List PS} {o m o':Own},a9 o q o'=some m→bj q=true→bf m (q++r)=bf o' r
 | [],r,o,m,o',h,_=>by simp only [a9,Option.some.injEq] at h;subst h;rfl
 | .fld j :: q,r,o,m,o',h,hf=>by
  obtain ⟨_,b,h1,h2,_⟩:=Ix h
  simp only [List.cons_append,bf]
  rw [h2]
  exact Hg h1 (by simpa [bj] using hf)
 | .idx _ :: _,_,_,_,_,_,hf=>by simp [bj] at hf
theorem Qj {q q':List PS} (hd:Div q q'):∀ {o m o':Own},a9 o q o'=some m→bf m q'=bf o q':=by
 induction hd with
 | here j k q q' hjk=>
  intro o m o' h
  obtain ⟨_,b,_,_,h3⟩:=Ix h
  simp only [bf]
  rw [h3 k (Ne.symm hjk)]
 | there j q q' _ ih=>
  intro o m o' h
  obtain ⟨_,b,h1,h2,_⟩:=Ix h
  simp only [bf]
  rw [h2]
  exact ih h1
theorem Iz (hX:TabOk X) {i:X.ι} {v v1:X.D i} {j:Nat} {q:List PS} {T':X.Ty} {y:X.den T'} (h:bg (X:=X) (.fld j :: q) (.named i) v T' y=some v1):
  ∃ t x z,bp (X.fields i) (X.to i v) j=some ⟨t,x⟩∧bg q t x T' y=some z∧bp (X.fields i) (X.to i v1) j=some ⟨t,z⟩∧∀ k,k ≠ j→bp (X.fields i) (X.to i v1) k=bp (X.fields i) (X.to i v) k:=by
 simp only [bg] at h
 split at h
 ·rename_i t x hx
  split at h
  ·rename_i z hz
   cases hs:dG (X.fields i) (X.to i v) j t z with
   | none=>rw [hs] at h;cases h
   | some u=>
    rw [hs] at h
    cases h
    obtain ⟨k1,k2⟩:=GQ hs
    exact ⟨t,x,z,hx,hz,by rw [hX.to_of];exact k1,fun k hk=>by rw [hX.to_of];exact k2 k hk⟩
  ·cases h
 ·cases h
theorem Pv (hX:TabOk X) {q q':List PS} (hd:Div q q'):∀ {T T':X.Ty} {v v1:X.den T} {y:X.den T'},bg q T v T' y=some v1→aS q' T v1=aS q' T v:=by
 induction hd with
 | here j k q q' hjk=>
  intro T T' v v1 y h
  cases T with
  | named i=>
   obtain ⟨t,x,z,_,_,_,h4⟩:=Iz hX h
   simp only [aS]
   rw [h4 k (Ne.symm hjk)]
  | _=>simp [bg] at h
 | there j q q' _ ih=>
  intro T T' v v1 y h
  cases T with
  | named i=>
   obtain ⟨t,x,z,h1,h2,h3,_⟩:=Iz hX h
   simp only [aS]
   rw [h1,h3]
   exact ih h2
  | _=>simp [bg] at h
theorem ada (hX:TabOk X) {q q':List PS} (hd:Div q q'):∀ {T T1 T2:X.Ty},tyQ q T=some T1→tyQ q' T=some T2→aH q' T+X.sz T2≤aH q T∨aH q T+X.sz T1≤aH q' T:=by
 induction hd with
 | here j k q q' hjk=>
  intro T T1 T2 h h'
  cases T with
  | named i=>
   simp only [tyQ] at h h'
   cases ht:(X.fields i)[j]? with
   | none=>simp [ht] at h
   | some t1=>
    cases ht':(X.fields i)[k]? with
    | none=>simp [ht'] at h'
    | some t2=>
     simp [ht] at h
     simp [ht'] at h'
     have l1:=Qh hX h
     have l2:=Qh hX h'
     have s1:=qq (X.fields i) ht
     have s2:=qq (X.fields i) ht'
     have mono:∀ (l:List X.Ty) (a c:Nat),a≤c→X.szs (l.take a)≤X.szs (l.take c):=fun l=>by
      induction l with
      | nil=>simp
      | cons x l ih=>
       intro a c hac
       cases a with
       | zero=>simp [Tab.szs]
       | succ a=>cases c with
        | zero=>omega
        | succ c=>simp only [List.take_succ_cons,Tab.szs];have:=ih a c (by omega);omega
     simp only [aH,ht,ht',Tab.off]
     rcases Nat.lt_or_gt_of_ne hjk with hlt | hgt
     ·have:=mono (X.fields i) (j+1) k hlt
      exact .inr (by omega)
     ·have:=mono (X.fields i) (k+1) j hgt
      exact .inl (by omega)
  | _=>simp [tyQ] at h
 | there j q q' _ ih=>
  intro T T1 T2 h h'
  cases T with
  | named i=>
   simp only [tyQ] at h h'
   cases ht:(X.fields i)[j]? with
   | none=>simp [ht] at h
   | some t1=>
    simp [ht] at h h'
    simp only [aH,ht]
    rcases ih h h' with hh | hh
    ·exact .inl (by omega)
    ·exact .inr (by omega)
  | _=>simp [tyQ] at h
theorem dw:∀ {q:List PS} {T T':X.Ty} {v:X.den T} {x:X.den T'},bj q=true→aS q T v=some ⟨T',x⟩→tyQ q T=some T'
 | [],T,T',v,x,_,h=>by simp only [aS,Option.some.injEq,Sigma.mk.injEq] at h;simp [tyQ,h.1]
 | .idx _ :: _,_,_,_,_,hf,_=>by simp [bj] at hf
 | .fld j :: q,T,T',v,x,hf,h=>by
  cases T with
  | named i=>
   simp only [aS] at h
   cases hg:bp (X.fields i) (X.to i v) j with
   | none=>rw [hg] at h;cases h
   | some y=>
    obtain ⟨t,y⟩:=y
    rw [hg] at h
    simp only [tyQ,dr hg]
    exact dw (by simpa [bj] using hf) h
  | _=>simp [aS] at h
theorem zQ (hX:TabOk X) {q q':List PS} {T T':X.Ty} {v v1:X.den T} {y:X.den T'} {o o' m:Own} {g b:Nat} {t:X.Ty} {l:Sl b (X.den t)} (ht:tyQ q T=some T') (hs:bg q T v T' y=some v1) (hm:a9 o q o'=some m)
  (hf:bj q'=true) (hg:aS q' T v1=some ⟨.slice b t,l⟩) (ho:bf m q'=.yes g) (hn:bA (· ≠ g) o'):Div q q'∧bf o q'=.yes g∧aS q' T v=some ⟨.slice b t,l⟩:=by
 rcases yW ht hf (dw hf hg) with ⟨r,rfl,hr⟩ | hd
 ·exfalso
  have hfq:∀ {q r:List PS},bj (q++r)=true→bj q=true:=fun {q r}=>by
   induction q with
   | nil=>exact fun _=>rfl
   | cons p q ih=>cases p<;>simp only [List.cons_append,bj]<;>first | exact ih | exact fun h=>h
  rw [Hg hm (hfq hf)] at ho
  exact eL hn ho rfl
 ·exact ⟨hd,(Qj hd hm).symm.trans ho,(Pv hX hd hs).symm.trans hg⟩
theorem lG (hX:TabOk X):∀ {q:List PS} {T T':X.Ty} {v:X.den T} {x:X.den T'},tyQ q T=some T'→aS q T v=some ⟨T',x⟩→bg q T v T' x=some v
 | [],T,T',v,x,ht,h=>by
  simp only [aS,Option.some.injEq,Sigma.mk.injEq] at h
  obtain ⟨rfl,h⟩:=h
  cases h
  simp only [bg];exact iY v
 | .fld j :: q,.named i,T',v,x,ht,h=>by
  simp only [tyQ] at ht
  simp only [aS] at h
  cases hg:bp (X.fields i) (X.to i v) j with
  | none=>rw [hg] at h;cases h
  | some y=>
   obtain ⟨t,y⟩:=y
   rw [hg] at h
   rw [dr hg] at ht
   have:=lG hX ht h
   simp only [bg]
   rw [hg]
   simp only []
   rw [this]
   have hst:∀ {ts:List X.Ty} {x:X.Tup ts} {j:Nat} {t:X.Ty} {y:X.den t},bp ts x j=some ⟨t,y⟩→dG ts x j t y=some x:=fun {ts}=>by
    induction ts with
    | nil=>intro x j t y h;simp [bp] at h
    | cons t' ts ih=>
     intro x j t y h
     cases j with
     | zero=>
      simp only [bp,Option.some.injEq,Sigma.mk.injEq] at h
      obtain ⟨rfl,h⟩:=h
      cases h
      simp only [dG];rw [iY];rfl
     | succ j=>
      simp only [dG]
      rw [ih h];rfl
   show Option.map (X.of i) (dG (X.fields i) (X.to i v) j t y)=some v
   rw [hst hg]
   exact congrArg some (hX.of_to i v)
 | .idx k :: q,.arr n t,T',v,x,ht,h=>by
  simp only [tyQ] at ht
  split at ht
  ·rename_i hk
   have hkl:k < v.l.length:=by rw [v.h];exact hk
   have:=lG hX ht h
   simp only [bg]
   rw [this]
   refine congrArg some (Arr.ext ?_)
   show v.l.set k (v.l.getD k (X.zero t))=v.l
   apply List.ext_getElem?
   intro m
   by_cases hm:k=m
   ·subst hm
    rw [List.getElem?_set_self hkl]
    exact (lg _ hkl).symm
   ·rw [List.getElem?_set_ne hm]
  ·cases ht
 | .fld _ :: _,.int _,_,_,_,h,_ | .fld _ :: _,.bool,_,_,_,h,_ | .fld _ :: _,.str,_,_,_,h,_ | .fld _ :: _,.arr _ _,_,_,_,h,_ | .fld _ :: _,.slice _ _,_,_,_,h,_=>by simp [tyQ] at h
 | .idx _ :: _,.int _,_,_,_,h,_ | .idx _ :: _,.bool,_,_,_,h,_ | .idx _ :: _,.str,_,_,_,h,_ | .idx _ :: _,.named _,_,_,_,h,_ | .idx _ :: _,.slice _ _,_,_,_,h,_=>by simp [tyQ] at h
end
end Go.A2
