/- YtnpgljilkkipkaaGreatAud5: caches that may be. No statement of the seat is proved here. -/
import Derived.Test.YtnpgljilkkipkaaGreatAud4
set_option linter.unusedSimpArgs false
set_option linter.unusedVariables false
set_option maxRecDepth 100000
namespace Go.Proofs.YtnpgljilkkipkaaGreat
open Go Go.A2
def x6 (n:Nat) (G:List Nat):Bool:=(List.range n).all fun i=>decide (G.getD i 0 < n)&&(List.range i).all fun j=>!(decide (G.getD j 0=G.getD i 0))
def x7 (n:Nat) (G:List Nat):Bool:=(List.range n).all fun a=>decide (((List.range n).countP fun i=>decide (G.getD i 0=a))=1)
theorem RS:((List.range 5).all fun n=>(List.range 5).all fun a=>(List.range 5).all fun b=>(List.range 5).all fun c=>(List.range 5).all fun d=>!(decide (a≤n)&&decide (b≤n)&&decide (c≤n)&&decide (d≤n)) || (x6 n [a,b,c,d]==x7 n [a,b,c,d]))=true:=by kernel_rfl
theorem cJ {p:Nat→Bool} {n:Nat}:(List.range n).all p=true ↔ ∀ i,i < n→p i=true:=by
 rw [List.all_eq_true];exact ⟨fun h i hi=>h i (List.mem_range.2 hi),fun h i hi=>h i (List.mem_range.1 hi)⟩
def iZ (n:Nat) (x:Int):Nat:=if 0≤x∧x < n then x.toNat else n
theorem SR (n:Nat) (x:Int):iZ n x≤n:=by
 unfold iZ;split
 ·rename_i h;have:=Int.toNat_of_nonneg h.1;omega
 ·exact Nat.le_refl _
theorem SS (n:Nat) (x:Int):iZ n x < n ↔ (0≤x∧x < n):=by
 unfold iZ;split
 ·rename_i h;have:=Int.toNat_of_nonneg h.1;exact ⟨fun _=>h,fun _=>by omega⟩
 ·rename_i h;exact ⟨fun hh=>by omega,fun hh=>absurd hh h⟩
theorem SQ {n a:Nat} (x:Int) (ha:a < n):iZ n x=a ↔ x=a:=by
 unfold iZ;split
 ·rename_i h;have:=Int.toNat_of_nonneg h.1;omega
 ·rename_i h;constructor<;>intro hh<;>omega
theorem Oj {n:Nat} (hn:n≤4) (f:Nat→Int):(∀ i,i < n→(0≤f i∧f i < n)∧∀ j,j < i→f j ≠ f i) ↔ ∀ a:Nat,a < n→((List.range n).countP fun i=>decide (f i=a))=1:=by
 obtain ⟨g,hg0⟩:∃ g:Nat→Nat,∀ i,g i=iZ n (f i):=⟨_,fun _=>rfl⟩
 have hg:∀ i,g i≤n:=fun i=>by rw [hg0];exact SR ..
 have hlt:∀ i,g i < n ↔ (0≤f i∧f i < n):=fun i=>by rw [hg0];exact SS ..
 have heq:∀ i a,a < n→(g i=a ↔ f i=a):=fun i a ha=>by rw [hg0];exact SQ _ ha
 have hget:∀ i,i < n→[g 0,g 1,g 2,g 3].getD i 0=g i:=fun i hi=>by
  have:i=0∨i=1∨i=2∨i=3:=by omega
  rcases this with rfl | rfl | rfl | rfl<;>rfl
 have key:x6 n [g 0,g 1,g 2,g 3]=x7 n [g 0,g 1,g 2,g 3]:=by
  have h1:=cJ.1 RS n (by omega)
  have h2:=cJ.1 (cJ.1 (cJ.1 (cJ.1 h1 (g 0) (by have:=hg 0;omega)) (g 1) (by have:=hg 1;omega)) (g 2) (by have:=hg 2;omega)) (g 3) (by have:=hg 3;omega)
  have h3:(decide (g 0≤n)&&decide (g 1≤n)&&decide (g 2≤n)&&decide (g 3≤n))=true:=by simp [hg]
  rw [h3] at h2
  simpa using h2
 have hL:x6 n [g 0,g 1,g 2,g 3]=true ↔ ∀ i,i < n→(0≤f i∧f i < n)∧∀ j,j < i→f j ≠ f i:=by
  unfold x6
  rw [cJ]
  refine ⟨fun h=>?_,fun h i hi=>?_⟩
  ·have hr:∀ i,i < n→0≤f i∧f i < n:=fun i hi=>by
    have:=h i hi
    rw [Bool.and_eq_true,hget i hi] at this
    exact (hlt i).1 (of_decide_eq_true this.1)
   refine fun i hi=>⟨hr i hi,fun j hj he=>?_⟩
   have:=h i hi
   rw [Bool.and_eq_true,cJ] at this
   have h2:=this.2 j hj
   rw [hget i hi,hget j (by omega)] at h2
   have hgi:=(hlt i).2 (hr i hi)
   have h3:g j=g i:=(heq j (g i) hgi).2 (he.trans ((heq i (g i) hgi).1 rfl))
   rw [h3] at h2;simp at h2
  ·rw [Bool.and_eq_true,cJ,hget i hi]
   refine ⟨decide_eq_true ((hlt i).2 (h i hi).1),fun j hj=>?_⟩
   rw [hget j (by omega)]
   have hgi:=(hlt i).2 (h i hi).1
   have:g j ≠ g i:=fun hh=>(h i hi).2 j hj (((heq j (g i) hgi).1 hh).trans ((heq i (g i) hgi).1 rfl).symm)
   simp [this]
 have hR:x7 n [g 0,g 1,g 2,g 3]=true ↔ ∀ a:Nat,a < n→((List.range n).countP fun i=>decide (f i=a))=1:=by
  unfold x7
  rw [cJ]
  have e:∀ a:Nat,a < n→(List.range n).countP (fun i=>decide ([g 0,g 1,g 2,g 3].getD i 0=a))=(List.range n).countP fun i=>decide (f i=a):=fun a ha=>by
   refine List.countP_congr fun i hi=>?_
   rw [hget i (List.mem_range.1 hi)]
   simp [heq i a ha]
  refine ⟨fun h a ha=>?_,fun h a ha=>?_⟩
  ·have:=h a ha
   rw [e a ha] at this
   exact of_decide_eq_true this
  ·rw [e a ha,h a ha];rfl
 rw [←hL,←hR,key]
def IG (w:TWay):Prop:=W.lt w.State (W.of .i64 0)=false∧W.gt w.State (W.of .i64 3)=false∧(W.eq w.State (W.of .i64 0)=true→W.ne w.Tag (W.of .u32 0)=false∧Tab.eq ab (.arr 16 (.int .u8)) w.Data (Arr.rep 16 (W.of .u8 0):Arr 16 (W .u8))=true)
theorem RB {w:TWay} (h:W.eq w.State (W.of .i64 0)=true):Tab.eq ab (.named .TWay) w (TWay.mk (W.of .i64 0) (W.of .u32 0) (Arr.rep 16 (W.of .u8 0):Arr 16 (W .u8)) w.Age)=true ↔ W.ne w.Tag (W.of .u32 0)=false∧Tab.eq ab (.arr 16 (.int .u8)) w.Data (Arr.rep 16 (W.of .u8 0):Arr 16 (W .u8))=true:=by
 refine (eq_iff (X:=ab) jO (by rfl)).trans ?_
 have e2:Tab.eq ab (.arr 16 (.int .u8)) w.Data (Arr.rep 16 (W.of .u8 0):Arr 16 (W .u8))=true ↔ w.Data=(Arr.rep 16 (W.of .u8 0):Arr 16 (W .u8)):=eq_iff (X:=ab) jO (by rfl)
 rw [e2,W.ne_eq,Bool.not_eq_false',W.eq_iff]
 have hs:=W.eq_iff.1 h
 cases w with
 | mk st tg da ag=>
  simp only at hs ⊢
  subst hs
  constructor
  ·intro hh
   injection hh with _ h2 h3 _
   exact ⟨h2,h3⟩
  ·rintro ⟨rfl,rfl⟩;rfl
def nY (c:TCache) (s:Nat) (l:List TWay) (i:Nat):Prop:=
 ((0≤(nth l i).Age.n∧(nth l i).Age.n < l.length)∧∀ j,j < i→(nth l j).Age.n ≠ (nth l i).Age.n)∧IG (nth l i)∧(W.ne (nth l i).State (W.of .i64 0)=true→bx c (nth l i).Tag=s∧∀ j,j < i→eH (nth l i).Tag (nth l j)=false)
theorem S9 (c:TCache) {s:Nat} (hs:s < c.Sets.l.length):∃ b,jX c (wi s)=some b∧(b=true ↔ (1≤(nth c.Sets.l s).l.length∧(nth c.Sets.l s).l.length≤4)∧∀ i,i < (nth c.Sets.l s).l.length→nY c s (nth c.Sets.l s).l i):=by
 have hsr:=c.Sets.h.2
 unfold jX DP
 simp only [an,ak,ae,aM,Sl.get_wi c.Sets hs,aj]
 generalize hl:nth c.Sets.l s=l
 have hlr:=l.h.2
 have e1:W.lt (Sl.len l) (W.of .i64 1)=decide (l.l.length < 1):=by rw [Sl.len_wi];exact br (m:=1) hlr (by unfold aw;omega)
 have e2:W.gt (Sl.len l) (W.of .i64 4)=decide (4 < l.l.length):=by rw [Sl.len_wi];exact br (n:=4) (by unfold aw;omega) hlr
 simp only [e1,e2,decide_eq_true_eq]
 by_cases h1:l.l.length < 1
 ·rw [if_pos h1];exact ⟨false,rfl,by constructor<;>intro hh;cases hh;omega⟩
 rw [if_neg h1]
 by_cases h2:4 < l.l.length
 ·rw [if_pos h2];exact ⟨false,rfl,by constructor<;>intro hh;cases hh;omega⟩
 rw [if_neg h2]
 have hmk:∃ r,Sl.make? 1 false (Sl.len l) (Sl.len l)=some r∧r.l=List.replicate l.l.length false:=by
  unfold Sl.make? Sl.mk?
  have hn:(Sl.len l).n=l.l.length:=cY l
  have hn2:(Sl.len l).n.toNat=l.l.length:=by rw [hn];rfl
  rw [if_pos (by rw [hn];unfold aw at hlr ⊢;omega),dif_pos (by rw [List.length_replicate,hn2];unfold aw at hlr ⊢;omega)]
  exact ⟨_,rfl,congrArg (fun n=>List.replicate n false) hn2⟩
 obtain ⟨seen0,hm1,hm2⟩:=hmk
 simp only [hm1,aj]
 have key:∃ o,tV (wi s,c,l,seen0,l,Sl.len l,wi 0,())=some o∧(((∀ i,i < l.l.length→nY c s l.l i)∧o=Sum.inr ((),()))∨((¬ ∀ i,i < l.l.length→nY c s l.l i)∧o=Sum.inl (false,()))):=by
  unfold tV
  refine cR (fun i st=>∃ seen:Sl 1 Bool,st=(wi s,c,l,seen,l,Sl.len l,wi i,())∧seen.l.length=l.l.length∧∀ a,a < l.l.length→(seen.l.getD a false=true ↔ ∃ j,j < i∧(nth l.l j).Age.n=a)) l.l.length (fun i=>nY c s l.l i) (·=Sum.inl (false,())) (·=Sum.inr ((),())) ?_ ?_ ⟨seen0,rfl,by rw [hm2,List.length_replicate],fun a ha=>?_⟩ (bt l)
  ·rintro i st hi ⟨seen,rfl,hsl,hsn⟩ hprev
   simp only [qE,ak,an,ae,aK l hi,Sl.get_wi l hi,if_true,aj,aN l hi]
   have hage:W.ge (nth l.l i).Age (Sl.len l)=decide ((l.l.length:Int)≤(nth l.l i).Age.n):=by
    refine bQ ?_
    rw [W.ge_n,cY,decide_eq_true_eq]
   by_cases c1:W.lt (nth l.l i).Age (W.of .i64 0)=true
   ·rw [if_pos c1]
    refine .inr ⟨fun hh=>?_,_,rfl,rfl⟩
    rw [W.lt_n,aB] at c1
    have:=hh.1.1.1;omega
   ·rw [if_neg c1]
    rw [W.lt_n,aB] at c1
    rw [hage]
    by_cases c2:(l.l.length:Int)≤(nth l.l i).Age.n
    ·rw [if_pos (decide_eq_true c2)]
     refine .inr ⟨fun hh=>?_,_,rfl,rfl⟩
     have:=hh.1.1.2;omega
    ·rw [if_neg (by simpa using c2)]
     obtain ⟨a,ha⟩:∃ a:Nat,(nth l.l i).Age.n=a:=⟨(nth l.l i).Age.n.toNat,by omega⟩
     have hal:a < l.l.length:=by omega
     have hix:aI seen.l.length (nth l.l i).Age=some a:=by rw [jw (by rw [ha,hsl];omega),ha];rfl
     simp only [hix,aj]
     have hidx:=hsn a hal
     cases c3:seen.l.getD a false with
     | true=>
      rw [if_pos rfl]
      refine .inr ⟨fun hh=>?_,_,rfl,rfl⟩
      obtain ⟨j,hj,hja⟩:=hidx.1 c3
      exact hh.1.2 j hj (by rw [hja,ha])
     | false=>
      rw [if_neg (by simp)]
      have hdist:∀ j,j < i→(nth l.l j).Age.n ≠ (nth l.l i).Age.n:=fun j hj he=>by
       have:=hidx.2 ⟨j,hj,by rw [he,ha]⟩
       rw [c3] at this;cases this
      have hrng:0≤(nth l.l i).Age.n∧(nth l.l i).Age.n < l.l.length:=⟨by omega,by omega⟩
      by_cases c4:W.lt (nth l.l i).State (W.of .i64 0)=true
      ·rw [if_pos c4]
       exact .inr ⟨fun hh=>(by have:=hh.2.1.1;rw [c4] at this;cases this),_,rfl,rfl⟩
      ·rw [if_neg c4]
       by_cases c5:W.gt (nth l.l i).State (W.of .i64 3)=true
       ·rw [if_pos c5]
        exact .inr ⟨fun hh=>(by have:=hh.2.1.2.1;rw [c5] at this;cases this),_,rfl,rfl⟩
       ·rw [if_neg c5]
        have hnext:∀ st':W .i64×TCache×Sl 40 TWay×Sl 1 Bool×Sl 40 TWay×W .i64×W .i64×Unit,st'=(wi s,c,l,Sl.set seen a true,l,Sl.len l,wi (i+1),())→∃ seen':Sl 1 Bool,st'=(wi s,c,l,seen',l,Sl.len l,wi (i+1),())∧seen'.l.length=l.l.length∧∀ a,a < l.l.length→(seen'.l.getD a false=true ↔ ∃ j,j < i+1∧(nth l.l j).Age.n=a):=fun st' hst=>by
         refine ⟨_,hst,by show (seen.l.set a true).length=_;rw [List.length_set,hsl],fun b hb=>?_⟩
         show (seen.l.set a true).getD b false=true ↔ _
         rw [List.getD_eq_getElem?_getD,List.getElem?_set]
         by_cases hab:a=b
         ·subst hab
          rw [if_pos rfl,if_pos (by omega)]
          exact ⟨fun _=>⟨i,by omega,ha⟩,fun _=>rfl⟩
         ·rw [if_neg hab,←List.getD_eq_getElem?_getD,hsn b hb]
          refine ⟨fun ⟨j,hj,hja⟩=>⟨j,by omega,hja⟩,fun ⟨j,hj,hja⟩=>⟨j,?_,hja⟩⟩
          by_cases hji:j=i
          ·subst hji;omega
          ·omega
        by_cases c6:W.eq (nth l.l i).State (W.of .i64 0)=true
        ·simp only [if_pos c6]
         by_cases c7:Tab.eq ab (.named .TWay) (nth l.l i:TWay) (TWay.mk (W.of .i64 0) (W.of .u32 0) (Arr.rep 16 (W.of .u8 0):Arr 16 (W .u8)) (nth l.l i).Age)=true
         ·rw [if_neg (by rw [c7];simp)]
          refine .inl ⟨⟨⟨hrng,hdist⟩,⟨Bool.eq_false_iff.2 c4,Bool.eq_false_iff.2 c5,fun _=>(RB c6).1 c7⟩,fun hne=>?_⟩,_,rfl,hnext _ rfl⟩
          rw [W.ne_eq,c6] at hne;cases hne
         ·rw [if_pos (by rw [Bool.eq_false_iff.2 c7];rfl)]
          exact .inr ⟨fun hh=>c7 ((RB c6).2 (hh.2.1.2.2 c6)),_,rfl,rfl⟩
        ·simp only [if_neg c6]
         have hne:W.ne (nth l.l i).State (W.of .i64 0)=true:=by rw [W.ne_eq,Bool.eq_false_iff.2 c6];rfl
         simp only [Pd c (nth l.l i).Tag (by omega),Iy c (nth l.l i).Tag (by omega),aj]
         have hslt:=lH c (nth l.l i).Tag (show 0 < c.Sets.l.length by omega)
         have e8:W.ne (wi (bx c (nth l.l i).Tag)) (wi s)=!decide (bx c (nth l.l i).Tag=s):=by rw [W.ne_eq,di (by omega) (by omega)]
         rw [e8]
         by_cases c8:bx c (nth l.l i).Tag=s
         ·rw [if_neg (by simp [c8])]
          have hw:ca c (nth l.l i).Tag=l:=by unfold ca;rw [c8,hl]
          have hself:eH (nth l.l i).Tag (nth l.l i)=true:=by unfold eH;rw [W.eq_self,hne];rfl
          obtain ⟨k,hk⟩:∃ k,cW l.l (nth l.l i).Tag=some k:=by
           cases hf:cW l.l (nth l.l i).Tag with
           | some k=>exact ⟨k,rfl⟩
           | none=>
            unfold cW at hf
            rw [List.find?_eq_none] at hf
            exact absurd hself (hf i (List.mem_range.2 hi))
          obtain ⟨k1,k2,k3⟩:=yv hk
          have hr:(eF c (nth l.l i).Tag).2.1=wi k:=by unfold eF;rw [hw,hk]
          have e9:W.ne (eF c (nth l.l i).Tag).2.1 (wi i)=!decide (k=i):=by rw [hr,W.ne_eq,di (by omega) (by omega)]
          rw [e9]
          by_cases c9:k=i
          ·rw [if_neg (by simp [c9])]
           subst c9
           refine .inl ⟨⟨⟨hrng,hdist⟩,⟨Bool.eq_false_iff.2 c4,Bool.eq_false_iff.2 c5,fun hh=>absurd hh c6⟩,fun _=>⟨c8,k3⟩⟩,_,rfl,hnext _ rfl⟩
          ·rw [if_pos (by simp [c9])]
           refine .inr ⟨fun hh=>?_,_,rfl,rfl⟩
           have:=(hh.2.2 hne).2
           by_cases hki:k < i
           ·have:=this k hki
            rw [k2] at this;cases this
           ·have:=k3 i (by omega)
            rw [hself] at this;cases this
         ·rw [if_pos (by simp [c8])]
          exact .inr ⟨fun hh=>c8 (hh.2.2 hne).1,_,rfl,rfl⟩
  ·rintro st ⟨seen,rfl,_,_⟩ _
   simp only [qE,ak,ae,aO l,Bool.false_eq_true,if_false]
   exact ⟨_,rfl,rfl⟩
  ·rw [hm2]
   constructor
   ·intro hh
    rw [List.getD_eq_getElem?_getD,List.getElem?_replicate] at hh
    split at hh<;>cases hh
   ·rintro ⟨j,hj,_⟩;omega
 obtain ⟨o,k1,k2⟩:=key
 simp only [aY,k1,aj]
 rcases k2 with ⟨hall,rfl⟩ | ⟨hno,rfl⟩
 ·exact ⟨true,rfl,fun _=>⟨by omega,hall⟩,fun _=>rfl⟩
 ·exact ⟨false,rfl,⟨fun hh=>(by cases hh),fun hh=>absurd hh.2 hno⟩⟩
theorem ads (c:TCache) {s:Nat} (hs:s < c.Sets.l.length):∃ b,kg c (wi s)=some b∧(b=true ↔ ∀ a:Nat,a < (nth c.Sets.l s).l.length→((List.range (nth c.Sets.l s).l.length).countP fun i=>decide ((nth (nth c.Sets.l s).l i).Age.n=a))=1):=by
 unfold kg E6
 simp only [an,aM,ae,Sl.get_wi c.Sets hs,aj]
 generalize nth c.Sets.l s=l
 have hlr:=l.h.2
 have inner:∀ a,a < l.l.length→∃ o,uD (l,wi a,wi 0,wi 0,())=some o∧o=(l,wi a,wi ((List.range l.l.length).countP fun i=>decide ((nth l.l i).Age.n=(a:Nat))),()):=fun a ha=>by
  unfold uD
  refine bK (fun i st=>st=(l,wi a,wi ((List.range i).countP fun i=>decide ((nth l.l i).Age.n=(a:Nat))),wi i,())) l.l.length _ ?_ ?_ rfl (bt l)
  ·rintro i st hi rfl
   have hc:(List.range i).countP (fun i=>decide ((nth l.l i).Age.n=(a:Nat)))≤i:=by
    have:=List.countP_le_length (p:=fun i=>decide ((nth l.l i).Age.n=(a:Nat))) (l:=List.range i)
    rwa [List.length_range] at this
   have e1:W.eq (nth l.l i).Age (wi a)=decide ((nth l.l i).Age.n=(a:Nat)):=by
    refine bQ ?_
    rw [W.eq_n,aQ (by omega),decide_eq_true_eq]
   simp only [rB,ak,an,ae,aK l hi,Sl.get_wi l hi,if_true,aj,aN l hi,e1,List.range_succ,List.countP_append,List.countP_singleton]
   by_cases h:(nth l.l i).Age.n=(a:Nat)
   ·simp only [decide_eq_true h,if_true]
    exact ⟨_,rfl,by rw [dc (by omega)]⟩
   ·simp only [decide_eq_false h,Bool.false_eq_true,if_false]
    exact ⟨_,rfl,rfl⟩
  ·rintro st rfl
   simp only [rB,ak,ae,aO l,Bool.false_eq_true,if_false]
   exact ⟨_,rfl,rfl⟩
 have key:∃ o,uE (l,wi 0,())=some o∧(((∀ a:Nat,a < l.l.length→((List.range l.l.length).countP fun i=>decide ((nth l.l i).Age.n=a))=1)∧o=Sum.inr ((),()))∨((¬ ∀ a:Nat,a < l.l.length→((List.range l.l.length).countP fun i=>decide ((nth l.l i).Age.n=a))=1)∧o=Sum.inl (false,()))):=by
  unfold uE
  refine cR (fun a st=>st=(l,wi a,())) l.l.length (fun a=>((List.range l.l.length).countP fun i=>decide ((nth l.l i).Age.n=(a:Nat)))=1) (·=Sum.inl (false,())) (·=Sum.inr ((),())) ?_ ?_ rfl (bt l)
  ·rintro a st ha rfl _
   obtain ⟨o,o1,rfl⟩:=inner a ha
   have hc:(List.range l.l.length).countP (fun i=>decide ((nth l.l i).Age.n=(a:Nat)))≤l.l.length:=by
    have:=List.countP_le_length (p:=fun i=>decide ((nth l.l i).Age.n=(a:Nat))) (l:=List.range l.l.length)
    rwa [List.length_range] at this
   have e1:W.ne (wi ((List.range l.l.length).countP fun i=>decide ((nth l.l i).Age.n=(a:Nat)))) (W.of .i64 1)=!decide (((List.range l.l.length).countP fun i=>decide ((nth l.l i).Age.n=(a:Nat)))=1):=by
    rw [W.ne_eq]
    exact congrArg _ (di (m:=1) (by omega) (by unfold aw;omega))
   simp only [rC,ak,an,ae,aK l ha,if_true,aY,o1,aj,e1,aN l ha]
   by_cases h:((List.range l.l.length).countP fun i=>decide ((nth l.l i).Age.n=(a:Nat)))=1
   ·rw [if_neg (by simp [h])];exact .inl ⟨h,_,rfl,rfl⟩
   ·rw [if_pos (by simp [h])];exact .inr ⟨h,_,rfl,rfl⟩
  ·rintro st rfl _
   simp only [rC,ak,ae,aO l,Bool.false_eq_true,if_false]
   exact ⟨_,rfl,rfl⟩
 obtain ⟨o,k1,k2⟩:=key
 simp only [aY,k1,aj]
 rcases k2 with ⟨hall,rfl⟩ | ⟨hno,rfl⟩
 ·exact ⟨true,rfl,fun _=>hall,fun _=>rfl⟩
 ·exact ⟨false,rfl,⟨fun hh=>(by cases hh),fun hh=>absurd hh hno⟩⟩
def jP (c:TCache) (s:Nat) (l:List TWay) (k:Nat):Prop:=
 IG (nth l k)∧(W.ne (nth l k).State (W.of .i64 0)=true→bx c (nth l k).Tag=s)∧∀ j,j < k→¬ (W.ne (nth l k).State (W.of .i64 0)=true∧W.ne (nth l j).State (W.of .i64 0)=true∧W.eq (nth l k).Tag (nth l j).Tag=true)
theorem adF (c:TCache) {s:Nat} (hs:s < c.Sets.l.length):∃ b,ki c (wi s)=some b∧(b=true ↔ ∀ k,k < (nth c.Sets.l s).l.length→jP c s (nth c.Sets.l s).l k):=by
 have hsr:=c.Sets.h.2
 unfold ki E7
 simp only [an,aM,ae,Sl.get_wi c.Sets hs,aj]
 generalize nth c.Sets.l s=l
 have hlr:=l.h.2
 have hz:(Arr.lit 16 [(W.of .u8 0),(W.of .u8 0),(W.of .u8 0),(W.of .u8 0),(W.of .u8 0),(W.of .u8 0),(W.of .u8 0),(W.of .u8 0),(W.of .u8 0),(W.of .u8 0),(W.of .u8 0),(W.of .u8 0),(W.of .u8 0),(W.of .u8 0),(W.of .u8 0),(W.of .u8 0)] rfl:Arr 16 (W .u8))=Arr.rep 16 (W.of .u8 0):=rfl
 let pairP (k j:Nat):Prop:=¬ (W.ne (nth l.l k).State (W.of .i64 0)=true∧W.ne (nth l.l j).State (W.of .i64 0)=true∧W.eq (nth l.l k).Tag (nth l.l j).Tag=true)
 have inner:∀ k,k < l.l.length→∃ o,iP (wi s,c,l,wi k,wi 0,())=some o∧(((∀ j,j < k→pairP k j)∧o=Sum.inr (wi s,c,(),l,wi k,()))∨((¬ ∀ j,j < k→pairP k j)∧o=Sum.inl (wi s,c,false,l,wi k,()))):=fun k hk=>by
  unfold iP
  refine cR (fun j st=>st=(wi s,c,l,wi k,wi j,())) k (fun j=>pairP k j) (·=Sum.inl (wi s,c,false,l,wi k,())) (·=Sum.inr (wi s,c,(),l,wi k,())) ?_ ?_ rfl (by have:=bt l;omega)
  ·rintro j st hj rfl _
   have hlt:W.lt (wi j) (wi k)=true:=by rw [br (by omega) (by omega)];exact decide_eq_true hj
   simp only [rD,ak,an,ae,hlt,Sl.get_wi l hk,Sl.get_wi l (show j < l.l.length by omega),if_true,aj,aN l (show j < l.l.length by omega)]
   by_cases h1:W.ne (nth l.l k).State (W.of .i64 0)=true
   ·by_cases h2:W.ne (nth l.l j).State (W.of .i64 0)=true
    ·by_cases h3:W.eq (nth l.l k).Tag (nth l.l j).Tag=true
     ·simp only [if_pos h1,if_pos h2,if_pos h3];exact .inr ⟨fun hh=>hh ⟨h1,h2,h3⟩,_,rfl,rfl⟩
     ·simp only [if_pos h1,if_pos h2,if_neg h3];exact .inl ⟨fun hh=>h3 hh.2.2,_,rfl,rfl⟩
    ·simp only [if_pos h1,if_neg h2];exact .inl ⟨fun hh=>h2 hh.2.1,_,rfl,rfl⟩
   ·simp only [if_neg h1];exact .inl ⟨fun hh=>h1 hh.1,_,rfl,rfl⟩
  ·rintro st rfl _
   have hlt:W.lt (wi k) (wi k)=false:=by rw [br (by omega) (by omega)];simp
   simp only [rD,ak,ae,hlt,Bool.false_eq_true,if_false]
   exact ⟨_,rfl,rfl⟩
 have key:∃ o,uF (wi s,c,l,wi 0,())=some o∧(((∀ k,k < l.l.length→jP c s l.l k)∧o=Sum.inr ((),()))∨((¬ ∀ k,k < l.l.length→jP c s l.l k)∧o=Sum.inl (false,()))):=by
  unfold uF
  refine cR (fun k st=>st=(wi s,c,l,wi k,())) l.l.length (fun k=>jP c s l.l k) (·=Sum.inl (false,())) (·=Sum.inr ((),())) ?_ ?_ rfl (bt l)
  ·rintro k st hk rfl _
   obtain ⟨o,o1,o2⟩:=inner k hk
   simp only [rE,ak,an,ae,aM,aK l hk,Sl.get_wi l hk,if_true,aj,hz,aY,o1]
   have fin:IG (nth l.l k)→(W.ne (nth l.l k).State (W.of .i64 0)=true→bx c (nth l.l k).Tag=s)→((jP c s l.l k∧∃ s',Sum.elim (fun a:W .i64×TCache×Bool×Sl 40 TWay×W .i64×Unit=>(some (Rnd.out (Sum.inl (a.2.2.1,()))):Option (Rnd (W .i64×TCache×Sl 40 TWay×W .i64×Unit) ((Bool×Unit)⊕(Unit×Unit))))) (fun b:W .i64×TCache×Unit×Sl 40 TWay×W .i64×Unit=>some (Rnd.next (b.1,b.2.1,b.2.2.2.1,W.add b.2.2.2.2.1 (W.of .i64 1),()))) o=some (Rnd.next s')∧s'=(wi s,c,l,wi (k+1),()))∨(¬ jP c s l.l k∧∃ b,Sum.elim (fun a:W .i64×TCache×Bool×Sl 40 TWay×W .i64×Unit=>(some (Rnd.out (Sum.inl (a.2.2.1,()))):Option (Rnd (W .i64×TCache×Sl 40 TWay×W .i64×Unit) ((Bool×Unit)⊕(Unit×Unit))))) (fun b:W .i64×TCache×Unit×Sl 40 TWay×W .i64×Unit=>some (Rnd.next (b.1,b.2.1,b.2.2.2.1,W.add b.2.2.2.2.1 (W.of .i64 1),()))) o=some (Rnd.out b)∧b=Sum.inl (false,()))):=fun h1 h2=>by
    rcases o2 with ⟨hall,rfl⟩ | ⟨hno,rfl⟩
    ·exact .inl ⟨⟨h1,h2,hall⟩,_,rfl,by rw [aN l hk]⟩
    ·exact .inr ⟨fun hh=>hno hh.2.2,_,rfl,rfl⟩
   by_cases c1:W.lt (nth l.l k).State (wi 0)=true
   ·simp only [if_pos c1]
    exact .inr ⟨fun hh=>(by have:=hh.1.1;rw [aY,c1] at this;cases this),_,rfl,rfl⟩
   by_cases c2:W.gt (nth l.l k).State (W.of .i64 3)=true
   ·simp only [if_neg c1,if_pos c2]
    exact .inr ⟨fun hh=>(by have:=hh.1.2.1;rw [c2] at this;cases this),_,rfl,rfl⟩
   by_cases c3:W.eq (nth l.l k).State (wi 0)=true
   ·have c3':¬ W.ne (nth l.l k).State (wi 0)=true:=by rw [W.ne_eq,c3];simp
    by_cases c4:W.ne (nth l.l k).Tag (W.of .u32 0)=true
    ·simp only [if_neg c1,if_neg c2,if_pos c3,if_pos c4]
     exact .inr ⟨fun hh=>(by have:=(hh.1.2.2 c3).1;rw [c4] at this;cases this),_,rfl,rfl⟩
    by_cases c5:Tab.eq ab (.arr 16 (.int .u8)) (nth l.l k).Data (Arr.rep 16 (W.of .u8 0):Arr 16 (W .u8))=true
    ·simp only [if_neg c1,if_neg c2,if_pos c3,if_neg c4,c5,Bool.not_true,Bool.false_eq_true,if_false,if_neg c3']
     exact fin ⟨Bool.eq_false_iff.2 c1,Bool.eq_false_iff.2 c2,fun _=>⟨Bool.eq_false_iff.2 c4,c5⟩⟩ fun hh=>absurd hh c3'
    ·simp only [if_neg c1,if_neg c2,if_pos c3,if_neg c4,Bool.eq_false_iff.2 c5,Bool.not_false,if_true]
     exact .inr ⟨fun hh=>c5 (hh.1.2.2 c3).2,_,rfl,rfl⟩
   ·have c3':W.ne (nth l.l k).State (wi 0)=true:=by rw [W.ne_eq,Bool.eq_false_iff.2 c3];rfl
    have hslt:=lH c (nth l.l k).Tag (show 0 < c.Sets.l.length by omega)
    have e8:W.ne (wi (bx c (nth l.l k).Tag)) (wi s)=!decide (bx c (nth l.l k).Tag=s):=by rw [W.ne_eq,di (by omega) (by omega)]
    simp only [if_neg c1,if_neg c2,if_neg c3,if_pos c3',Q9 c (nth l.l k).Tag (show 0 < c.Sets.l.length by omega),aj,e8]
    by_cases c8:bx c (nth l.l k).Tag=s
    ·rw [if_neg (by simp [c8])]
     exact fin ⟨Bool.eq_false_iff.2 c1,Bool.eq_false_iff.2 c2,fun hh=>absurd hh c3⟩ fun _=>c8
    ·rw [if_pos (by simp [c8])]
     exact .inr ⟨fun hh=>c8 (hh.2.1 c3'),_,rfl,rfl⟩
  ·rintro st rfl _
   simp only [rE,ak,ae,aO l,Bool.false_eq_true,if_false]
   exact ⟨_,rfl,rfl⟩
 obtain ⟨o,k1,k2⟩:=key
 simp only [aY,k1,aj]
 rcases k2 with ⟨hall,rfl⟩ | ⟨hno,rfl⟩
 ·exact ⟨true,rfl,fun _=>hall,fun _=>rfl⟩
 ·exact ⟨false,rfl,⟨fun hh=>(by cases hh),fun hh=>absurd hh hno⟩⟩
end Go.Proofs.YtnpgljilkkipkaaGreat
