/- YtnpgljilkkipkaaGreatAud6: caches, and lines that fit. No statement of the seat is proved here. -/
import Derived.Test.YtnpgljilkkipkaaGreatAud5
set_option linter.unusedSimpArgs false
set_option linter.unusedVariables false
set_option maxRecDepth 100000
namespace Go.Proofs.YtnpgljilkkipkaaGreat
open Go Go.A2
theorem cg {n:Nat} (h:n≤1000):n≤aw:=by unfold aw;omega
theorem Gm (c:TCache):∃ b,jW c=some b∧mD c=some b∧(b=true→0 < c.Sets.l.length):=by
 have hr:=c.Sets.h.2
 have e1:W.lt (Sl.len c.Sets) (W.of .i64 1)=decide (c.Sets.l.length < 1):=by rw [Sl.len_wi];exact br (m:=1) hr (cg (by omega))
 have e2:W.gt (Sl.len c.Sets) (W.of .i64 8)=decide (8 < c.Sets.l.length):=by rw [Sl.len_wi];exact br (n:=8) (cg (by omega)) hr
 unfold jW DN mD E5
 simp only [ak,an,ae,aM,e1,e2,decide_eq_true_eq]
 by_cases h1:c.Sets.l.length < 1
 ·rw [if_pos h1,if_pos h1];exact ⟨false,rfl,rfl,fun h=>by cases h⟩
 rw [if_neg h1,if_neg h1]
 by_cases h2:8 < c.Sets.l.length
 ·rw [if_pos h2,if_pos h2];exact ⟨false,rfl,rfl,fun h=>by cases h⟩
 rw [if_neg h2,if_neg h2]
 obtain ⟨N,hN⟩:∃ N:Nat→Nat,∀ s,N s=(nth c.Sets.l s).l.length:=⟨_,fun _=>rfl⟩
 obtain ⟨f,hf⟩:∃ f:Nat→Bool,∀ s,s < c.Sets.l.length→jX c (wi s)=some (f s)∧(f s=true ↔ (1≤(nth c.Sets.l s).l.length∧(nth c.Sets.l s).l.length≤4)∧∀ i,i < (nth c.Sets.l s).l.length→nY c s (nth c.Sets.l s).l i):=
  ⟨fun s=>(jX c (wi s)).getD false,fun s hs=>by obtain ⟨b,b1,b2⟩:=S9 c hs;dsimp only;rw [b1];exact ⟨rfl,b2⟩⟩
 obtain ⟨g,hg⟩:∃ g:Nat→Bool,∀ s,s < c.Sets.l.length→kg c (wi s)=some (g s)∧(g s=true ↔ ∀ a:Nat,a < (nth c.Sets.l s).l.length→((List.range (nth c.Sets.l s).l.length).countP fun i=>decide ((nth (nth c.Sets.l s).l i).Age.n=a))=1):=
  ⟨fun s=>(kg c (wi s)).getD false,fun s hs=>by obtain ⟨b,b1,b2⟩:=ads c hs;dsimp only;rw [b1];exact ⟨rfl,b2⟩⟩
 obtain ⟨t,ht⟩:∃ t:Nat→Bool,∀ s,s < c.Sets.l.length→ki c (wi s)=some (t s)∧(t s=true ↔ ∀ k,k < (nth c.Sets.l s).l.length→jP c s (nth c.Sets.l s).l k):=
  ⟨fun s=>(ki c (wi s)).getD false,fun s hs=>by obtain ⟨b,b1,b2⟩:=adF c hs;dsimp only;rw [b1];exact ⟨rfl,b2⟩⟩
 have hpt:∀ s,s < c.Sets.l.length→(f s=true ↔ (1≤N s∧N s≤4)∧g s=true∧t s=true):=fun s hs=>by
  rw [(hf s hs).2,(hg s hs).2,(ht s hs).2,hN]
  generalize nth c.Sets.l s=l
  constructor
  ·rintro ⟨hn,hall⟩
   refine ⟨hn,(Oj hn.2 fun i=>(nth l.l i).Age.n).1 fun i hi=>(hall i hi).1,fun k hk=>⟨(hall k hk).2.1,fun hne=>((hall k hk).2.2 hne).1,fun j hj ⟨a1,a2,a3⟩=>?_⟩⟩
   have:=((hall k hk).2.2 a1).2 j hj
   unfold eH at this
   rw [a2,Bool.and_true,W.eq_iff.2 (W.eq_iff.1 a3).symm] at this
   cases this
  ·rintro ⟨hn,hag,htg⟩
   have hag':=(Oj hn.2 fun i=>(nth l.l i).Age.n).2 hag
   refine ⟨hn,fun i hi=>⟨hag' i hi,(htg i hi).1,fun hne=>⟨(htg i hi).2.1 hne,fun j hj=>?_⟩⟩⟩
   rw [Bool.eq_false_iff]
   intro hh
   unfold eH at hh
   rw [Bool.and_eq_true] at hh
   exact (htg i hi).2.2 j hj ⟨hne,hh.2,W.eq_iff.2 (W.eq_iff.1 hh.1).symm⟩
 have e3:∀ s,s < c.Sets.l.length→W.ne (Sl.len (nth c.Sets.l s)) (Sl.len (nth c.Sets.l 0))=!decide (N s=N 0):=fun s _=>by
  rw [W.ne_eq,Sl.len_wi,Sl.len_wi,di (nth c.Sets.l s).h.2 (nth c.Sets.l 0).h.2,hN,hN]
 have e4:∀ s,W.lt (Sl.len (nth c.Sets.l s)) (W.of .i64 1)=decide (N s < 1):=fun s=>by rw [Sl.len_wi,hN];exact br (m:=1) (nth c.Sets.l s).h.2 (cg (by omega))
 have e5:∀ s,W.gt (Sl.len (nth c.Sets.l s)) (W.of .i64 4)=decide (4 < N s):=fun s=>by rw [Sl.len_wi,hN];exact br (n:=4) (cg (by omega)) (nth c.Sets.l s).h.2
 have h0:0 < c.Sets.l.length:=by omega
 have k1:tU (c,Sl.len c.Sets,wi 0,())=some (if (List.range c.Sets.l.length).all (fun s=>decide (N s=N 0)&&f s)=true then Sum.inr ((),()) else Sum.inl (false,())):=by
  unfold tU
  refine bS (fun s=>(c,Sl.len c.Sets,wi s,())) _ _ (Sum.inl (false,())) (Sum.inr ((),())) (fun s hs _=>?_) (fun _=>?_) (bt _)
  ·simp only [qD,ak,an,ae,aK _ hs,Sl.get_wi _ hs,aY,Sl.get_wi _ h0,if_true,aj,e3 s hs,(hf s hs).1,aN _ hs]
   by_cases a:N s=N 0
   ·simp only [decide_eq_true a,Bool.not_true,Bool.false_eq_true,if_false,Bool.true_and]
    cases f s<;>rfl
   ·simp only [decide_eq_false a,Bool.not_false,if_true,Bool.false_and,Bool.false_eq_true,if_false]
  ·simp only [qD,ak,ae,aO,Bool.false_eq_true,if_false]
 have k2:uC (c,wi 0,())=some (if (List.range c.Sets.l.length).all (fun s=>decide (N s=N 0)&&f s)=true then Sum.inr ((),()) else Sum.inl (false,())):=by
  unfold uC
  refine bS (fun s=>(c,wi s,())) _ _ (Sum.inl (false,())) (Sum.inr ((),())) (fun s hs _=>?_) (fun _=>?_) (bt _)
  ·simp only [rA,ak,an,ae,aK _ hs,Sl.get_wi _ hs,aY,Sl.get_wi _ h0,if_true,aj,e3 s hs,e4,e5,(hg s hs).1,(ht s hs).1,aN _ hs]
   have hp:=hpt s hs
   by_cases a1:N s < 1
   ·have:f s=false:=Bool.eq_false_iff.2 fun h=>by have:=(hp.1 h).1.1;omega
    simp only [decide_eq_true a1,if_true,this,Bool.and_false,Bool.false_eq_true,if_false]
   by_cases a2:4 < N s
   ·have:f s=false:=Bool.eq_false_iff.2 fun h=>by have:=(hp.1 h).1.2;omega
    simp only [decide_eq_false a1,decide_eq_true a2,if_true,this,Bool.and_false,Bool.false_eq_true,if_false]
   have hfe:f s=(g s&&t s):=by
    refine bQ (hp.trans ?_)
    rw [Bool.and_eq_true]
    exact ⟨fun h=>h.2,fun h=>⟨⟨by omega,by omega⟩,h⟩⟩
   by_cases a:N s=N 0
   ·simp only [decide_eq_false a1,decide_eq_false a2,decide_eq_true a,Bool.not_true,Bool.false_eq_true,if_false,Bool.true_and,hfe]
    cases g s<;>cases t s<;>rfl
   ·simp only [decide_eq_false a1,decide_eq_false a2,decide_eq_false a,Bool.not_false,if_true,Bool.false_and,Bool.false_eq_true,if_false]
  ·simp only [rA,ak,ae,aO,Bool.false_eq_true,if_false]
 simp only [aY,k1,k2,aj]
 refine ⟨(List.range c.Sets.l.length).all (fun s=>decide (N s=N 0)&&f s),?_,?_,fun _=>h0⟩<;>cases (List.range c.Sets.l.length).all (fun s=>decide (N s=N 0)&&f s)<;>rfl
def ep (c:TCache):Bool:=(jW c).getD false
theorem adN (c:TCache):jW c=some (ep c):=by obtain ⟨b,b1,_⟩:=Gm c;unfold ep;rw [b1];rfl
theorem adM (c:TCache):mD c=some (ep c):=by obtain ⟨b,b1,b2,_⟩:=Gm c;unfold ep;rw [b1,b2];rfl
theorem adO {c:TCache} (h:ep c=true):0 < c.Sets.l.length:=by obtain ⟨b,b1,_,b3⟩:=Gm c;unfold ep at h;rw [b1] at h;exact b3 h
def eO (c:TCache) (t:W .u32):W .i64:=match cW (ca c t).l t with
 | some k=>(nth (ca c t).l k).State
 | none=>W.of .i64 0
theorem WJ (c:TCache) (t:W .u32):kf c t=some (eF c t):=by
 by_cases h:0 < c.Sets.l.length
 ·exact WI c t h
 have h0:c.Sets.l=[]:=List.length_eq_zero_iff.1 (by omega)
 have h1:eF c t=(W.of .i64 0,W.of .i64 0,false):=by
  unfold eF ca cW;rw [h0];rfl
 have h2:gF c t=some (W.of .i64 (-1)):=by
  unfold gF vP
  simp only [ak,ae,zz]
  rw [if_pos (decide_eq_true (by omega))]
 rw [h1]
 unfold kf vO
 simp only [an,ak,ae,h2,aj]
 rfl
theorem ahu (c:TCache) (t:W .u32):∃ w,tz c t=some w∧w.State=eO c t:=by
 unfold tz Fi
 simp only [an,ak,ae,WJ,aj]
 unfold eF eO
 cases hk:cW (ca c t).l t with
 | none=>exact ⟨_,rfl,rfl⟩
 | some k=>
  have hk':=(yv hk).1
  have hs:0 < c.Sets.l.length:=by
   by_cases h:0 < c.Sets.l.length
   ·exact h
   have h0:c.Sets.l=[]:=List.length_eq_zero_iff.1 (by omega)
   unfold ca at hk';rw [h0] at hk';exact absurd hk' (Nat.not_lt_zero _)
  have hw:nth c.Sets.l (bx c t)=ca c t:=rfl
  simp only [Bool.not_true,Bool.false_eq_true,if_false,Sl.get_wi _ (lH c t hs),aj,hw,Sl.get_wi _ hk']
  exact ⟨_,rfl,rfl⟩
theorem agv (m:TCoh) (t:W .u32) {j:Nat} (hj:j < m.Caches.l.length):tw m (wi j) t=some (eO (nth m.Caches.l j) t):=by
 have hr:=m.Caches.h.2
 have e1:W.ge (wi j) (W.of .i64 0)=true:=by rw [W.ge_n,aQ (by omega),aB];omega
 have e2:tu m (wi j)=some true:=by
  unfold tu E8
  simp only [ak,ae,e1,if_true,aK _ hj]
 obtain ⟨w,w1,w2⟩:=ahu (nth m.Caches.l j) t
 unfold tw Fc
 simp only [an,ak,ae,e2,aj,Bool.not_true,Bool.false_eq_true,if_false,Sl.get_wi _ hj,w1,w2]
def gz (m:TCoh) (t:W .u32):List (W .i64):=(List.range m.Caches.l.length).map fun j=>eO (nth m.Caches.l j) t
theorem agx (m:TCoh) (t:W .u32) (hn:m.Caches.l.length≤2) (hr:∀ j,j < m.Caches.l.length→0 < (nth m.Caches.l j).Sets.l.length):∃ r,sK m t=some r∧r.l=gz m t:=by
 have key:∃ o,uf (t,Sl.nil,m.Caches,Sl.len m.Caches,wi 0,())=some o∧o.1.l=gz m t:=by
  unfold uf
  refine bK (fun j st=>∃ r:Sl 8 (W .i64),st=(t,r,m.Caches,Sl.len m.Caches,wi j,())∧r.l=(List.range j).map fun j=>eO (nth m.Caches.l j) t) m.Caches.l.length (fun o:Sl 8 (W .i64)×Unit=>o.1.l=gz m t) ?_ ?_ ⟨Sl.nil,rfl,rfl⟩ (bt _)
  ·rintro j st hj ⟨r,rfl,hrl⟩
   have hlen:r.l.length=j:=by rw [hrl,List.length_map,List.length_range]
   obtain ⟨r',r1,r2⟩:∃ r':Sl 8 (W .i64),Sl.app? r (Sl.lit 8 [eO (nth m.Caches.l j) t] rfl:Sl 8 (W .i64))=some r'∧r'.l=r.l++[eO (nth m.Caches.l j) t]:=cy (by rw [hlen];unfold aw;omega) (by rw [hlen];unfold aw;omega)
   simp only [qM,ak,an,ae,aK _ hj,Sl.get_wi _ hj,if_true,aj,Pd _ t (hr j hj)]
   have hres:r'.l=(List.range (j+1)).map fun j=>eO (nth m.Caches.l j) t:=by rw [r2,hrl,List.range_succ,List.map_append];rfl
   unfold eF
   unfold eO at r1
   generalize hc:nth m.Caches.l j=c at r1
   have hs:=hr j hj
   rw [hc] at hs
   cases hk:cW (ca c t).l t with
   | none=>
    rw [hk] at r1
    simp only [Bool.false_eq_true,if_false]
    rw [r1]
    simp only [aj,aN _ hj]
    exact ⟨_,rfl,r',rfl,hres⟩
   | some k=>
    rw [hk] at r1
    have hw:nth c.Sets.l (bx c t)=ca c t:=rfl
    simp only [if_true,Sl.get_wi _ (lH c t hs),aj,hw,Sl.get_wi _ (yv hk).1]
    rw [r1]
    simp only [aj,aN _ hj]
    exact ⟨_,rfl,r',rfl,hres⟩
  ·rintro st ⟨r,rfl,hrl⟩
   simp only [qM,ak,ae,aO,Bool.false_eq_true,if_false]
   exact ⟨_,rfl,hrl⟩
 obtain ⟨o,k1,k2⟩:=key
 unfold sK D0
 simp only [an,ae,aY,k1,aj]
 exact ⟨_,rfl,k2⟩
def knownB (y:W .i64):Bool:=W.ge y (W.of .i64 0)&&W.le y (W.of .i64 3)
def fH (l:List (W .i64)):Bool:=
 (List.range l.length).all (fun i=>knownB (nth l i)) &&
  (!((List.range l.length).any fun i=>W.eq (nth l i) (W.of .i64 2) || W.eq (nth l i) (W.of .i64 3)) || decide ((List.range l.length).countP (fun i=>W.ne (nth l i) (W.of .i64 0))=1))
theorem yq (p:Nat→Bool) (n:Nat):(List.range n).countP p≤n:=by
 have:=List.countP_le_length (p:=p) (l:=List.range n)
 rwa [List.length_range] at this
theorem aab (r:Sl 8 (W .i64)):sZ r=some (fH r.l):=by
 have hr:=r.h.2
 have k1:∃ o,mU (r,wi 0,false,r,Sl.len r,wi 0,())=some o∧o=(r,wi ((List.range r.l.length).countP fun i=>W.ne (nth r.l i) (W.of .i64 0)),(List.range r.l.length).any (fun i=>W.eq (nth r.l i) (W.of .i64 2) || W.eq (nth r.l i) (W.of .i64 3)),()):=by
  unfold mU
  refine bK (fun j st=>st=(r,wi ((List.range j).countP fun i=>W.ne (nth r.l i) (W.of .i64 0)),(List.range j).any (fun i=>W.eq (nth r.l i) (W.of .i64 2) || W.eq (nth r.l i) (W.of .i64 3)),r,Sl.len r,wi j,())) r.l.length _ ?_ ?_ rfl (bt _)
  ·rintro j st hj rfl
   have hc:=yq (fun i=>W.ne (nth r.l i) (W.of .i64 0)) j
   simp only [qZ,ak,an,ae,aK _ hj,Sl.get_wi _ hj,if_true,aj,aN _ hj,List.range_succ,List.countP_append,List.any_append,List.countP_singleton,List.any_cons,List.any_nil,Bool.or_false]
   rw [show W.add (wi ((List.range j).countP fun i=>W.ne (nth r.l i) (W.of .i64 0))) (W.of .i64 1)=wi ((List.range j).countP (fun i=>W.ne (nth r.l i) (W.of .i64 0))+1) from dc (by omega)]
   generalize ((List.range j).any fun i=>W.eq (nth r.l i) (W.of .i64 2) || W.eq (nth r.l i) (W.of .i64 3))=al
   generalize (List.range j).countP (fun i=>W.ne (nth r.l i) (W.of .i64 0))=cn
   cases W.ne (nth r.l j) (W.of .i64 0)<;>cases al<;>cases W.eq (nth r.l j) (W.of .i64 2)<;>exact ⟨_,rfl,rfl⟩
  ·rintro st rfl
   simp only [qZ,ak,ae,aO,Bool.false_eq_true,if_false]
   exact ⟨_,rfl,rfl⟩
 obtain ⟨o,k1,rfl⟩:=k1
 have hkn:∀ y,ta y=some (!knownB y):=fun y=>by
  unfold ta Ex AL Ey knownB
  simp only [an,ak,ae]
  cases W.ge y (W.of .i64 0)<;>rfl
 have k2:tO r=some (!(List.range r.l.length).all fun i=>knownB (nth r.l i)):=by
  have hL:vg (r,((),()),Sl.len r,wi 0,())=some (match (List.range r.l.length).find? (fun i=>!knownB (nth r.l i)) with | some k=>Sum.inl (wi k,()) | none=>Sum.inr ((),())):=by
   unfold vg
   refine yE (fun i=>(r,((),()),Sl.len r,wi i,())) _ _ (fun k=>Sum.inl (wi k,())) (Sum.inr ((),())) (fun i hi=>?_) ?_ (bt _)
   ·simp only [sx,ak,an,ae,aK _ hi,Sl.get_wi _ hi,if_true,aj,hkn,aN _ hi]
    split<;>rfl
   ·simp only [sx,ak,ae,aO,Bool.false_eq_true,if_false]
  unfold tO FO A8 F3
  simp only [an,aM,ae,aY,hL,aj]
  cases hf:(List.range r.l.length).find? (fun i=>!knownB (nth r.l i)) with
  | none=>
   have:(List.range r.l.length).all (fun i=>knownB (nth r.l i))=true:=by
    rw [List.find?_eq_none] at hf
    rw [List.all_eq_true]
    intro i hi
    have:=hf i hi
    simpa using this
   rw [this];rfl
  | some k=>
   have h1:=List.find?_some hf
   have h2:=List.mem_range.1 (List.mem_of_find?_eq_some hf)
   have:(List.range r.l.length).all (fun i=>knownB (nth r.l i))=false:=by
    rw [Bool.eq_false_iff]
    intro hh
    have:=List.all_eq_true.1 hh k (List.mem_range.2 h2)
    rw [this] at h1;cases h1
   rw [this]
   have e:W.ge (wi k) (W.of .i64 0)=true:=by rw [W.ge_n,aQ (by omega),aB];omega
   exact congrArg some e
 have hc:=yq (fun i=>W.ne (nth r.l i) (W.of .i64 0)) r.l.length
 have e1:W.eq (wi ((List.range r.l.length).countP fun i=>W.ne (nth r.l i) (W.of .i64 0))) (W.of .i64 1)=decide ((List.range r.l.length).countP (fun i=>W.ne (nth r.l i) (W.of .i64 0))=1):=di (m:=1) (by omega) (cg (by omega))
 have k1':mU (r,W.of .i64 0,false,r,Sl.len r,W.of .i64 0,())=_:=k1
 unfold sZ Ew
 simp only [an,ak,ae,k1',aj,k2,Bool.not_not,e1]
 unfold fH
 cases (List.range r.l.length).all (fun i=>knownB (nth r.l i))<;>cases ((List.range r.l.length).any fun i=>W.eq (nth r.l i) (W.of .i64 2) || W.eq (nth r.l i) (W.of .i64 3))<;>rfl
theorem aaa (r:Sl 8 (W .i64)):mC r=some (fH r.l):=by
 have hr:=r.h.2
 have k1:∃ o,ni (r,wi 0,false,wi 0,())=some o∧(((∀ i,i < r.l.length→knownB (nth r.l i)=true)∧o=Sum.inr ((),wi ((List.range r.l.length).countP fun i=>W.ne (nth r.l i) (W.of .i64 0)),(List.range r.l.length).any (fun i=>W.eq (nth r.l i) (W.of .i64 2) || W.eq (nth r.l i) (W.of .i64 3)),()))∨((¬ ∀ i,i < r.l.length→knownB (nth r.l i)=true)∧∃ x,o=Sum.inl (false,x))):=by
  unfold ni
  refine cR (fun j st=>st=(r,wi ((List.range j).countP fun i=>W.ne (nth r.l i) (W.of .i64 0)),(List.range j).any (fun i=>W.eq (nth r.l i) (W.of .i64 2) || W.eq (nth r.l i) (W.of .i64 3)),wi j,())) r.l.length (fun i=>knownB (nth r.l i)=true) (fun o=>∃ x,o=Sum.inl (false,x)) (·=Sum.inr ((),wi ((List.range r.l.length).countP fun i=>W.ne (nth r.l i) (W.of .i64 0)),(List.range r.l.length).any (fun i=>W.eq (nth r.l i) (W.of .i64 2) || W.eq (nth r.l i) (W.of .i64 3)),())) ?_ ?_ rfl (bt _)
  ·rintro j st hj rfl _
   have hc:=yq (fun i=>W.ne (nth r.l i) (W.of .i64 0)) j
   simp only [rz,ak,an,ae,aK _ hj,Sl.get_wi _ hj,if_true,aj,aN _ hj,List.range_succ,List.countP_append,List.any_append,List.countP_singleton,List.any_cons,List.any_nil,Bool.or_false]
   rw [show W.add (wi ((List.range j).countP fun i=>W.ne (nth r.l i) (W.of .i64 0))) (W.of .i64 1)=wi ((List.range j).countP (fun i=>W.ne (nth r.l i) (W.of .i64 0))+1) from dc (by omega)]
   generalize ((List.range j).any fun i=>W.eq (nth r.l i) (W.of .i64 2) || W.eq (nth r.l i) (W.of .i64 3))=al
   generalize (List.range j).countP (fun i=>W.ne (nth r.l i) (W.of .i64 0))=cn
   generalize nth r.l j=y
   have n2:(W.of .i64 2:W .i64).n=2:=rfl
   have n1:(W.of .i64 1:W .i64).n=1:=rfl
   have n3:(W.of .i64 3:W .i64).n=3:=rfl
   by_cases b1:W.lt y (W.of .i64 0)=true
   ·refine Or.inr ⟨fun hh=>?_,_,by rw [if_pos b1],_,rfl⟩
    unfold knownB at hh
    rw [Bool.and_eq_true,W.ge_n,aB] at hh
    rw [W.lt_n,aB] at b1;omega
   by_cases b2:W.gt y (W.of .i64 3)=true
   ·refine Or.inr ⟨fun hh=>?_,_,by rw [if_neg b1,if_pos b2],_,rfl⟩
    unfold knownB at hh
    rw [Bool.and_eq_true,W.le_n,n3] at hh
    rw [W.gt_n,n3] at b2;omega
   have hk:knownB y=true:=by
    unfold knownB
    rw [Bool.and_eq_true,W.ge_n,W.le_n,aB,n3]
    rw [W.lt_n,aB] at b1;rw [W.gt_n,n3] at b2;omega
   have e1:W.gt y (W.of .i64 0)=W.ne y (W.of .i64 0):=bQ (by
    rw [W.ne_eq,Bool.not_eq_true',Bool.eq_false_iff,Ne,W.eq_n,W.gt_n,aB]
    rw [W.lt_n,aB] at b1;omega)
   have e2:W.gt y (W.of .i64 1)=(W.eq y (W.of .i64 2) || W.eq y (W.of .i64 3)):=bQ (by
    rw [Bool.or_eq_true,W.eq_n,W.eq_n,W.gt_n,n1,n2,n3]
    rw [W.gt_n,n3] at b2;omega)
   refine Or.inl ⟨hk,?_⟩
   rw [if_neg b1,if_neg b2,e1,e2]
   have hh:W.ne y (W.of .i64 0)=false→(W.eq y (W.of .i64 2) || W.eq y (W.of .i64 3))=false:=fun h=>by
    rw [←e2,Bool.eq_false_iff,Ne,W.gt_n,n1]
    rw [←e1,Bool.eq_false_iff,Ne,W.gt_n,aB] at h;omega
   cases W.ne y (W.of .i64 0)<;>cases al<;>cases (W.eq y (W.of .i64 2) || W.eq y (W.of .i64 3))<;>exact ⟨_,rfl,rfl⟩
  ·rintro st rfl _
   simp only [rz,ak,ae,aO,Bool.false_eq_true,if_false]
   exact ⟨_,rfl,rfl⟩
 obtain ⟨o,k1,k2⟩:=k1
 have hc:=yq (fun i=>W.ne (nth r.l i) (W.of .i64 0)) r.l.length
 have e1:W.eq (wi ((List.range r.l.length).countP fun i=>W.ne (nth r.l i) (W.of .i64 0))) (W.of .i64 1)=decide ((List.range r.l.length).countP (fun i=>W.ne (nth r.l i) (W.of .i64 0))=1):=di (m:=1) (by omega) (cg (by omega))
 have k1':ni (r,W.of .i64 0,false,W.of .i64 0,())=_:=k1
 unfold mC E4
 simp only [an,ak,ae,aM,k1',aj]
 rcases k2 with ⟨hall,rfl⟩ | ⟨hno,x,rfl⟩
 ·unfold fH
  rw [cJ.2 hall]
  simp only [Sum.elim_inr,e1,Bool.true_and]
  cases ((List.range r.l.length).any fun i=>W.eq (nth r.l i) (W.of .i64 2) || W.eq (nth r.l i) (W.of .i64 3))<;>rfl
 ·have:fH r.l=false:=by
   unfold fH
   have:(List.range r.l.length).all (fun i=>knownB (nth r.l i))=false:=Bool.eq_false_iff.2 fun h=>hno (cJ.1 h)
   rw [this,Bool.false_and]
  rw [this];rfl
end Go.Proofs.YtnpgljilkkipkaaGreat
