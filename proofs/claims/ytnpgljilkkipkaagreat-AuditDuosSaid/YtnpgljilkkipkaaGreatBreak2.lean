/- YtnpgljilkkipkaaGreatBreak2: rules 4 and 5 of a core. No statement of the seat is proved here. -/
import Derived.Test.YtnpgljilkkipkaaGreatBreak1
import Derived.Test.YtnpgljilkkipkaaGreatA2F
set_option linter.unusedSimpArgs false
set_option linter.unusedVariables false
set_option maxRecDepth 100000
namespace Go.Proofs.YtnpgljilkkipkaaGreat
open Go Go.A2
def jM (l:List TRen) (i:Nat):Bool:=(l.take i).any fun r=>W.eq r.Seq (nth l i).Seq
def dC (c:TCore) (l:List TRen) (i:Nat):Prop:=jM l i=false∧iE c (nth l i)=true
theorem OT (c:TCore) (l:Sl 216 TRen) (hr:c.Rob.l.length < aa) (hl:l.l.length < aa):∃ b,ma c l=some b∧(b=true ↔ ∀ i,i < l.l.length→dC c l.l i):=by
 have key:∃ o,ug (c,[],l,Sl.len l,wi 0,())=some o∧(((∀ i,i < l.l.length→dC c l.l i)∧o=.inr ((),()))∨((¬ ∀ i,i < l.l.length→dC c l.l i)∧o=.inl (false,()))):=by
  unfold ug
  refine cR (fun i s=>∃ m:List (W .u64×W .i64),s=(c,m,l,Sl.len l,wi i,())∧∀ q,Option.getD (bT W.eq m q) (W.of .i64 0)=if (l.l.take i).any (fun r=>W.eq r.Seq q)=true then W.of .i64 1 else W.of .i64 0) l.l.length (dC c l.l) (fun o=>o=Sum.inl (false,())) (fun o=>o=Sum.inr ((),())) ?_ ?_ ⟨[],rfl,fun q=>rfl⟩ hl
  ·rintro i s hi ⟨m,rfl,hm⟩ hP
   have hg:=fun y q=>P1 (eq:=W.eq) (fun a b=>W.eq_iff) m (nth l.l i).Seq y q
   have e1:Option.getD (bT W.eq m (nth l.l i).Seq) (W.of .i64 0)=if jM l.l i=true then W.of .i64 1 else W.of .i64 0:=hm _
   simp only [qO,ak,an,ae,aK l hi,Sl.get_wi l hi,if_true,aj,Tp c _ hr,aN l hi,hg,Option.getD_some,e1]
   unfold dC
   cases hs:jM l.l i with
   | true=>exact .inr ⟨fun h=>(by cases h.1),_,rfl,rfl⟩
   | false=>
    rw [if_neg (by decide)]
    cases hw:iE c (nth l.l i) with
    | false=>exact .inr ⟨fun h=>(by cases h.2),_,rfl,rfl⟩
    | true=>
     refine .inl ⟨⟨rfl,rfl⟩,_,rfl,_,rfl,fun q=>?_⟩
     rw [hg,dv hi,List.any_append]
     simp only [List.any_cons,List.any_nil,Bool.or_false]
     by_cases hq:q=(nth l.l i).Seq
     ·subst hq
      rw [if_pos rfl,W.eq_self,Bool.or_true,if_pos rfl]
      rfl
     ·have:W.eq (nth l.l i).Seq q=false:=by rw [W.eq_dec];simpa using fun h=>hq h.symm
      rw [if_neg hq,hm,this,Bool.or_false]
  ·rintro s ⟨m,rfl,hm⟩ hP
   simp only [qO,ak,ae,aO l]
   exact ⟨_,rfl,rfl⟩
 obtain ⟨o,h1,h2⟩:=key
 unfold ma Ea
 rcases h2 with ⟨h3,rfl⟩ | ⟨h3,rfl⟩
 ·exact ⟨true,by simp only [an,aY,h1,aj,aM,Sum.elim_inr,ae],fun _=>h3,fun _=>rfl⟩
 ·exact ⟨false,by simp only [an,aY,h1,aj,aM,Sum.elim_inl,ae],fun h=>(by cases h),fun h=>(h3 h).elim⟩
theorem Th (c:TCore) (h1:c.Iq.l.length < 1000) (h2:c.Units.l.length < 1000):∃ a b,sQ c=some (a,b)∧a.l=c.Iq.l.map TIq.Ren∧b.l=c.Units.l.map TFlight.Ren:=by
 have key1:∃ o,ui (c,Sl.nil,Sl.nil,c.Iq,Sl.len c.Iq,wi 0,())=some o∧∃ a:Sl 216 TRen,o=(c,a,Sl.nil,())∧a.l=c.Iq.l.map TIq.Ren:=by
  unfold ui
  refine bK (fun i s=>∃ a:Sl 216 TRen,s=(c,a,Sl.nil,c.Iq,Sl.len c.Iq,wi i,())∧a.l=(c.Iq.l.take i).map TIq.Ren) c.Iq.l.length _ ?_ ?_ ⟨Sl.nil,rfl,rfl⟩ (by show _ < 281474976710656;omega)
  ·rintro i s hi ⟨a,rfl,ha⟩
   have hlen:a.l.length=i:=by rw [ha,List.length_map,List.length_take];omega
   obtain ⟨r,hr1,hr2⟩:=cy (s:=a) (x:=(nth c.Iq.l i).Ren) (hb:=rfl) (by unfold aw;omega) (by unfold aw;omega)
   simp only [qQ,ak,an,ae,aK c.Iq hi,Sl.get_wi c.Iq hi,if_true,aj,hr1,aN c.Iq hi]
   exact ⟨_,rfl,r,rfl,by rw [hr2,ha,dv hi,List.map_append];rfl⟩
  ·rintro s ⟨a,rfl,ha⟩
   simp only [qQ,ak,ae,aO c.Iq]
   exact ⟨_,rfl,a,rfl,by rw [ha,List.take_length]⟩
 obtain ⟨o,h3,a,rfl,ha⟩:=key1
 have key2:∃ o,uh (a,Sl.nil,c.Units,Sl.len c.Units,wi 0,())=some o∧∃ b:Sl 216 TRen,o=(a,b,())∧b.l=c.Units.l.map TFlight.Ren:=by
  unfold uh
  refine bK (fun i s=>∃ b:Sl 216 TRen,s=(a,b,c.Units,Sl.len c.Units,wi i,())∧b.l=(c.Units.l.take i).map TFlight.Ren) c.Units.l.length _ ?_ ?_ ⟨Sl.nil,rfl,rfl⟩ (by show _ < 281474976710656;omega)
  ·rintro i s hi ⟨b,rfl,hb⟩
   have hlen:b.l.length=i:=by rw [hb,List.length_map,List.length_take];omega
   obtain ⟨r,hr1,hr2⟩:=cy (s:=b) (x:=(nth c.Units.l i).Ren) (hb:=rfl) (by unfold aw;omega) (by unfold aw;omega)
   simp only [qP,ak,an,ae,aK c.Units hi,Sl.get_wi c.Units hi,if_true,aj,hr1,aN c.Units hi]
   exact ⟨_,rfl,r,rfl,by rw [hr2,hb,dv hi,List.map_append];rfl⟩
  ·rintro s ⟨b,rfl,hb⟩
   simp only [qP,ak,ae,aO c.Units]
   exact ⟨_,rfl,b,rfl,by rw [hb,List.take_length]⟩
 obtain ⟨o,h4,b,rfl,hb⟩:=key2
 refine ⟨a,b,?_,ha,hb⟩
 unfold sQ Ed
 simp only [an,aY,h3,aj,h4,ae]
def bothB (a b:List TRen):Bool:=a.any fun r=>b.any fun s=>W.eq r.Seq s.Seq
theorem S5 (a b:Sl 216 TRen) (ha:a.l.length < aa) (hb:b.l.length < aa):sO a b=some (!bothB a.l b.l):=by
 have h1:∀ r,lZ r b=some (b.l.any fun s=>W.eq r.Seq s.Seq):=fun r=>by
  unfold lZ D7
  rw [an,ZW b r (fun s=>W.eq r.Seq s.Seq) (fun _ _=>rfl) hb]
  rfl
 unfold sO D6
 rw [an,ZV a b (fun r=>b.l.any fun s=>W.eq r.Seq s.Seq) (fun r _=>h1 r) ha]
 rfl
theorem Q2 {l:List TRen} {i:Nat} (hi:i < l.length):jM l i=false ↔ ∀ k,k < i→W.eq (nth l k).Seq (nth l i).Seq=false:=by
 unfold jM
 rw [List.any_eq_false]
 constructor
 ·intro h k hk
  have hm:nth l k∈l.take i:=by
   rw [cC (by omega)];exact List.mem_take_iff_getElem.2 ⟨k,by omega,rfl⟩
  simpa using h _ hm
 ·intro h x hx
  obtain ⟨k,hk,rfl⟩:=List.mem_take_iff_getElem.1 hx
  have:=h k (by omega)
  rw [cC (by omega)] at this
  simp [this]
theorem adB (c:TCore) (hr:c.Rob.l.length < aa) (hi:c.Iq.l.length < aa):∃ b,iM c=some b∧(b=true ↔ ∀ i,i < (c.Iq.l.map TIq.Ren).length→dC c (c.Iq.l.map TIq.Ren) i):=by
 have key:∃ o,uW (c,wi 0,())=some o∧(((∀ i,i < c.Iq.l.length→dC c (c.Iq.l.map TIq.Ren) i)∧o=.inr ((),()))∨((¬ ∀ i,i < c.Iq.l.length→dC c (c.Iq.l.map TIq.Ren) i)∧o=.inl (false,()))):=by
  unfold uW
  refine cR (fun i s=>s=(c,wi i,())) c.Iq.l.length (dC c (c.Iq.l.map TIq.Ren)) (fun o=>o=Sum.inl (false,())) (fun o=>o=Sum.inr ((),())) ?_ ?_ rfl hi
  ·rintro i s hil rfl hP
   have hm:nth (c.Iq.l.map TIq.Ren) i=(nth c.Iq.l i).Ren:=jE hil
   have inner:uV (c,wi i,wi 0,())=some (if (List.range i).all (fun k=>!W.eq (nth c.Iq.l k).Ren.Seq (nth c.Iq.l i).Ren.Seq)=true then .inr (c,(),wi i,()) else .inl (c,false,wi i,())):=by
    unfold uV
    have hroom:=c.Iq.h.2
    refine bS (fun k=>(c,wi i,wi k,())) i _ _ _ (fun k hk _=>?_) (fun _=>?_) (by omega)
    ·have hkl:k < c.Iq.l.length:=by omega
     simp only [rV,ak,an,ae,Sl.get_wi c.Iq hkl,Sl.get_wi c.Iq hil,aj,aN c.Iq hkl]
     rw [br (by omega) (by omega),if_pos (by simpa using hk)]
     cases W.eq (nth c.Iq.l k).Ren.Seq (nth c.Iq.l i).Ren.Seq<;>rfl
    ·simp only [rV,ak,ae]
     rw [br (by omega) (by omega),if_neg (by simp)]
   simp only [rX,ak,an,ae,aK c.Iq hil,Sl.get_wi c.Iq hil,if_true,aj,Qz c _ hr,aY,inner]
   have hseq:jM (c.Iq.l.map TIq.Ren) i=false ↔ (List.range i).all (fun k=>!W.eq (nth c.Iq.l k).Ren.Seq (nth c.Iq.l i).Ren.Seq)=true:=by
    rw [Q2 (by simpa using hil),List.all_eq_true]
    constructor
    ·intro h k hk
     have:=h k (List.mem_range.1 hk)
     rw [jE (by have:=List.mem_range.1 hk;omega),hm] at this
     simp [this]
    ·intro h k hk
     have:=h k (List.mem_range.2 hk)
     rw [jE (by omega),hm]
     simpa using this
   unfold dC
   rw [hm]
   cases hw:iE c (nth c.Iq.l i).Ren with
   | false=>exact .inr ⟨fun h=>(by cases h.2),_,rfl,rfl⟩
   | true=>
    cases ha:(List.range i).all (fun k=>!W.eq (nth c.Iq.l k).Ren.Seq (nth c.Iq.l i).Ren.Seq) with
    | false=>exact .inr ⟨fun h=>(by have:=hseq.1 h.1;rw [ha] at this;cases this),_,rfl,rfl⟩
    | true=>
     refine .inl ⟨⟨hseq.2 ha,rfl⟩,_,rfl,?_⟩
     rw [←aN c.Iq hil]
  ·rintro s rfl hP
   simp only [rX,ak,ae,aO c.Iq]
   exact ⟨_,rfl,rfl⟩
 obtain ⟨o,h1,h2⟩:=key
 unfold iM Ft
 rw [List.length_map]
 rcases h2 with ⟨h3,rfl⟩ | ⟨h3,rfl⟩
 ·exact ⟨true,by simp only [an,aY,h1,aj,aM,Sum.elim_inr,ae],fun _=>h3,fun _=>rfl⟩
 ·exact ⟨false,by simp only [an,aY,h1,aj,aM,Sum.elim_inl,ae],fun h=>(by cases h),fun h=>(h3 h).elim⟩
end Go.Proofs.YtnpgljilkkipkaaGreat
