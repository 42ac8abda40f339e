/- YtnpgljilkkipkaaGreatBreak3: rules 2, 5 (the document's) and 6 of a core. No statement of the seat is proved here. -/
import Derived.Test.YtnpgljilkkipkaaGreatBreak2
set_option linter.unusedSimpArgs false
set_option linter.unusedVariables false
set_option maxRecDepth 100000
namespace Go.Proofs.YtnpgljilkkipkaaGreat
open Go Go.A2
theorem adv (c:TCore) (hr:c.Rob.l.length < aa) (hi:c.Iq.l.length < aa) (hu:c.Units.l.length < aa):∃ b,gG c=some b∧(b=true ↔ (∀ i,i < (c.Units.l.map TFlight.Ren).length→dC c (c.Units.l.map TFlight.Ren) i)∧bothB (c.Iq.l.map TIq.Ren) (c.Units.l.map TFlight.Ren)=false):=by
 let both:=fun (i:Nat)=>(List.range c.Iq.l.length).all (fun k=>!W.eq (nth c.Iq.l k).Ren.Seq (nth c.Units.l i).Ren.Seq)=true
 have key:∃ o,uS (c,wi 0,())=some o∧(((∀ i,i < c.Units.l.length→dC c (c.Units.l.map TFlight.Ren) i∧both i)∧o=.inr ((),()))∨((¬ ∀ i,i < c.Units.l.length→dC c (c.Units.l.map TFlight.Ren) i∧both i)∧o=.inl (false,()))):=by
  unfold uS
  refine cR (fun i s=>s=(c,wi i,())) c.Units.l.length (fun i=>dC c (c.Units.l.map TFlight.Ren) i∧both i) (fun o=>o=Sum.inl (false,())) (fun o=>o=Sum.inr ((),())) ?_ ?_ rfl hu
  ·rintro i s hil rfl hP
   have hm:nth (c.Units.l.map TFlight.Ren) i=(nth c.Units.l i).Ren:=jE hil
   have inner:uQ (c,wi i,(nth c.Units.l i).Ren,wi 0,())=some (if (List.range i).all (fun k=>!W.eq (nth c.Units.l k).Ren.Seq (nth c.Units.l i).Ren.Seq)=true then .inr (c,(),wi i,(nth c.Units.l i).Ren,()) else .inl (c,false,wi i,(nth c.Units.l i).Ren,())):=by
    unfold uQ
    have hroom:=c.Units.h.2
    refine bS (fun k=>(c,wi i,(nth c.Units.l i).Ren,wi k,())) i _ _ _ (fun k hk _=>?_) (fun _=>?_) (by omega)
    ·have hkl:k < c.Units.l.length:=by omega
     simp only [rP,ak,an,ae,Sl.get_wi c.Units hkl,aj,aN c.Units hkl]
     rw [br (by omega) (by omega),if_pos (by simpa using hk)]
     cases W.eq (nth c.Units.l k).Ren.Seq (nth c.Units.l i).Ren.Seq<;>rfl
    ·simp only [rP,ak,ae]
     rw [br (by omega) (by omega),if_neg (by simp)]
   have inner2:uR (c,wi i,(nth c.Units.l i).Ren,wi 0,())=some (if (List.range c.Iq.l.length).all (fun k=>!W.eq (nth c.Iq.l k).Ren.Seq (nth c.Units.l i).Ren.Seq)=true then .inr (c,(),wi i,()) else .inl (c,false,wi i,())):=by
    unfold uR
    refine bS (fun k=>(c,wi i,(nth c.Units.l i).Ren,wi k,())) c.Iq.l.length _ _ _ (fun k hk _=>?_) (fun _=>?_) hi
    ·simp only [rQ,ak,an,ae,aK c.Iq hk,if_true,Sl.get_wi c.Iq hk,aj,aN c.Iq hk]
     cases W.eq (nth c.Iq.l k).Ren.Seq (nth c.Units.l i).Ren.Seq<;>rfl
    ·simp only [rQ,ak,ae,aO c.Iq]
     rfl
   simp only [rR,ak,an,ae,aK c.Units hil,Sl.get_wi c.Units hil,if_true,aj,Qz c _ hr,aY,inner]
   have hseq:jM (c.Units.l.map TFlight.Ren) i=false ↔ (List.range i).all (fun k=>!W.eq (nth c.Units.l k).Ren.Seq (nth c.Units.l i).Ren.Seq)=true:=by
    rw [Q2 (by simpa using hil),List.all_eq_true]
    constructor
    ·intro h k hk
     have:=h k (List.mem_range.1 hk)
     rw [jE (by have:=List.mem_range.1 hk;omega),hm] at this
     simp [this]
    ·intro h k hk
     have:=h k (List.mem_range.2 hk)
     rw [jE (by omega),hm]
     simpa using this
   unfold dC
   rw [hm]
   cases hw:iE c (nth c.Units.l i).Ren with
   | false=>exact .inr ⟨fun h=>(by cases h.1.2),_,rfl,rfl⟩
   | true=>
    cases ha:(List.range i).all (fun k=>!W.eq (nth c.Units.l k).Ren.Seq (nth c.Units.l i).Ren.Seq) with
    | false=>exact .inr ⟨fun h=>(by have:=hseq.1 h.1.1;rw [ha] at this;cases this),_,rfl,rfl⟩
    | true=>
     simp only [Bool.not_true,Bool.false_eq_true,if_false,if_true,aM,Sum.elim_inr,an,inner2,aj]
     cases hb:(List.range c.Iq.l.length).all (fun k=>!W.eq (nth c.Iq.l k).Ren.Seq (nth c.Units.l i).Ren.Seq) with
     | false=>exact .inr ⟨fun h=>(by have:_=true:=h.2;rw [hb] at this;cases this),_,rfl,rfl⟩
     | true=>
      refine .inl ⟨⟨⟨hseq.2 ha,by trivial⟩,hb⟩,_,rfl,?_⟩
      rw [←aN c.Units hil]
  ·rintro s rfl hP
   simp only [rR,ak,ae,aO c.Units]
   exact ⟨_,rfl,rfl⟩
 have hboth:bothB (c.Iq.l.map TIq.Ren) (c.Units.l.map TFlight.Ren)=false ↔ ∀ i,i < c.Units.l.length→both i:=by
  unfold bothB
  constructor
  ·intro h i hi
   refine List.all_eq_true.2 fun k hk=>?_
   have hk:=List.mem_range.1 hk
   rw [List.any_eq_false] at h
   have:=h _ (List.mem_map_of_mem (lv hk))
   rw [Bool.not_eq_true,List.any_eq_false] at this
   have:=this _ (List.mem_map_of_mem (lv hi))
   simpa using this
  ·intro h
   rw [List.any_eq_false]
   intro r hr hh
   obtain ⟨x,hx,rfl⟩:=List.mem_map.1 hr
   obtain ⟨s,hs,he⟩:=List.any_eq_true.1 hh
   obtain ⟨y,hy,rfl⟩:=List.mem_map.1 hs
   obtain ⟨k,hk,rfl⟩:=yP hx
   obtain ⟨i,hi,rfl⟩:=yP hy
   have:=List.all_eq_true.1 (h i hi) k (List.mem_range.2 hk)
   rw [he] at this;cases this
 obtain ⟨o,h1,h2⟩:=key
 unfold gG Fp
 rw [List.length_map,hboth]
 rcases h2 with ⟨h3,rfl⟩ | ⟨h3,rfl⟩
 ·exact ⟨true,by simp only [an,aY,h1,aj,aM,Sum.elim_inr,ae],fun _=>⟨fun i hi=>(h3 i hi).1,fun i hi=>(h3 i hi).2⟩,fun _=>rfl⟩
 ·exact ⟨false,by simp only [an,aY,h1,aj,aM,Sum.elim_inl,ae],fun h=>(by cases h),fun h=>(h3 fun i hi=>⟨h.1 i hi,h.2 i hi⟩).elim⟩
def jz (l:List TRob):Nat→W .u64
 | 0=>W.of .u64 0
 | i+1=>(nth l i).Ren.Seq
def cT (l:List TRob):Nat→W .i64
 | 0=>W.of .i64 0
 | i+1=>if (nth l i).Ren.Uop.Last=true then W.of .i64 0 else W.add (nth l i).Ren.Uop.Part (W.of .i64 1)
def ff (l:List TRob) (i:Nat):Prop:=W.le (nth l i).Ren.Seq (jz l i)=false∧W.ne (nth l i).Ren.Uop.Part (cT l i)=false
theorem Qd {l:List TRob} (hl:l.length < 1000) (h:∀ i,i < l.length→ff l i):∀ i,i≤l.length→0≤(cT l i).n∧(cT l i).n≤i
 | 0,_=>by show 0≤(W.of .i64 0).n∧(W.of .i64 0).n≤0;decide
 | i+1,hi=>by
  have ih:=Qd hl h i (by omega)
  have hp:=(h i (by omega)).2
  have e:(nth l i).Ren.Uop.Part=cT l i:=by
   have:W.eq (nth l i).Ren.Uop.Part (cT l i)=true:=by rw [W.ne_eq] at hp;simpa using hp
   exact W.eq_iff.1 this
  show 0≤(if (nth l i).Ren.Uop.Last=true then W.of .i64 0 else W.add (nth l i).Ren.Uop.Part (W.of .i64 1)).n∧(if (nth l i).Ren.Uop.Last=true then W.of .i64 0 else W.add (nth l i).Ren.Uop.Part (W.of .i64 1)).n≤((i+1:Nat):Int)
  split
  ·show 0≤(W.of .i64 0).n∧_;exact ⟨by decide,by rw [show (W.of .i64 0).n=0 from rfl];omega⟩
  ·rw [W.add_n,e,show (W.of .i64 1).n=1 from rfl,de];omega
theorem aaS {l:List TRob} (hl:l.length < 1000) (h:∀ i,i < l.length→ff l i):W.eq (cT l l.length) (W.of .i64 0)=(match l.length with | 0=>true | i+1=>(nth l i).Ren.Uop.Last):=by
 cases hn:l.length with
 | zero=>rfl
 | succ i=>
  show W.eq (if (nth l i).Ren.Uop.Last=true then W.of .i64 0 else W.add (nth l i).Ren.Uop.Part (W.of .i64 1)) _=(nth l i).Ren.Uop.Last
  cases hL:(nth l i).Ren.Uop.Last with
  | true=>rfl
  | false=>
   have ih:=Qd hl h i (by omega)
   have hp:=(h i (by omega)).2
   have e:(nth l i).Ren.Uop.Part=cT l i:=by
    have:W.eq (nth l i).Ren.Uop.Part (cT l i)=true:=by rw [W.ne_eq] at hp;simpa using hp
    exact W.eq_iff.1 this
   rw [if_neg (by simp),W.eq_dec,e]
   have:¬ W.add (cT l i) (W.of .i64 1)=W.of .i64 0:=fun hh=>by
    have:=congrArg W.n hh
    rw [W.add_n,show (W.of .i64 1).n=1 from rfl,de,show (W.of .i64 0).n=0 from rfl] at this
    omega
   simpa using this
def qh (l:List TRob):Prop:=(∀ i,i < l.length→ff l i)∧(match l.length with | 0=>true | i+1=>(nth l i).Ren.Uop.Last)=true
theorem Tl (l:Sl 248 TRob) (hl:l.l.length < 1000):∃ b,tH l=some b∧(b=true ↔ qh l.l):=by
 have key:∃ o,kG (W.of .u64 0,W.of .i64 0,l,Sl.len l,wi 0,())=some o∧(((∀ i,i < l.l.length→ff l.l i)∧o=.inr ((),cT l.l l.l.length,()))∨((¬ ∀ i,i < l.l.length→ff l.l i)∧∃ p,o=.inl (false,p,()))):=by
  unfold kG
  refine cR (fun i s=>s=(jz l.l i,cT l.l i,l,Sl.len l,wi i,())) l.l.length (ff l.l) (fun o=>∃ p,o=Sum.inl (false,p,())) (fun o=>o=Sum.inr ((),cT l.l l.l.length,())) ?_ ?_ rfl (by show _ < 281474976710656;omega)
  ·rintro i s hi rfl hP
   simp only [sg,ak,an,ae,aK l hi,Sl.get_wi l hi,if_true,aj,aN l hi]
   unfold ff
   cases h1:W.le (nth l.l i).Ren.Seq (jz l.l i) with
   | true=>exact .inr ⟨fun h=>(by cases h.1),_,rfl,_,rfl⟩
   | false=>
    cases h2:W.ne (nth l.l i).Ren.Uop.Part (cT l.l i) with
    | true=>exact .inr ⟨fun h=>(by cases h.2),_,rfl,_,rfl⟩
    | false=>
     have e:(nth l.l i).Ren.Uop.Part=cT l.l i:=by
      have:W.eq (nth l.l i).Ren.Uop.Part (cT l.l i)=true:=by rw [W.ne_eq] at h2;simpa using h2
      exact W.eq_iff.1 this
     refine .inl ⟨⟨rfl,rfl⟩,?_⟩
     cases h3:(nth l.l i).Ren.Uop.Last with
     | true=>exact ⟨_,rfl,by simp only [jz,cT,h3,if_true]⟩
     | false=>exact ⟨_,rfl,by simp only [jz,cT,h3,Bool.false_eq_true,if_false,e]⟩
  ·rintro s rfl hP
   simp only [sg,ak,ae,aO l]
   exact ⟨_,rfl,rfl⟩
 obtain ⟨o,h1,h2⟩:=key
 unfold tH FG qh
 rcases h2 with ⟨h3,rfl⟩ | ⟨h3,p,rfl⟩
 ·refine ⟨_,by simp only [an,show kG (W.of .u64 0,W.of .i64 0,l,Sl.len l,W.of .i64 0,())=_ from h1,aj,aM,Sum.elim_inr,ae];rfl,?_⟩
  rw [aaS hl h3]
  exact ⟨fun h=>⟨h3,h⟩,fun h=>h.2⟩
 ·exact ⟨false,by simp only [an,show kG (W.of .u64 0,W.of .i64 0,l,Sl.len l,W.of .i64 0,())=_ from h1,aj,aM,Sum.elim_inl,ae],fun h=>(by cases h),fun h=>(h3 h.1).elim⟩
theorem yK (a:W .u64):W.lt a (W.of .u64 1)=W.le a (W.of .u64 0):=by
 have:=a.r_u64
 unfold W.lt W.le
 rw [show (W.of .u64 1).n=1 from rfl,show (W.of .u64 0).n=0 from rfl]
 exact decide_eq_decide.2 (by omega)
theorem adE (l:Sl 248 TRob) (hl:l.l.length < 1000):∃ b,tr l=some b∧(b=true ↔ qh l.l):=by
 have hroom:=l.h.2
 have key:∃ o,ux (l,wi 0,())=some o∧(((∀ i,i < l.l.length→ff l.l i)∧o=.inr (l,(),()))∨((¬ ∀ i,i < l.l.length→ff l.l i)∧o=.inl (l,false,()))):=by
  unfold ux
  refine cR (fun i s=>s=(l,wi i,())) l.l.length (ff l.l) (fun o=>o=Sum.inl (l,false,())) (fun o=>o=Sum.inr (l,(),())) ?_ ?_ rfl (by show _ < 281474976710656;omega)
  ·rintro i s hi rfl hP
   unfold ff
   cases i with
   | zero=>
    have hg0:W.gt (wi 0) (W.of .i64 0)=false:=rfl
    simp only [lP,ak,an,ae,aK l hi,Sl.get_wi l hi,if_true,aj,aN l hi,hg0,Bool.false_eq_true,if_false,jz,cT,yK]
    cases W.le (nth l.l 0).Ren.Seq (W.of .u64 0) with
    | true=>exact .inr ⟨fun h=>(by cases h.1),_,rfl,rfl⟩
    | false=>
     cases W.ne (nth l.l 0).Ren.Uop.Part (W.of .i64 0) with
     | true=>exact .inr ⟨fun h=>(by cases h.2),_,rfl,rfl⟩
     | false=>exact .inl ⟨by first | trivial | exact ⟨rfl,rfl⟩ | exact ⟨trivial,rfl⟩ | exact ⟨rfl,trivial⟩,_,rfl,rfl⟩
   | succ i=>
    have hi':i < l.l.length:=by omega
    have hgi:W.gt (wi (i+1)) (W.of .i64 0)=true:=by rw [W.gt_lt,aY,br (by omega) (by omega)];simp
    simp only [lP,ak,an,ae,aK l hi,Sl.get_wi l hi,if_true,aj,aN l hi,hgi,lL (show i+1≤aw by omega),Sl.get_wi l hi',jz,cT]
    cases h1:W.le (nth l.l (i+1)).Ren.Seq (nth l.l i).Ren.Seq with
    | true=>
     cases W.lt (nth l.l (i+1)).Ren.Seq (W.of .u64 1)<;>exact .inr ⟨fun h=>(by cases h.1),_,rfl,rfl⟩
    | false=>
     have h2:W.lt (nth l.l (i+1)).Ren.Seq (W.of .u64 1)=false:=by
      rw [yK]
      have h0:=(nth l.l i).Ren.Seq.r_u64
      unfold W.le at h1 ⊢
      rw [show (W.of .u64 0).n=0 from rfl]
      simp only [decide_eq_false_iff_not] at h1 ⊢
      omega
     rw [h2]
     cases (nth l.l i).Ren.Uop.Last with
     | true=>
      simp only [Bool.not_true,Bool.false_eq_true,if_false,if_true]
      cases W.ne (nth l.l (i+1)).Ren.Uop.Part (W.of .i64 0) with
      | true=>exact .inr ⟨fun h=>(by cases h.2),_,rfl,rfl⟩
      | false=>exact .inl ⟨by first | trivial | exact ⟨rfl,rfl⟩ | exact ⟨trivial,rfl⟩ | exact ⟨rfl,trivial⟩,_,rfl,rfl⟩
     | false=>
      simp only [Bool.not_false,Bool.false_eq_true,if_false,if_true]
      cases W.ne (nth l.l (i+1)).Ren.Uop.Part (W.add (nth l.l i).Ren.Uop.Part (W.of .i64 1)) with
      | true=>exact .inr ⟨fun h=>(by cases h.2),_,rfl,rfl⟩
      | false=>exact .inl ⟨by first | trivial | exact ⟨rfl,rfl⟩ | exact ⟨trivial,rfl⟩ | exact ⟨rfl,trivial⟩,_,rfl,rfl⟩
  ·rintro s rfl hP
   simp only [lP,ak,ae,aO l]
   exact ⟨_,rfl,rfl⟩
 obtain ⟨o,h1,h2⟩:=key
 unfold tr E0 qh
 rcases h2 with ⟨h3,rfl⟩ | ⟨h3,rfl⟩
 ·simp only [an,aY,h1,aj,aM,Sum.elim_inr,ak,ae]
  cases hn:l.l.length with
  | zero=>
   have:W.eq (Sl.len l) (wi 0)=true:=by rw [Sl.len_wi,hn];exact W.eq_self _
   rw [this]
   exact ⟨true,rfl,fun _=>⟨fun i hi=>by omega,rfl⟩,fun _=>rfl⟩
  | succ i=>
   have:W.eq (Sl.len l) (wi 0)=false:=by rw [Sl.len_wi,di hroom (by omega),hn];simp
   rw [this,Sl.len_wi,hn,lL (by omega),Sl.get_wi l (show i < l.l.length by omega)]
   exact ⟨_,rfl,fun h=>⟨fun i hi=>h3 i (by omega),h⟩,fun h=>h.2⟩
 ·exact ⟨false,by simp only [an,aY,h1,aj,aM,Sum.elim_inl,ae],fun h=>(by cases h),fun h=>(h3 h.1).elim⟩
end Go.Proofs.YtnpgljilkkipkaaGreat
