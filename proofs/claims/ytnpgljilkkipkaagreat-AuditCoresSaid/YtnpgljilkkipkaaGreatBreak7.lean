/- YtnpgljilkkipkaaGreatBreak7: rule 3 of a core as the document has it; both are one. No statement of the seat is proved here. -/
import Derived.Test.YtnpgljilkkipkaaGreatBreak6
set_option linter.unusedSimpArgs false
set_option linter.unusedVariables false
set_option maxRecDepth 100000
namespace Go.Proofs.YtnpgljilkkipkaaGreat
open Go Go.A2
theorem ady (l:Sl 8 (W .i64)) (hl:l.l.length≤1000) (p:Nat):sZ l (wi p)=some (wi (bO l.l p)):=by
 have key:∃ o,m6 (l,wi p,wi 0,wi 0,())=some o∧o=(wi (bO l.l p),()):=by
  unfold m6
  refine bU (fun i z=>z=(l,wi p,wi (bO (l.l.take i) p),wi i,())) l.l.length _ ?_ ?_ rfl (by show _ < 281474976710656;omega)
  ·rintro i z hi rfl
   have hc:bO (l.l.take (i+1)) p=bO (l.l.take i) p+if W.eq (nth l.l i) (wi p)=true then 1 else 0:=by
    unfold bO;rw [du hi,List.countP_append,List.countP_cons,List.countP_nil,Nat.zero_add]
   have hle:bO (l.l.take i) p≤i:=by unfold bO;refine Nat.le_trans List.countP_le_length ?_;rw [List.length_take];omega
   simp only [q9,ak,an,ae,aM l hi,Sl.get_wi l hi,if_true,aj,aO l hi]
   rw [hc]
   cases W.eq (nth l.l i) (wi p) with
   | true=>
    simp only [if_true]
    rw [dm (show bO (l.l.take i) p < 1000 by omega)]
    exact ⟨_,rfl,rfl⟩
   | false=>exact ⟨_,rfl,rfl⟩
  ·rintro z rfl
   simp only [q9,ak,ae,aS l]
   exact ⟨_,rfl,by rw [List.take_length]⟩
 obtain ⟨o,h1,rfl⟩:=key
 unfold sZ EN
 simp only [an,show m6 (l,wi p,W.of .i64 0,W.of .i64 0,())=_ from h1,aj,ae]
theorem adt (s:TNames) (hring:RingOk s.Free) {nn:Nat} (hn:nn≤96) (h1n:1≤nn) (fl:Sl 216 TRen) (hfl:fl.l.length≤100):∃ b,sY s (wi nn) fl=some b∧(b=true ↔ lq nn (cw s fl.l)∧(cw s fl.l).length=nn - 1):=by
 obtain ⟨r1,e1,l1⟩:=Qp hring
 have hl1:r1.l.length≤96:=by rw [l1];exact (jI hring).1
 have hdl:(cz s).length=15:=by unfold cz;simp
 have key1:∃ o,mZ (wi nn,fl,s,r1,wi (0+1),())=some o∧∃ a:Sl 8 (W .i64),o=(wi nn,fl,a,())∧a.l=r1.l++cz s:=by
  unfold mZ
  refine bU (fun i z=>∃ a:Sl 8 (W .i64),z=(wi nn,fl,s,a,wi (i+1),())∧a.l=r1.l++(cz s).take i) 15 _ ?_ ?_ ⟨r1,rfl,by simp⟩ (by decide)
  ·rintro i z hi ⟨a,rfl,ha⟩
   have hlen:a.l.length≤200:=by rw [ha,List.length_append,List.length_take];omega
   obtain ⟨r,hr1,hr2⟩:=cy (s:=a) (x:=s.Done.get (i+1)) (hb:=rfl) (by unfold aw;omega) (by unfold aw;omega)
   have hlt:W.lt (wi (i+1)) (W.of .i64 16)=true:=(dt (m:=16) (by omega) (by omega)).trans (by simp;omega)
   simp only [zR,ak,an,ae,hlt,if_true,dJ (sm (show i+1≤1000 by omega)),show i+1 < 16 by omega,aj,dm (show i+1 < 1000 by omega),hr1]
   exact ⟨_,rfl,r,rfl,by rw [hr2,ha,O1 s hi,List.append_assoc]⟩
  ·rintro z ⟨a,rfl,ha⟩
   exact ⟨_,rfl,a,rfl,by rw [ha,←hdl,List.take_length]⟩
 obtain ⟨o,e2,a,rfl,la⟩:=key1
 have hal:a.l.length≤200:=by rw [la,List.length_append];omega
 have key2:∃ o,mX (wi nn,fl,a,wi 0,())=some o∧∃ z:Sl 8 (W .i64),o=(wi nn,z,())∧z.l=a.l++cg fl.l:=by
  unfold mX
  refine bU (fun i w=>∃ z:Sl 8 (W .i64),w=(wi nn,fl,z,wi i,())∧z.l=a.l++cg (fl.l.take i)) fl.l.length _ ?_ ?_ ⟨a,rfl,by simp [cg]⟩ (by show _ < 281474976710656;omega)
  ·rintro i w hi ⟨z,rfl,hz⟩
   have hlen:z.l.length≤300:=by rw [hz,List.length_append];have:=pP (fl.l.take i);rw [List.length_take] at this;omega
   obtain ⟨r,hr1,hr2⟩:=cy (s:=z) (x:=(nth fl.l i).Out) (hb:=rfl) (by unfold aw;omega) (by unfold aw;omega)
   have hnx:cg (fl.l.take (i+1))=cg (fl.l.take i)++if W.eq (nth fl.l i).Out (W.of .i64 (-1))=true then [] else [(nth fl.l i).Out]:=by rw [du hi];exact Qd ..
   simp only [qY,ak,an,ae,aM fl hi,Sl.get_wi fl hi,if_true,aj,aO fl hi,hr1,W.ne_eq]
   cases ho:W.eq (nth fl.l i).Out (W.of .i64 (-1)) with
   | true=>exact ⟨_,rfl,z,rfl,by rw [hnx,if_pos ho,List.append_nil];exact hz⟩
   | false=>exact ⟨_,rfl,r,rfl,by rw [hnx,if_neg (by rw [ho];simp),hr2,hz,List.append_assoc]⟩
  ·rintro w ⟨z,rfl,hz⟩
   simp only [qY,ak,ae,aS fl]
   exact ⟨_,rfl,z,rfl,by rw [hz,List.take_length]⟩
 obtain ⟨o,e3,z,rfl,lz⟩:=key2
 have hzL:z.l=cw s fl.l:=by rw [lz,la,l1];rfl
 have hzl:z.l.length≤300:=by rw [lz,List.length_append];have:=pP fl.l;omega
 have key3:mY (wi nn,z,wi (0+1),())=some (if (List.range (nn - 1)).all (fun i=>W.eq (wi (bO z.l (i+1))) (W.of .i64 1))=true then .inr (wi nn,(),z,()) else .inl (wi nn,false,z,())):=by
  unfold mY
  refine bR (fun i=>(wi nn,z,wi (i+1),())) (nn - 1) _ _ _ (fun i hi _=>?_) (fun _=>?_) (by show _ < 281474976710656;omega)
  ·simp only [qZ,ak,an,ae,dt (show i+1≤1000 by omega) (show nn≤1000 by omega),show i+1 < nn by omega,decide_true,if_true,ady z (by omega),aj,dm (show i+1 < 1000 by omega),W.ne_eq]
   cases W.eq (wi (bO z.l (i+1))) (W.of .i64 1)<;>rfl
  ·simp only [qZ,ak,ae,dt (show nn - 1+1≤1000 by omega) (show nn≤1000 by omega),show ¬ nn - 1+1 < nn by omega,decide_false,Bool.false_eq_true,if_false]
 have honce:(List.range (nn - 1)).all (fun i=>W.eq (wi (bO z.l (i+1))) (W.of .i64 1))=true ↔ lq nn (cw s fl.l):=by
  rw [List.all_eq_true,hzL]
  have hle:∀ p,bO (cw s fl.l) p≤1000:=fun p=>by have:bO (cw s fl.l) p≤_:=List.countP_le_length;rw [←hzL] at this ⊢;omega
  constructor
  ·intro h p hp hp'
   have:=h (p - 1) (List.mem_range.2 (by omega))
   rw [show p - 1+1=p by omega,W.eq_iff] at this
   exact Rx (sm (hle p)) (sm (by omega)) this
  ·intro h i hi
   have hi:=List.mem_range.1 hi
   rw [h (i+1) (by omega) (by omega)]
   exact W.eq_self _
 unfold sY EM
 simp only [an,e1,aj,show mZ (wi nn,fl,s,r1,W.of .i64 1,())=_ from e2,show mX (wi nn,fl,a,W.of .i64 0,())=_ from e3,show mY (wi nn,z,W.of .i64 1,())=_ from key3,aL]
 rw [←honce]
 cases (List.range (nn - 1)).all (fun i=>W.eq (wi (bO z.l (i+1))) (W.of .i64 1)) with
 | false=>exact ⟨false,rfl,fun h=>(by cases h),fun h=>(by cases h.1)⟩
 | true=>
  simp only [if_true,Sum.elim_inr,ae,true_and]
  refine ⟨_,rfl,?_⟩
  obtain ⟨m,rfl⟩:∃ m,nn=m+1:=⟨nn - 1,by omega⟩
  rw [lI (by unfold aw;omega),Sl.len_wi,dw z.h.2 (sm (by omega)),decide_eq_true_eq,hzL]
  rfl
def yH (s:TNames) (nn:Nat) (l:List TRen):Prop:=17≤nn∧nn≤96∧iy s.Map (wi nn)∧iy s.Done (wi nn)∧je s.Free (wi nn)∧((∀ i,i < l.length→dV (fun x=>0≤x.n) s l i)∧cR s l l.length=s.Map)∧lq nn (cw s l)∧(cw s l).length=nn - 1
theorem adr (s:TNames) {nn:Nat} (hnn:nn≤1000) (fl:Sl 216 TRen) (hfl:fl.l.length≤100):∃ b,kd s (wi nn) fl=some b∧(b=true ↔ yH s nn fl.l):=by
 unfold kd EK yH
 have c1:W.lt (wi nn) (W.of .i64 17)=decide (nn≤16):=by unfold W.lt;rw [aP (sm hnn),show (W.of .i64 17).n=17 from rfl];exact decide_eq_decide.2 (by omega)
 have c2:W.gt (wi nn) (W.of .i64 96)=decide (96 < nn):=by unfold W.gt;rw [aP (sm hnn),show (W.of .i64 96).n=96 from rfl];exact decide_eq_decide.2 (by omega)
 obtain ⟨b1,e1,g1⟩:=Qq s.Map (wi nn)
 obtain ⟨b2,e2,g2⟩:=Qq s.Done (wi nn)
 obtain ⟨b3,e3,g3⟩:=adp s.Free (wi nn)
 simp only [ak,ae,an,c1,c2,e1,e2,e3,aj,decide_eq_true_eq]
 by_cases h1:nn≤16
 ·rw [if_pos h1];exact ⟨false,rfl,fun h=>(by cases h),fun h=>by omega⟩
 by_cases h2:96 < nn
 ·rw [if_neg h1,if_pos h2];exact ⟨false,rfl,fun h=>(by cases h),fun h=>by omega⟩
 rw [if_neg h1,if_neg h2]
 cases b1 with
 | false=>exact ⟨false,rfl,fun h=>(by cases h),fun h=>(by have:=g1.2 h.2.2.1;cases this)⟩
 | true=>
  cases b2 with
  | false=>exact ⟨false,rfl,fun h=>(by cases h),fun h=>(by have:=g2.2 h.2.2.2.1;cases this)⟩
  | true=>
   cases b3 with
   | false=>exact ⟨false,rfl,fun h=>(by cases h),fun h=>(by have:=g3.2 h.2.2.2.2.1;cases this)⟩
   | true=>
    have hfree:=g3.1 rfl
    have hring:=pZ hfree.1
    have key:∃ o,mW (wi nn,fl,s,s.Done,W.of .u64 0,wi 0,())=some o∧(((∀ i,i < fl.l.length→dV (fun x=>0≤x.n) s fl.l i)∧o=.inr (wi nn,fl,s,(),cR s fl.l fl.l.length,()))∨((¬ ∀ i,i < fl.l.length→dV (fun x=>0≤x.n) s fl.l i)∧∃ m,o=.inl (wi nn,fl,s,false,m,()))):=by
     unfold mW
     refine cX (fun i z=>z=(wi nn,fl,s,cR s fl.l i,gp fl.l i,wi i,())) fl.l.length (dV (fun x=>0≤x.n) s fl.l) (fun o=>∃ m,o=Sum.inl (wi nn,fl,s,false,m,())) (fun o=>o=Sum.inr (wi nn,fl,s,(),cR s fl.l fl.l.length,())) ?_ ?_ rfl (by show _ < 281474976710656;omega)
     ·rintro i z hi rfl hP
      simp only [qX,ak,an,ae,aM fl hi,Sl.get_wi fl hi,if_true,aj,aO fl hi,adA,W.ne_eq]
      unfold dV
      cases h1:W.le (nth fl.l i).Seq (gp fl.l i) with
      | true=>exact .inr ⟨fun h=>(by cases h.1),_,rfl,_,rfl⟩
      | false=>
       cases h2:W.ge (nth fl.l i).Seq s.Seq with
       | true=>exact .inr ⟨fun h=>(by cases h.2.1),_,rfl,_,rfl⟩
       | false=>
        cases hw:fQ (nth fl.l i).Uop with
        | false=>
         simp only [Bool.not_false,Bool.false_eq_true,if_false,if_true,W.eq_dec]
         by_cases h3:(nth fl.l i).Out=W.of .i64 (-1)
         ·by_cases h4:(nth fl.l i).Old=W.of .i64 (-1)
          ·simp only [h3,h4,decide_true,Bool.not_true,Bool.false_eq_true,if_false]
           exact .inl ⟨⟨trivial,trivial,trivial,trivial⟩,_,rfl,by simp only [cR,gp,hw,Bool.false_eq_true,if_false]⟩
          ·simp only [h3,h4,decide_true,decide_false,Bool.not_true,Bool.not_false,Bool.false_eq_true,if_false,if_true]
           exact .inr ⟨fun h=>h.2.2.2.elim,_,rfl,_,rfl⟩
         ·simp only [h3,decide_false,Bool.not_false,if_true]
          exact .inr ⟨fun h=>h.2.2.1.elim,_,rfl,_,rfl⟩
        | true=>
         have hd:=of_decide_eq_true hw
         have hx:aI 16 (nth fl.l i).Uop.Dst=some (nth fl.l i).Uop.Dst.n.toNat:=jv (by omega)
         simp only [Bool.not_true,Bool.false_eq_true,if_false,if_true,W.eq_dec,hx,aj]
         by_cases h3:(nth fl.l i).Out.n < 0
         ·rw [if_pos (W.lt_n.2 h3)]
          exact .inr ⟨fun h=>by omega,_,rfl,_,rfl⟩
         ·rw [if_neg (fun h=>h3 (W.lt_n.1 h))]
          by_cases h4:(nth fl.l i).Old=(cR s fl.l i).get (nth fl.l i).Uop.Dst.n.toNat
          ·simp only [h4,decide_true,Bool.not_true,Bool.false_eq_true,if_false]
           exact .inl ⟨⟨trivial,trivial,by omega,trivial⟩,_,rfl,by simp only [cR,gp,hw,if_true]⟩
          ·simp only [h4,decide_false,Bool.not_false,Bool.false_eq_true,if_false,if_true]
           exact .inr ⟨fun h=>h.2.2.2.elim,_,rfl,_,rfl⟩
     ·rintro z rfl hP
      simp only [qX,ak,ae,aS fl]
      exact ⟨_,rfl,rfl⟩
    obtain ⟨o,e5,h5⟩:=key
    simp only [Bool.not_true,Bool.false_eq_true,if_false,show mW (wi nn,fl,s,s.Done,W.of .u64 0,W.of .i64 0,())=_ from e5,aj,aL]
    rcases h5 with ⟨h6,rfl⟩ | ⟨h6,m,rfl⟩
    ·obtain ⟨b4,e6,g6⟩:=adt s hring (nn:=nn) (by omega) (by omega) fl hfl
     simp only [Sum.elim_inr,ak,an,e6,aj,ae]
     by_cases hm:cR s fl.l fl.l.length=s.Map
     ·rw [if_pos (FX.2 hm)]
      exact ⟨b4,rfl,fun h=>⟨by omega,by omega,g1.1 rfl,g2.1 rfl,hfree,⟨h6,hm⟩,g6.1 h⟩,fun h=>g6.2 h.2.2.2.2.2.2⟩
     ·rw [if_neg (fun h=>hm (FX.1 h))]
      exact ⟨false,rfl,fun h=>(by cases h),fun h=>(hm h.2.2.2.2.2.1.2).elim⟩
    ·exact ⟨false,rfl,fun h=>(by cases h),fun h=>(h6 h.2.2.2.2.2.1.1).elim⟩
theorem Q7 {g g':W .i64→Prop} {s:TNames} {l:List TRen} {i:Nat} (h:dV g s l i) (hg:fQ (nth l i).Uop=true→g (nth l i).Out→g' (nth l i).Out):dV g' s l i:=by
 unfold dV at h ⊢
 refine ⟨h.1,h.2.1,?_⟩
 have h3:=h.2.2
 by_cases hw:fQ (nth l i).Uop=true
 ·rw [if_pos hw] at h3 ⊢
  exact ⟨hg hw h3.1,h3.2⟩
 ·rw [if_neg hw] at h3 ⊢
  exact h3
theorem aaK (s:TNames) {nn:Nat} (l:List TRen) (hl:l.length≤100):yG s nn l ↔ yH s nn l:=by
 unfold yG yH
 have hlen:je s.Free (wi nn)→(cw s l).length≤1000:=fun h=>by
  have:=(jI (pZ h.1)).1
  unfold cw
  rw [List.length_append,List.length_append,show (cz s).length=15 by unfold cz;simp]
  have:=pP l;omega
 constructor
 ·rintro ⟨h1,h2,h3,h4,h5,⟨h6,h7⟩,h8,h9⟩
  refine ⟨h1,h2,h3,h4,h5,⟨fun i hi=>Q7 (h6 i hi) fun hw hne=>?_,h7⟩,h8,(Qg (hlen h5) (by omega) (by omega) h8).2 h9⟩
  have hm:(nth l i).Out∈cw s l:=by
   unfold cw cg
   refine List.mem_append_right _ (List.mem_map.2 ⟨nth l i,List.mem_filter.2 ⟨lp hi,?_⟩,rfl⟩)
   rw [W.eq_dec];simpa using hne
  have:=of_decide_eq_true (h9 _ hm)
  show 0≤(nth l i).Out.n
  omega
 ·rintro ⟨h1,h2,h3,h4,h5,⟨h6,h7⟩,h8,h9⟩
  refine ⟨h1,h2,h3,h4,h5,⟨fun i hi=>Q7 (h6 i hi) fun hw hge he=>?_,h7⟩,h8,(Qg (hlen h5) (by omega) (by omega) h8).1 h9⟩
  have:0≤(nth l i).Out.n:=hge
  rw [he] at this
  revert this;decide
end Go.Proofs.YtnpgljilkkipkaaGreat
