/- YtnpgljilkkipkaaGreatBreak7: rule 3 of a core as the document has it; both are one. No statement of the seat is proved here. -/
import Derived.Test.YtnpgljilkkipkaaGreatBreak6
set_option linter.unusedSimpArgs false
set_option linter.unusedVariables false
set_option maxRecDepth 100000
namespace Go.Proofs.YtnpgljilkkipkaaGreat
open Go Go.A2
theorem adG (l:Sl 8 (W .i64)) (hl:l.l.length≤1000) (p:Nat):tq l (wi p)=some (wi (bP l.l p)):=by
 have key:∃ o,nh (l,wi p,wi 0,wi 0,())=some o∧o=(wi (bP l.l p),()):=by
  unfold nh
  refine bK (fun i z=>z=(l,wi p,wi (bP (l.l.take i) p),wi i,())) l.l.length _ ?_ ?_ rfl (by show _ < 281474976710656;omega)
  ·rintro i z hi rfl
   have hc:bP (l.l.take (i+1)) p=bP (l.l.take i) p+if W.eq (nth l.l i) (wi p)=true then 1 else 0:=by
    unfold bP;rw [dv hi,List.countP_append,List.countP_cons,List.countP_nil,Nat.zero_add]
   have hle:bP (l.l.take i) p≤i:=by unfold bP;refine Nat.le_trans List.countP_le_length ?_;rw [List.length_take];omega
   simp only [rp,ak,an,ae,aK l hi,Sl.get_wi l hi,if_true,aj,aN l hi]
   rw [hc]
   cases W.eq (nth l.l i) (wi p) with
   | true=>
    simp only [if_true]
    rw [dn (show bP (l.l.take i) p < 1000 by omega)]
    exact ⟨_,rfl,rfl⟩
   | false=>exact ⟨_,rfl,rfl⟩
  ·rintro z rfl
   simp only [rp,ak,ae,aO l]
   exact ⟨_,rfl,by rw [List.take_length]⟩
 obtain ⟨o,h1,rfl⟩:=key
 unfold tq EZ
 simp only [an,show nh (l,wi p,W.of .i64 0,W.of .i64 0,())=_ from h1,aj,ae]
theorem adA (s:TNames) (hring:RingOk s.Free) {nn:Nat} (hn:nn≤96) (h1n:1≤nn) (fl:Sl 216 TRen) (hfl:fl.l.length≤100):∃ b,tp s (wi nn) fl=some b∧(b=true ↔ lx nn (cw s fl.l)∧(cw s fl.l).length=nn - 1):=by
 obtain ⟨r1,e1,l1⟩:=Qv hring
 have hl1:r1.l.length≤96:=by rw [l1];exact (jJ hring).1
 have hdl:(cz s).length=15:=by unfold cz;simp
 have key1:∃ o,ng (wi nn,fl,s,r1,wi (0+1),())=some o∧∃ a:Sl 8 (W .i64),o=(wi nn,fl,a,())∧a.l=r1.l++cz s:=by
  unfold ng
  refine bK (fun i z=>∃ a:Sl 8 (W .i64),z=(wi nn,fl,s,a,wi (i+1),())∧a.l=r1.l++(cz s).take i) 15 _ ?_ ?_ ⟨r1,rfl,by simp⟩ (by decide)
  ·rintro i z hi ⟨a,rfl,ha⟩
   have hlen:a.l.length≤200:=by rw [ha,List.length_append,List.length_take];omega
   obtain ⟨r,hr1,hr2⟩:=cy (s:=a) (x:=s.Done.get (i+1)) (hb:=rfl) (by unfold aw;omega) (by unfold aw;omega)
   have hlt:W.lt (wi (i+1)) (W.of .i64 16)=true:=(du (m:=16) (by omega) (by omega)).trans (by simp;omega)
   simp only [Aa,ak,an,ae,hlt,if_true,dJ (sm (show i+1≤1000 by omega)),show i+1 < 16 by omega,aj,dn (show i+1 < 1000 by omega),hr1]
   exact ⟨_,rfl,r,rfl,by rw [hr2,ha,O4 s hi,List.append_assoc]⟩
  ·rintro z ⟨a,rfl,ha⟩
   exact ⟨_,rfl,a,rfl,by rw [ha,←hdl,List.take_length]⟩
 obtain ⟨o,e2,a,rfl,la⟩:=key1
 have hal:a.l.length≤200:=by rw [la,List.length_append];omega
 have key2:∃ o,na (wi nn,fl,a,wi 0,())=some o∧∃ z:Sl 8 (W .i64),o=(wi nn,z,())∧z.l=a.l++ch fl.l:=by
  unfold na
  refine bK (fun i w=>∃ z:Sl 8 (W .i64),w=(wi nn,fl,z,wi i,())∧z.l=a.l++ch (fl.l.take i)) fl.l.length _ ?_ ?_ ⟨a,rfl,by simp [ch]⟩ (by show _ < 281474976710656;omega)
  ·rintro i w hi ⟨z,rfl,hz⟩
   have hlen:z.l.length≤300:=by rw [hz,List.length_append];have:=pX (fl.l.take i);rw [List.length_take] at this;omega
   obtain ⟨r,hr1,hr2⟩:=cy (s:=z) (x:=(nth fl.l i).Out) (hb:=rfl) (by unfold aw;omega) (by unfold aw;omega)
   have hnx:ch (fl.l.take (i+1))=ch (fl.l.take i)++if W.eq (nth fl.l i).Out (W.of .i64 (-1))=true then [] else [(nth fl.l i).Out]:=by rw [dv hi];exact Qi ..
   simp only [rm,ak,an,ae,aK fl hi,Sl.get_wi fl hi,if_true,aj,aN fl hi,hr1,W.ne_eq]
   cases ho:W.eq (nth fl.l i).Out (W.of .i64 (-1)) with
   | true=>exact ⟨_,rfl,z,rfl,by rw [hnx,if_pos ho,List.append_nil];exact hz⟩
   | false=>exact ⟨_,rfl,r,rfl,by rw [hnx,if_neg (by rw [ho];simp),hr2,hz,List.append_assoc]⟩
  ·rintro w ⟨z,rfl,hz⟩
   simp only [rm,ak,ae,aO fl]
   exact ⟨_,rfl,z,rfl,by rw [hz,List.take_length]⟩
 obtain ⟨o,e3,z,rfl,lz⟩:=key2
 have hzL:z.l=cw s fl.l:=by rw [lz,la,l1];rfl
 have hzl:z.l.length≤300:=by rw [lz,List.length_append];have:=pX fl.l;omega
 have key3:nf (wi nn,z,wi (0+1),())=some (if (List.range (nn - 1)).all (fun i=>W.eq (wi (bP z.l (i+1))) (W.of .i64 1))=true then .inr (wi nn,(),z,()) else .inl (wi nn,false,z,())):=by
  unfold nf
  refine bS (fun i=>(wi nn,z,wi (i+1),())) (nn - 1) _ _ _ (fun i hi _=>?_) (fun _=>?_) (by show _ < 281474976710656;omega)
  ·simp only [rn,ak,an,ae,du (show i+1≤1000 by omega) (show nn≤1000 by omega),show i+1 < nn by omega,decide_true,if_true,adG z (by omega),aj,dn (show i+1 < 1000 by omega),W.ne_eq]
   cases W.eq (wi (bP z.l (i+1))) (W.of .i64 1)<;>rfl
  ·simp only [rn,ak,ae,du (show nn - 1+1≤1000 by omega) (show nn≤1000 by omega),show ¬ nn - 1+1 < nn by omega,decide_false,Bool.false_eq_true,if_false]
 have honce:(List.range (nn - 1)).all (fun i=>W.eq (wi (bP z.l (i+1))) (W.of .i64 1))=true ↔ lx nn (cw s fl.l):=by
  rw [List.all_eq_true,hzL]
  have hle:∀ p,bP (cw s fl.l) p≤1000:=fun p=>by have:bP (cw s fl.l) p≤_:=List.countP_le_length;rw [←hzL] at this ⊢;omega
  constructor
  ·intro h p hp hp'
   have:=h (p - 1) (List.mem_range.2 (by omega))
   rw [show p - 1+1=p by omega,W.eq_iff] at this
   exact RC (sm (hle p)) (sm (by omega)) this
  ·intro h i hi
   have hi:=List.mem_range.1 hi
   rw [h (i+1) (by omega) (by omega)]
   exact W.eq_self _
 unfold tp EY
 simp only [an,e1,aj,show ng (wi nn,fl,s,r1,W.of .i64 1,())=_ from e2,show na (wi nn,fl,a,W.of .i64 0,())=_ from e3,show nf (wi nn,z,W.of .i64 1,())=_ from key3,aM]
 rw [←honce]
 cases (List.range (nn - 1)).all (fun i=>W.eq (wi (bP z.l (i+1))) (W.of .i64 1)) with
 | false=>exact ⟨false,rfl,fun h=>(by cases h),fun h=>(by cases h.1)⟩
 | true=>
  simp only [if_true,Sum.elim_inr,ae,true_and]
  refine ⟨_,rfl,?_⟩
  obtain ⟨m,rfl⟩:∃ m,nn=m+1:=⟨nn - 1,by omega⟩
  rw [lL (by unfold aw;omega),Sl.len_wi,di z.h.2 (sm (by omega)),decide_eq_true_eq,hzL]
  rfl
def yS (s:TNames) (nn:Nat) (l:List TRen):Prop:=17≤nn∧nn≤96∧iA s.Map (wi nn)∧iA s.Done (wi nn)∧jf s.Free (wi nn)∧((∀ i,i < l.length→dV (fun x=>0≤x.n) s l i)∧cS s l l.length=s.Map)∧lx nn (cw s l)∧(cw s l).length=nn - 1
theorem ady (s:TNames) {nn:Nat} (hnn:nn≤1000) (fl:Sl 216 TRen) (hfl:fl.l.length≤100):∃ b,ke s (wi nn) fl=some b∧(b=true ↔ yS s nn fl.l):=by
 unfold ke EW yS
 have c1:W.lt (wi nn) (W.of .i64 17)=decide (nn≤16):=by unfold W.lt;rw [aQ (sm hnn),show (W.of .i64 17).n=17 from rfl];exact decide_eq_decide.2 (by omega)
 have c2:W.gt (wi nn) (W.of .i64 96)=decide (96 < nn):=by unfold W.gt;rw [aQ (sm hnn),show (W.of .i64 96).n=96 from rfl];exact decide_eq_decide.2 (by omega)
 obtain ⟨b1,e1,g1⟩:=Qw s.Map (wi nn)
 obtain ⟨b2,e2,g2⟩:=Qw s.Done (wi nn)
 obtain ⟨b3,e3,g3⟩:=adw s.Free (wi nn)
 simp only [ak,ae,an,c1,c2,e1,e2,e3,aj,decide_eq_true_eq]
 by_cases h1:nn≤16
 ·rw [if_pos h1];exact ⟨false,rfl,fun h=>(by cases h),fun h=>by omega⟩
 by_cases h2:96 < nn
 ·rw [if_neg h1,if_pos h2];exact ⟨false,rfl,fun h=>(by cases h),fun h=>by omega⟩
 rw [if_neg h1,if_neg h2]
 cases b1 with
 | false=>exact ⟨false,rfl,fun h=>(by cases h),fun h=>(by have:=g1.2 h.2.2.1;cases this)⟩
 | true=>
  cases b2 with
  | false=>exact ⟨false,rfl,fun h=>(by cases h),fun h=>(by have:=g2.2 h.2.2.2.1;cases this)⟩
  | true=>
   cases b3 with
   | false=>exact ⟨false,rfl,fun h=>(by cases h),fun h=>(by have:=g3.2 h.2.2.2.2.1;cases this)⟩
   | true=>
    have hfree:=g3.1 rfl
    have hring:=qg hfree.1
    have key:∃ o,m9 (wi nn,fl,s,s.Done,W.of .u64 0,wi 0,())=some o∧(((∀ i,i < fl.l.length→dV (fun x=>0≤x.n) s fl.l i)∧o=.inr (wi nn,fl,s,(),cS s fl.l fl.l.length,()))∨((¬ ∀ i,i < fl.l.length→dV (fun x=>0≤x.n) s fl.l i)∧∃ m,o=.inl (wi nn,fl,s,false,m,()))):=by
     unfold m9
     refine cR (fun i z=>z=(wi nn,fl,s,cS s fl.l i,gq fl.l i,wi i,())) fl.l.length (dV (fun x=>0≤x.n) s fl.l) (fun o=>∃ m,o=Sum.inl (wi nn,fl,s,false,m,())) (fun o=>o=Sum.inr (wi nn,fl,s,(),cS s fl.l fl.l.length,())) ?_ ?_ rfl (by show _ < 281474976710656;omega)
     ·rintro i z hi rfl hP
      simp only [rl,ak,an,ae,aK fl hi,Sl.get_wi fl hi,if_true,aj,aN fl hi,adI,W.ne_eq]
      unfold dV
      cases h1:W.le (nth fl.l i).Seq (gq fl.l i) with
      | true=>exact .inr ⟨fun h=>(by cases h.1),_,rfl,_,rfl⟩
      | false=>
       cases h2:W.ge (nth fl.l i).Seq s.Seq with
       | true=>exact .inr ⟨fun h=>(by cases h.2.1),_,rfl,_,rfl⟩
       | false=>
        cases hw:fQ (nth fl.l i).Uop with
        | false=>
         simp only [Bool.not_false,Bool.false_eq_true,if_false,if_true,W.eq_dec]
         by_cases h3:(nth fl.l i).Out=W.of .i64 (-1)
         ·by_cases h4:(nth fl.l i).Old=W.of .i64 (-1)
          ·simp only [h3,h4,decide_true,Bool.not_true,Bool.false_eq_true,if_false]
           exact .inl ⟨⟨trivial,trivial,trivial,trivial⟩,_,rfl,by simp only [cS,gq,hw,Bool.false_eq_true,if_false]⟩
          ·simp only [h3,h4,decide_true,decide_false,Bool.not_true,Bool.not_false,Bool.false_eq_true,if_false,if_true]
           exact .inr ⟨fun h=>h.2.2.2.elim,_,rfl,_,rfl⟩
         ·simp only [h3,decide_false,Bool.not_false,if_true]
          exact .inr ⟨fun h=>h.2.2.1.elim,_,rfl,_,rfl⟩
        | true=>
         have hd:=of_decide_eq_true hw
         have hx:aI 16 (nth fl.l i).Uop.Dst=some (nth fl.l i).Uop.Dst.n.toNat:=jw (by omega)
         simp only [Bool.not_true,Bool.false_eq_true,if_false,if_true,W.eq_dec,hx,aj]
         by_cases h3:(nth fl.l i).Out.n < 0
         ·rw [if_pos (W.lt_n.2 h3)]
          exact .inr ⟨fun h=>by omega,_,rfl,_,rfl⟩
         ·rw [if_neg (fun h=>h3 (W.lt_n.1 h))]
          by_cases h4:(nth fl.l i).Old=(cS s fl.l i).get (nth fl.l i).Uop.Dst.n.toNat
          ·simp only [h4,decide_true,Bool.not_true,Bool.false_eq_true,if_false]
           exact .inl ⟨⟨trivial,trivial,by omega,trivial⟩,_,rfl,by simp only [cS,gq,hw,if_true]⟩
          ·simp only [h4,decide_false,Bool.not_false,Bool.false_eq_true,if_false,if_true]
           exact .inr ⟨fun h=>h.2.2.2.elim,_,rfl,_,rfl⟩
     ·rintro z rfl hP
      simp only [rl,ak,ae,aO fl]
      exact ⟨_,rfl,rfl⟩
    obtain ⟨o,e5,h5⟩:=key
    simp only [Bool.not_true,Bool.false_eq_true,if_false,show m9 (wi nn,fl,s,s.Done,W.of .u64 0,W.of .i64 0,())=_ from e5,aj,aM]
    rcases h5 with ⟨h6,rfl⟩ | ⟨h6,m,rfl⟩
    ·obtain ⟨b4,e6,g6⟩:=adA s hring (nn:=nn) (by omega) (by omega) fl hfl
     simp only [Sum.elim_inr,ak,an,e6,aj,ae]
     by_cases hm:cS s fl.l fl.l.length=s.Map
     ·rw [if_pos (Gc.2 hm)]
      exact ⟨b4,rfl,fun h=>⟨by omega,by omega,g1.1 rfl,g2.1 rfl,hfree,⟨h6,hm⟩,g6.1 h⟩,fun h=>g6.2 h.2.2.2.2.2.2⟩
     ·rw [if_neg (fun h=>hm (Gc.1 h))]
      exact ⟨false,rfl,fun h=>(by cases h),fun h=>(hm h.2.2.2.2.2.1.2).elim⟩
    ·exact ⟨false,rfl,fun h=>(by cases h),fun h=>(h6 h.2.2.2.2.2.1.1).elim⟩
theorem Rf {g g':W .i64→Prop} {s:TNames} {l:List TRen} {i:Nat} (h:dV g s l i) (hg:fQ (nth l i).Uop=true→g (nth l i).Out→g' (nth l i).Out):dV g' s l i:=by
 unfold dV at h ⊢
 refine ⟨h.1,h.2.1,?_⟩
 have h3:=h.2.2
 by_cases hw:fQ (nth l i).Uop=true
 ·rw [if_pos hw] at h3 ⊢
  exact ⟨hg hw h3.1,h3.2⟩
 ·rw [if_neg hw] at h3 ⊢
  exact h3
theorem aaR (s:TNames) {nn:Nat} (l:List TRen) (hl:l.length≤100):yR s nn l ↔ yS s nn l:=by
 unfold yR yS
 have hlen:jf s.Free (wi nn)→(cw s l).length≤1000:=fun h=>by
  have:=(jJ (qg h.1)).1
  unfold cw
  rw [List.length_append,List.length_append,show (cz s).length=15 by unfold cz;simp]
  have:=pX l;omega
 constructor
 ·rintro ⟨h1,h2,h3,h4,h5,⟨h6,h7⟩,h8,h9⟩
  refine ⟨h1,h2,h3,h4,h5,⟨fun i hi=>Rf (h6 i hi) fun hw hne=>?_,h7⟩,h8,(Ql (hlen h5) (by omega) (by omega) h8).2 h9⟩
  have hm:(nth l i).Out∈cw s l:=by
   unfold cw ch
   refine List.mem_append_right _ (List.mem_map.2 ⟨nth l i,List.mem_filter.2 ⟨lv hi,?_⟩,rfl⟩)
   rw [W.eq_dec];simpa using hne
  have:=of_decide_eq_true (h9 _ hm)
  show 0≤(nth l i).Out.n
  omega
 ·rintro ⟨h1,h2,h3,h4,h5,⟨h6,h7⟩,h8,h9⟩
  refine ⟨h1,h2,h3,h4,h5,⟨fun i hi=>Rf (h6 i hi) fun hw hge he=>?_,h7⟩,h8,(Ql (hlen h5) (by omega) (by omega) h8).1 h9⟩
  have:0≤(nth l i).Out.n:=hge
  rw [he] at this
  revert this;decide
end Go.Proofs.YtnpgljilkkipkaaGreat
