/- YtnpgljilkkipkaaGreatAud9: a core's audit. No statement of the seat is proved here. -/
import Derived.Test.YtnpgljilkkipkaaGreatAud8
import Derived.Test.YtnpgljilkkipkaaGreatSame
set_option linter.unusedSimpArgs false
set_option linter.unusedVariables false
set_option maxRecDepth 100000
namespace Go.Proofs.YtnpgljilkkipkaaGreat
open Go Go.A2
def cond (b:Bool) (k:W .i64):List (W .i64):=if b=true then [] else [k]
theorem kU (b:Bool) (k:W .i64):(cond b k).length≤1:=by unfold cond;split<;>simp
theorem fW (r:Sl 8 (W .i64)) (x:W .i64) (h:r.l.length≤100):∃ r':Sl 8 (W .i64),Sl.app? r (Sl.lit 8 [x] rfl:Sl 8 (W .i64))=some r'∧r'.l=r.l++[x]:=cy (by unfold aw;omega) (by unfold aw;omega)
theorem ZZ (r:Sl 8 (W .i64)) (v:W .i64):tP r v=some ((List.range r.l.length).any fun i=>W.eq v (nth r.l i)):=by
 have hr:=r.h.2
 have hL:vh (r,v,Sl.len r,wi 0,())=some (match (List.range r.l.length).find? (fun i=>W.eq v (nth r.l i)) with | some k=>Sum.inl (wi k,()) | none=>Sum.inr ((),())):=by
  unfold vh
  refine yE (fun i=>(r,v,Sl.len r,wi i,())) _ _ (fun k=>Sum.inl (wi k,())) (Sum.inr ((),())) (fun i hi=>?_) ?_ (bt _)
  ·simp only [sy,ak,an,ae,aK _ hi,Sl.get_wi _ hi,if_true,aj,aN _ hi]
   split<;>rfl
  ·simp only [sy,ak,ae,aO,Bool.false_eq_true,if_false]
 unfold tP FP A9 F4
 simp only [an,aM,ae,aY,hL,aj]
 cases hf:(List.range r.l.length).find? (fun i=>W.eq v (nth r.l i)) with
 | none=>
  have:(List.range r.l.length).any (fun i=>W.eq v (nth r.l i))=false:=by
   rw [List.find?_eq_none] at hf
   rw [List.any_eq_false]
   exact hf
  rw [this];rfl
 | some k=>
  have h2:=List.mem_range.1 (List.mem_of_find?_eq_some hf)
  have:(List.range r.l.length).any (fun i=>W.eq v (nth r.l i))=true:=List.any_eq_true.2 ⟨k,List.mem_range.2 h2,(by have:=List.find?_some hf;exact this)⟩
  rw [this]
  have e:W.ge (wi k) (W.of .i64 0)=true:=by rw [W.ge_n,aQ (by omega),aB];omega
  exact congrArg some e
theorem Yn (q1 q2 q3 q4 q5 q6:Bool) (r:List (W .i64)):r++(List.range 6).flatMap (fun j=>cond ([q1,q2,q3,q4,q5,q6].getD j false) (wi (10+j)))=r++cond q1 (W.of .i64 10)++cond q2 (W.of .i64 11)++cond q3 (W.of .i64 12)++cond q4 (W.of .i64 13)++cond q5 (W.of .i64 14)++cond q6 (W.of .i64 15):=by
 simp only [List.append_assoc]
 congr 1
 show cond q1 _++(cond q2 _++(cond q3 _++(cond q4 _++(cond q5 _++(cond q6 _++[])))))=_
 rw [List.append_nil]
 rfl
theorem aaH (r:Sl 8 (W .i64)) (hr:r.l.length≤8) (q1 q2 q3 q4 q5 q6:Bool):∃ o,fp (r,Sl.lit 1 [q1,q2,q3,q4,q5,q6] rfl,W.of .i64 6,W.of .i64 0,())=some o∧o.1.l=r.l++cond q1 (W.of .i64 10)++cond q2 (W.of .i64 11)++cond q3 (W.of .i64 12)++cond q4 (W.of .i64 13)++cond q5 (W.of .i64 14)++cond q6 (W.of .i64 15):=by
 rw [←Yn]
 have key:∃ o,fp (r,Sl.lit 1 [q1,q2,q3,q4,q5,q6] rfl,W.of .i64 6,wi 0,())=some o∧o.1.l=r.l++(List.range 6).flatMap (fun j=>cond ([q1,q2,q3,q4,q5,q6].getD j false) (wi (10+j))):=by
  unfold fp
  refine bK (fun i st=>∃ o:Sl 8 (W .i64),st=(o,Sl.lit 1 [q1,q2,q3,q4,q5,q6] rfl,W.of .i64 6,wi i,())∧o.l=r.l++(List.range i).flatMap (fun j=>cond ([q1,q2,q3,q4,q5,q6].getD j false) (wi (10+j)))∧o.l.length≤8+i) 6 (fun o:Sl 8 (W .i64)×Unit=>o.1.l=r.l++(List.range 6).flatMap (fun j=>cond ([q1,q2,q3,q4,q5,q6].getD j false) (wi (10+j)))) ?_ ?_ ⟨r,rfl,by simp,hr⟩ (show 6 < 281474976710656 by omega)
  ·rintro i st hi ⟨o,rfl,ho,hlen⟩
   have hlt:W.lt (wi i) (W.of .i64 6)=true:=by rw [show W.lt (wi i) (W.of .i64 6)=decide (i < 6) from br (m:=6) (cg (by omega)) (cg (by omega))];exact decide_eq_true hi
   have hix:aI (List.length (Sl.lit 1 [q1,q2,q3,q4,q5,q6] rfl:Sl 1 Bool).l) (wi i)=some i:=lk (n:=6) hi (cg (by omega))
   have hadd:W.add (W.of .i64 10) (wi i)=wi (10+i):=zX (n:=10) (cg (by omega))
   simp only [qB,ak,an,ae,hlt,if_true,hix,aj,hadd,dc (show i+1≤aw from cg (by omega)),List.range_succ,List.flatMap_append,List.flatMap_cons,List.flatMap_nil,List.append_nil]
   show ∃ s',(if (!([q1,q2,q3,q4,q5,q6].getD i false))=true then _ else _)=_∧_
   cases hq:[q1,q2,q3,q4,q5,q6].getD i false with
   | true=>exact ⟨_,rfl,o,rfl,by rw [ho];unfold cond;simp,by omega⟩
   | false=>
    obtain ⟨o',o1,o2⟩:=fW o (wi (10+i)) (by omega)
    simp only [Bool.not_false,if_true,o1,aj]
    exact ⟨_,rfl,o',rfl,by rw [o2,ho,List.append_assoc];rfl,by rw [o2,List.length_append];simp;omega⟩
  ·rintro st ⟨o,rfl,ho,_⟩
   have hlt:W.lt (wi 6) (W.of .i64 6)=false:=by rw [show W.lt (wi 6) (W.of .i64 6)=decide (6 < 6) from br (m:=6) (cg (by omega)) (cg (by omega))];rfl
   simp only [qB,ak,ae,hlt,Bool.false_eq_true,if_false]
   exact ⟨_,rfl,ho⟩
 exact key
section doc
variable (c:TCore) (m:TCoh) (q1 q2 q3 q4 q5 q6:Bool)
theorem PR (h6:fo c.Sq=some q6) (out:Sl 8 (W .i64)) (ho:out.l.length≤50):∃ r,nA (c,out,())=some ((),r,())∧r.l=out.l++cond q6 (W.of .i64 15):=by
 obtain ⟨r,r1,r2⟩:=fW out (W.of .i64 15) (by omega)
 simp only [nA,Ay,ak,an,ae,h6,aj,u5,Az,r1]
 cases q6
 ·exact ⟨r,rfl,r2⟩
 ·exact ⟨out,rfl,(List.append_nil _).symm⟩
theorem PQ (h6:fo c.Sq=some q6) (h5:fR c.Lq=some q5) (out:Sl 8 (W .i64)) (ho:out.l.length≤49):∃ r,nz (c,out,())=some ((),r,())∧r.l=out.l++cond q5 (W.of .i64 14)++cond q6 (W.of .i64 15):=by
 obtain ⟨r,r1,r2⟩:=fW out (W.of .i64 14) (by omega)
 simp only [nz,Ax,ak,an,ae,h5,aj,r1]
 cases q5
 ·obtain ⟨s,s1,s2⟩:=PR c q6 h6 r (by rw [r2,List.length_append];simp;omega)
  simp only [Bool.not_false,if_true,s1,aj]
  exact ⟨s,rfl,by rw [s2,r2];rfl⟩
 ·obtain ⟨s,s1,s2⟩:=PR c q6 h6 out (by omega)
  simp only [Bool.not_true,Bool.false_eq_true,if_false,s1,aj]
  exact ⟨s,rfl,by rw [s2];unfold cond;simp⟩
theorem PO (h6:fo c.Sq=some q6) (h5:fR c.Lq=some q5) (h4:gD c.Conf c.Pred=some q4) (out:Sl 8 (W .i64)) (ho:out.l.length≤48):∃ r,kz (c,out,())=some ((),r,())∧r.l=out.l++cond q4 (W.of .i64 13)++cond q5 (W.of .i64 14)++cond q6 (W.of .i64 15):=by
 obtain ⟨r,r1,r2⟩:=fW out (W.of .i64 13) (by omega)
 simp only [kz,Aw,ak,an,ae,h4,aj,r1]
 cases q4
 ·obtain ⟨s,s1,s2⟩:=PQ c q5 q6 h6 h5 r (by rw [r2,List.length_append];simp;omega)
  simp only [Bool.not_false,if_true,s1,aj]
  exact ⟨s,rfl,by rw [s2,r2];rfl⟩
 ·obtain ⟨s,s1,s2⟩:=PQ c q5 q6 h6 h5 out (by omega)
  simp only [Bool.not_true,Bool.false_eq_true,if_false,s1,aj]
  exact ⟨s,rfl,by rw [s2];unfold cond;simp⟩
theorem PN (t:Bool) (out:Sl 8 (W .i64)) (ho:out.l.length≤47):∃ r,iS (c,out,(!t),())=some (c,r,())∧r.l=out.l++cond t (W.of .i64 12)∧r.l.length≤48:=by
 obtain ⟨r,r1,r2⟩:=fW out (W.of .i64 12) (by omega)
 simp only [iS,Av,ak,an,ae,aj,r1]
 cases t
 ·exact ⟨r,rfl,r2,by rw [r2,List.length_append];simp;omega⟩
 ·exact ⟨out,rfl,(List.append_nil _).symm,by omega⟩
theorem PM (h6:fo c.Sq=some q6) (h5:fR c.Lq=some q5) (h4:gD c.Conf c.Pred=some q4) (h3:iL c.Sb (vC m.Mem m.Caches.l m.Caches.l.length)=some q3) (out:Sl 8 (W .i64)) (ho:out.l.length≤47):∃ r,ny (c,m,out,q1,q2,())=some ((),r,())∧r.l=out.l++cond (!(q1&&q2) || q3) (W.of .i64 12)++cond q4 (W.of .i64 13)++cond q5 (W.of .i64 14)++cond q6 (W.of .i64 15):=by
 simp only [ny,Au,ak,an,ae,ahq,h3,aj]
 obtain ⟨r,r1,r2,r3⟩:=PN c true out ho
 have r1':iS (c,out,false,())=some (c,r,()):=r1
 obtain ⟨s,s1,s2⟩:=PO c q4 q5 q6 h6 h5 h4 r r3
 obtain ⟨r',r1'',r2',r3'⟩:=PN c q3 out ho
 obtain ⟨s',s1',s2'⟩:=PO c q4 q5 q6 h6 h5 h4 r' r3'
 cases q1
 ·simp only [Bool.false_eq_true,if_false,r1',aj,s1]
  exact ⟨s,rfl,by rw [s2,r2];rfl⟩
 ·cases q2
  ·simp only [Bool.false_eq_true,if_false,if_true,r1',aj,s1]
   exact ⟨s,rfl,by rw [s2,r2];rfl⟩
  ·simp only [if_true,r1'',aj,s1']
   exact ⟨s',rfl,by rw [s2',r2'];rfl⟩
theorem PL (h6:fo c.Sq=some q6) (h5:fR c.Lq=some q5) (h4:gD c.Conf c.Pred=some q4) (h3:iL c.Sb (vC m.Mem m.Caches.l m.Caches.l.length)=some q3) (out:Sl 8 (W .i64)) (ho:out.l.length≤46):∃ r,nx (c,m,out,q1,q2,())=some ((),r,())∧r.l=out.l++cond q2 (W.of .i64 11)++cond (!(q1&&q2) || q3) (W.of .i64 12)++cond q4 (W.of .i64 13)++cond q5 (W.of .i64 14)++cond q6 (W.of .i64 15):=by
 obtain ⟨r,r1,r2⟩:=fW out (W.of .i64 11) (by omega)
 simp only [nx,As,ak,an,ae,aj,r1]
 cases q2
 ·obtain ⟨s,s1,s2⟩:=PM c m q1 false q3 q4 q5 q6 h6 h5 h4 h3 r (by rw [r2,List.length_append];simp;omega)
  simp only [Bool.not_false,if_true,s1,aj]
  exact ⟨s,rfl,by rw [s2,r2];rfl⟩
 ·obtain ⟨s,s1,s2⟩:=PM c m q1 true q3 q4 q5 q6 h6 h5 h4 h3 out (by omega)
  simp only [Bool.not_true,Bool.false_eq_true,if_false,s1,aj]
  exact ⟨s,rfl,by rw [s2,show out.l++cond true (W.of .i64 11)=out.l from List.append_nil _]⟩
theorem j9 (h6:fo c.Sq=some q6) (h5:fR c.Lq=some q5) (h4:gD c.Conf c.Pred=some q4) (h3:iL c.Sb (vC m.Mem m.Caches.l m.Caches.l.length)=some q3) (h2:mH m=some q2) (h1:W.eq (Sl.len c.Shadow) (Sl.len m.Mem)=q1) (out:Sl 8 (W .i64)) (ho:out.l.length≤8):∃ r,nB (c,m,out,())=some ((),r,())∧r.l=out.l++cond q1 (W.of .i64 10)++cond q2 (W.of .i64 11)++cond (!(q1&&q2) || q3) (W.of .i64 12)++cond q4 (W.of .i64 13)++cond q5 (W.of .i64 14)++cond q6 (W.of .i64 15):=by
 obtain ⟨r,r1,r2⟩:=fW out (W.of .i64 10) (by omega)
 simp only [nB,AA,ak,an,ae,h2,h1,aj,r1]
 cases q1
 ·obtain ⟨s,s1,s2⟩:=PL c m false q2 q3 q4 q5 q6 h6 h5 h4 h3 r (by rw [r2,List.length_append];simp;omega)
  simp only [Bool.not_false,if_true,s1,aj]
  exact ⟨s,rfl,by rw [s2,r2];rfl⟩
 ·obtain ⟨s,s1,s2⟩:=PL c m true q2 q3 q4 q5 q6 h6 h5 h4 h3 out (by omega)
  simp only [Bool.not_true,Bool.false_eq_true,if_false,s1,aj]
  exact ⟨s,rfl,by rw [s2,show out.l++cond true (W.of .i64 10)=out.l from List.append_nil _]⟩
end doc
theorem OY (c:TCore) (m:TCoh) (hc:LightC c):∃ r,iI c m=some r∧kj c m=some r∧r.l.length≤14:=by
 obtain ⟨b,b1,b2,b3,b4⟩:=Sy c hc
 have e0:W.eq (Sl.len b) (W.of .i64 1)=decide (b.l.length=1):=by rw [Sl.len_wi];exact di (m:=1) b.h.2 (cg (by omega))
 unfold iI DI kj Fy
 simp only [ak,an,ae,aM,b1,b2,aj,ZZ,e0]
 rcases b4 with hb | ⟨hok,hne⟩
 ·have h1:(List.range b.l.length).any (fun i=>W.eq (W.of .i64 1) (nth b.l i))=true:=by rw [hb];rfl
  have h2:aI b.l.length (W.of .i64 0)=some 0:=by rw [hb];rfl
  have h3:W.eq (b.l.getD 0 (W.of .i64 0)) (W.of .i64 1)=true:=by rw [hb];rfl
  have h4:decide (b.l.length=1)=true:=by rw [hb];rfl
  have h5:b=(Sl.lit 8 [W.of .i64 1] rfl:Sl 8 (W .i64)):=Sl.ext hb
  simp only [h1,h2,h3,h4,if_true,aj,kA,lR,ak,ae,Sum.elim_inl]
  exact ⟨b,congrArg some h5.symm,rfl,by omega⟩
 ·have hne':∀ i,i < b.l.length→W.eq (nth b.l i) (W.of .i64 1)=false:=fun i hi=>by
   have:=List.all_eq_true.1 hne (nth b.l i) (lv hi)
   rwa [W.ne_eq,Bool.not_eq_true'] at this
  have h1:(List.range b.l.length).any (fun i=>W.eq (W.of .i64 1) (nth b.l i))=false:=by
   rw [List.any_eq_false]
   intro i hi hh
   have:=hne' i (List.mem_range.1 hi)
   rw [W.eq_iff.2 (W.eq_iff.1 hh).symm] at this
   cases this
  obtain ⟨q2,r1,r2⟩:=SV m
  obtain ⟨q3,s1,s2⟩:=agn c.Sb (vC m.Mem m.Caches.l m.Caches.l.length)
  obtain ⟨q4,p1,p2⟩:=adi hok c.Pred
  obtain ⟨q5,l1,l2⟩:=aaI c.Lq (by have:=hc.Lq;omega)
  obtain ⟨q6,t1,t2⟩:=agu c.Sq (by have:=hc.Sq;omega)
  obtain ⟨q1,hq1⟩:∃ q1,W.eq (Sl.len c.Shadow) (Sl.len m.Mem)=q1:=⟨_,rfl⟩
  obtain ⟨r,k1,k2⟩:=j9 c m q1 q2 q3 q4 q5 q6 t2 l2 p2 s2 r2 hq1 b b3
  obtain ⟨o,o1,o2⟩:=aaH b b3 q1 q2 (!(q1&&q2) || q3) q4 q5 q6
  have hor:o.1=r:=Sl.ext (by rw [o2,k2])
  have hlen:r.l.length≤14:=by
   rw [k2]
   simp only [List.length_append]
   have a1:=kU q1 (W.of .i64 10)
   have a2:=kU q2 (W.of .i64 11)
   have a3:=kU (!(q1&&q2) || q3) (W.of .i64 12)
   have a4:=kU q4 (W.of .i64 13)
   have a5:=kU q5 (W.of .i64 14)
   have a6:=kU q6 (W.of .i64 15)
   omega
  refine ⟨r,?_,?_,hlen⟩
  ·rw [h1]
   simp only [Bool.false_eq_true,if_false,r1,aj,hq1,p1,l1,t1,ahr,s1]
   cases q1
   ·simp only [Bool.not_false,if_true]
    have o1':fp (b,Sl.lit 1 [false,q2,true,q4,q5,q6] rfl,W.of .i64 6,W.of .i64 0,())=some o:=o1
    rw [o1']
    exact congrArg some hor
   ·cases q2
    ·simp only [Bool.not_false,Bool.not_true,Bool.false_eq_true,if_true,if_false]
     have o1':fp (b,Sl.lit 1 [true,false,true,q4,q5,q6] rfl,W.of .i64 6,W.of .i64 0,())=some o:=o1
     rw [o1']
     exact congrArg some hor
    ·simp only [Bool.not_true,Bool.false_eq_true,if_false]
     have o1':fp (b,Sl.lit 1 [true,true,q3,q4,q5,q6] rfl,W.of .i64 6,W.of .i64 0,())=some o:=o1
     rw [o1']
     exact congrArg some hor
  ·by_cases hl:b.l.length=1
   ·have h2:aI b.l.length (W.of .i64 0)=some 0:=by rw [hl];rfl
    have h3:W.eq (b.l.getD 0 (W.of .i64 0)) (W.of .i64 1)=false:=by rw [lh (by omega)];exact hne' 0 (by omega)
    simp only [decide_eq_true hl,if_true,h2,h3,aj,kA,lR,ak,ae,Bool.false_eq_true,if_false,Sum.elim_inr,k1]
   ·simp only [decide_eq_false hl,Bool.false_eq_true,if_false,aj,kA,lR,ak,ae,Sum.elim_inr,k1]
theorem PX (c:TCore) (m:TCoh):∃ b,gB c m=some b∧(b=true→LightC c):=by
 obtain ⟨b,b1,b2⟩:=aaf c
 unfold gB Es
 simp only [ak,an,ae,aM,b1,aj]
 cases b with
 | false=>exact ⟨false,rfl,fun h=>by cases h⟩
 | true=>
  have hc:=b2 rfl
  have in26:∀ i,i < m.Caches.l.length→uo (m,wi i,wi 0,())=some (if ((List.range (nth m.Caches.l i).Sets.l.length).all fun k=>!W.gt (Sl.len (nth (nth m.Caches.l i).Sets.l k)) (W.of .i64 6))=true then Sum.inr (m,(),wi i,()) else Sum.inl (m,false,wi i,())):=fun i hi=>by
   unfold uo
   refine bS (fun k=>(m,wi i,wi k,())) _ _ (Sum.inl (m,false,wi i,())) (Sum.inr (m,(),wi i,())) (fun k hk _=>?_) (fun _=>?_) (bt _)
   ·simp only [qX,ak,an,ae,Sl.get_wi _ hi,aj,aK _ hk,Sl.get_wi _ hk,if_true,aN _ hk]
    cases W.gt (Sl.len (nth (nth m.Caches.l i).Sets.l k)) (W.of .i64 6)<;>rfl
   ·simp only [qX,ak,an,ae,Sl.get_wi _ hi,aj,aO,Bool.false_eq_true,if_false]
  have in11:∃ o,um (m,wi 0,())=some o:=by
   refine ⟨_,(?_:_=some (if ((List.range m.Caches.l.length).all fun i=>(!W.gt (Sl.len (nth m.Caches.l i).Sets) (W.of .i64 10))&&(List.range (nth m.Caches.l i).Sets.l.length).all fun k=>!W.gt (Sl.len (nth (nth m.Caches.l i).Sets.l k)) (W.of .i64 6))=true then Sum.inr ((),()) else Sum.inl (false,())))⟩
   unfold um
   refine bS (fun k=>(m,wi k,())) _ _ (Sum.inl (false,())) (Sum.inr ((),())) (fun k hk _=>?_) (fun _=>?_) (bt _)
   ·simp only [qW,ak,an,ae,aM,aK _ hk,Sl.get_wi _ hk,aj,if_true,aY,in26 k hk]
    cases W.gt (Sl.len (nth m.Caches.l k).Sets) (W.of .i64 10)
    ·cases (List.range (nth m.Caches.l k).Sets.l.length).all fun i=>!W.gt (Sl.len (nth (nth m.Caches.l k).Sets.l i)) (W.of .i64 6)
     ·rfl
     ·simp only [if_true,Sum.elim_inr,aN _ hk,Bool.false_eq_true,if_false,Bool.not_false,Bool.true_and]
    ·rfl
   ·simp only [qW,ak,ae,aO,Bool.false_eq_true,if_false]
  obtain ⟨o,o1⟩:=in11
  simp only [Bool.not_true,Bool.false_eq_true,if_false,aY,o1,aj]
  split
  ·exact ⟨_,rfl,fun _=>hc⟩
  split
  ·exact ⟨_,rfl,fun _=>hc⟩
  cases o<;>exact ⟨_,rfl,fun _=>hc⟩
end Go.Proofs.YtnpgljilkkipkaaGreat
