/- YtnpgljilkkipkaaGreatBreak4: rules 6 to 9 of a core. No statement of the seat is proved here. -/
import Derived.Test.YtnpgljilkkipkaaGreatBreak3
import Derived.Test.YtnpgljilkkipkaaGreatClean
set_option linter.unusedSimpArgs false
set_option linter.unusedVariables false
set_option maxRecDepth 100000
namespace Go.Proofs.YtnpgljilkkipkaaGreat
open Go Go.A2
def ev (c:TCore) (u:W .i64) (l:List TRob):List (W .u64):=(l.filter fun e=>W.eq e.Ren.Uop.Unit u).map fun e=>e.Ren.Seq
theorem Q3 (c:TCore) (u:W .i64) (l:List TRob):(ev c u l).length≤l.length:=by
 unfold ev;rw [List.length_map];exact List.length_filter_le ..
theorem Q4 (c:TCore) (u:W .i64) (l:List TRob) (x:TRob):ev c u (l++[x])=ev c u l++if W.eq x.Ren.Uop.Unit u=true then [x.Ren.Seq] else []:=by
 unfold ev
 rw [List.filter_append,List.map_append]
 cases h:W.eq x.Ren.Uop.Unit u<;>simp [h]
theorem OZ (c:TCore) (u:W .i64) (h:c.Rob.l.length < 1000):∃ r,mc c u=some r∧r.l=ev c u c.Rob.l:=by
 have key:∃ o,uk (u,Sl.nil,c.Rob,Sl.len c.Rob,wi 0,())=some o∧o.1.l=ev c u c.Rob.l:=by
  unfold uk
  refine bK (fun i s=>∃ a:Sl 8 (W .u64),s=(u,a,c.Rob,Sl.len c.Rob,wi i,())∧a.l=ev c u (c.Rob.l.take i)) c.Rob.l.length _ ?_ ?_ ⟨Sl.nil,rfl,rfl⟩ (by show _ < 281474976710656;omega)
  ·rintro i s hi ⟨a,rfl,ha⟩
   have hlen:a.l.length≤i:=by rw [ha];refine Nat.le_trans (Q3 ..) ?_;rw [List.length_take];omega
   obtain ⟨r,hr1,hr2⟩:=cy (s:=a) (x:=(nth c.Rob.l i).Ren.Seq) (hb:=rfl) (by unfold aw;omega) (by unfold aw;omega)
   simp only [qS,ak,an,ae,aK c.Rob hi,Sl.get_wi c.Rob hi,if_true,aj,hr1,aN c.Rob hi]
   have hn:=Q4 c u (c.Rob.l.take i) (nth c.Rob.l i)
   cases hu:W.eq (nth c.Rob.l i).Ren.Uop.Unit u with
   | true=>exact ⟨_,rfl,r,rfl,by rw [hr2,dv hi,hn,if_pos hu,ha]⟩
   | false=>exact ⟨_,rfl,a,rfl,by rw [dv hi,hn,if_neg (by simp [hu]),ha,List.append_nil]⟩
  ·rintro s ⟨a,rfl,ha⟩
   simp only [qS,ak,ae,aO c.Rob]
   exact ⟨_,rfl,by rw [←List.take_length (l:=c.Rob.l)];exact ha⟩
 obtain ⟨o,h1,h2⟩:=key
 refine ⟨o.1,?_,h2⟩
 unfold mc Eg
 simp only [an,aY,h1,aj,ae]
theorem Qy (c:TCore) (u:W .i64) (h:c.Rob.l.length < 1000):∃ r,mJ c u=some r∧r.l=ev c u c.Rob.l:=by
 have key:∃ o,uX (u,c,Sl.lit 8 [] rfl,wi 0,())=some o∧o.1.l=ev c u c.Rob.l:=by
  unfold uX
  refine bK (fun i s=>∃ a:Sl 8 (W .u64),s=(u,c,a,wi i,())∧a.l=ev c u (c.Rob.l.take i)) c.Rob.l.length _ ?_ ?_ ⟨Sl.lit 8 [] rfl,rfl,rfl⟩ (by show _ < 281474976710656;omega)
  ·rintro i s hi ⟨a,rfl,ha⟩
   have hlen:a.l.length≤i:=by rw [ha];refine Nat.le_trans (Q3 ..) ?_;rw [List.length_take];omega
   obtain ⟨r,hr1,hr2⟩:=cy (s:=a) (x:=(nth c.Rob.l i).Ren.Seq) (hb:=rfl) (by unfold aw;omega) (by unfold aw;omega)
   simp only [rY,ak,an,ae,aK c.Rob hi,Sl.get_wi c.Rob hi,if_true,aj,hr1,aN c.Rob hi]
   have hn:=Q4 c u (c.Rob.l.take i) (nth c.Rob.l i)
   cases hu:W.eq (nth c.Rob.l i).Ren.Uop.Unit u with
   | true=>exact ⟨_,rfl,r,rfl,by rw [hr2,dv hi,hn,if_pos hu,ha]⟩
   | false=>exact ⟨_,rfl,a,rfl,by rw [dv hi,hn,if_neg (by simp [hu]),ha,List.append_nil]⟩
  ·rintro s ⟨a,rfl,ha⟩
   simp only [rY,ak,ae,aO c.Rob]
   exact ⟨_,rfl,by rw [←List.take_length (l:=c.Rob.l)];exact ha⟩
 obtain ⟨o,h1,h2⟩:=key
 refine ⟨o.1,?_,h2⟩
 unfold mJ Fv
 simp only [an,aY,h1,aj,ae]
theorem x8 {α β:Type} [Inhabited α] [Inhabited β] {k:IntKind} {l:List α} {m:List (W k)} {f:α→W k} (h:l.length=m.length):(List.range l.length).all (fun i=>W.eq (f (nth l i)) (nth m i))=true ↔ l.map f=m:=by
 rw [List.all_eq_true]
 constructor
 ·intro hh
  refine List.ext_getElem (by rw [List.length_map,h]) fun i h1 h2=>?_
  have h3:i < l.length:=by rw [List.length_map] at h1;exact h1
  have:=W.eq_iff.1 (hh i (List.mem_range.2 h3))
  rw [cC h3,cC h2] at this
  rw [List.getElem_map,this]
 ·rintro rfl i hi
  have hi:=List.mem_range.1 hi
  rw [cC hi,cC (by rw [List.length_map];exact hi),List.getElem_map,W.eq_self]
theorem yH {a b:Nat} {α β:Type} (x:Sl a α) (y:Sl b β):W.ne (Sl.len x) (Sl.len y)=!decide (x.l.length=y.l.length):=by
 rw [W.ne_eq,Sl.len_wi,Sl.len_wi,di x.h.2 y.h.2]
theorem WE (x:Sl 48 TLq) (y:Sl 8 (W .u64)) (h:x.l.length < aa):∃ b,tQ x y=some b∧(b=true ↔ x.l.map TLq.Seq=y.l):=by
 unfold tQ FQ
 rw [ak,yH]
 by_cases hlen:x.l.length=y.l.length
 ·have key:u9 (y,((),()),x,Sl.len x,wi 0,())=some (if (List.range x.l.length).all (fun i=>W.eq (nth x.l i).Seq (nth y.l i))=true then .inr ((),()) else .inl (false,())):=by
   unfold u9
   refine bS (fun i=>(y,((),()),x,Sl.len x,wi i,())) _ _ _ _ (fun i hi _=>?_) (fun _=>?_) h
   ·simp only [sn,ak,an,ae,aK x hi,Sl.get_wi x hi,if_true,aj,Sl.get_wi y (hlen ▸ hi),aN x hi]
    show (Option.bind (some (W.eq (nth x.l i).Seq (nth y.l i))) _)=_
    cases W.eq (nth x.l i).Seq (nth y.l i)<;>rfl
   ·simp only [sn,ak,ae,aO x]
    rfl
  have hs:=x8 (β:=Unit) (f:=TLq.Seq) hlen
  simp only [hlen,decide_true,Bool.not_true,Bool.false_eq_true,if_false,an,aY,key,aj,aM]
  rw [←hs,hlen]
  cases (List.range y.l.length).all (fun i=>W.eq (nth x.l i).Seq (nth y.l i)) with
  | true=>exact ⟨true,rfl,fun _=>rfl,fun _=>rfl⟩
  | false=>exact ⟨false,rfl,fun h=>(by cases h),fun h=>(by cases h)⟩
 ·simp only [hlen,decide_false,Bool.not_false,if_true,ae]
  exact ⟨false,rfl,fun h=>(by cases h),fun h=>(hlen (by rw [←h,List.length_map])).elim⟩
theorem WG (x:Sl 32 TSq) (y:Sl 8 (W .u64)) (h:x.l.length < aa):∃ b,tR x y=some b∧(b=true ↔ x.l.map TSq.Seq=y.l):=by
 unfold tR FR
 rw [ak,yH]
 by_cases hlen:x.l.length=y.l.length
 ·have key:vc (y,((),()),x,Sl.len x,wi 0,())=some (if (List.range x.l.length).all (fun i=>W.eq (nth x.l i).Seq (nth y.l i))=true then .inr ((),()) else .inl (false,())):=by
   unfold vc
   refine bS (fun i=>(y,((),()),x,Sl.len x,wi i,())) _ _ _ _ (fun i hi _=>?_) (fun _=>?_) h
   ·simp only [so,ak,an,ae,aK x hi,Sl.get_wi x hi,if_true,aj,Sl.get_wi y (hlen ▸ hi),aN x hi]
    show (Option.bind (some (W.eq (nth x.l i).Seq (nth y.l i))) _)=_
    cases W.eq (nth x.l i).Seq (nth y.l i)<;>rfl
   ·simp only [so,ak,ae,aO x]
    rfl
  have hs:=x8 (β:=Unit) (f:=TSq.Seq) hlen
  simp only [hlen,decide_true,Bool.not_true,Bool.false_eq_true,if_false,an,aY,key,aj,aM]
  rw [←hs,hlen]
  cases (List.range y.l.length).all (fun i=>W.eq (nth x.l i).Seq (nth y.l i)) with
  | true=>exact ⟨true,rfl,fun _=>rfl,fun _=>rfl⟩
  | false=>exact ⟨false,rfl,fun h=>(by cases h),fun h=>(by cases h)⟩
 ·simp only [hlen,decide_false,Bool.not_false,if_true,ae]
  exact ⟨false,rfl,fun h=>(by cases h),fun h=>(hlen (by rw [←h,List.length_map])).elim⟩
def yO (c:TCore):Prop:=c.Lq.l.map TLq.Seq=ev c (W.of .i64 5) c.Rob.l∧c.Sq.l.map TSq.Seq=ev c (W.of .i64 6) c.Rob.l
theorem Tc (c:TCore) (h:c.Rob.l.length < 1000) (h1:c.Lq.l.length < aa) (h2:c.Sq.l.length < aa):∃ b,mb c=some b∧(b=true ↔ yO c):=by
 obtain ⟨r1,e1,l1⟩:=OZ c (W.of .i64 5) h
 obtain ⟨r2,e2,l2⟩:=OZ c (W.of .i64 6) h
 obtain ⟨b1,f1,g1⟩:=WE c.Lq r1 h1
 obtain ⟨b2,f2,g2⟩:=WG c.Sq r2 h2
 unfold mb Eb yO
 simp only [an,ak,ae,e1,e2,f1,f2,aj,←l1,←l2,←g1,←g2]
 cases b1<;>cases b2<;>simp
theorem adx (c:TCore) (h:c.Rob.l.length < 1000) (h1:c.Lq.l.length < aa) (h2:c.Sq.l.length < aa):∃ b,fS c=some b∧(b=true ↔ yO c):=by
 obtain ⟨r1,e1,l1⟩:=Qy c (W.of .i64 5) h
 obtain ⟨r2,e2,l2⟩:=Qy c (W.of .i64 6) h
 unfold fS Fs yO
 simp only [an,ak,ae,e1,e2,aj,←l1,←l2,yH]
 by_cases hl1:c.Lq.l.length=r1.l.length
 ·by_cases hl2:c.Sq.l.length=r2.l.length
  ·have key1:uT (c,r1,r2,wi 0,())=some (if (List.range c.Lq.l.length).all (fun i=>W.eq (nth c.Lq.l i).Seq (nth r1.l i))=true then .inr (c,(),r2,()) else .inl (c,false,r2,())):=by
    unfold uT
    refine bS (fun i=>(c,r1,r2,wi i,())) _ _ _ _ (fun i hi _=>?_) (fun _=>?_) h1
    ·have hi':i < r1.l.length:=by omega
     simp only [rT,ak,an,ae,aK c.Lq hi,aK r1 hi',Sl.get_wi c.Lq hi,if_true,aj,Sl.get_wi r1 hi',aN c.Lq hi,W.ne_eq]
     cases W.eq (nth c.Lq.l i).Seq (nth r1.l i)<;>rfl
    ·rw [hl1];simp only [rT,ak,ae,aO r1]
     rfl
   have key2:uU (c,r2,wi 0,())=some (if (List.range c.Sq.l.length).all (fun i=>W.eq (nth c.Sq.l i).Seq (nth r2.l i))=true then .inr ((),()) else .inl (false,())):=by
    unfold uU
    refine bS (fun i=>(c,r2,wi i,())) _ _ _ _ (fun i hi _=>?_) (fun _=>?_) h2
    ·have hi':i < r2.l.length:=by omega
     simp only [rU,ak,an,ae,aK c.Sq hi,aK r2 hi',Sl.get_wi c.Sq hi,if_true,aj,Sl.get_wi r2 hi',aN c.Sq hi,W.ne_eq]
     cases W.eq (nth c.Sq.l i).Seq (nth r2.l i)<;>rfl
    ·rw [hl2];simp only [rU,ak,ae,aO r2]
     rfl
   have hs1:=x8 (β:=Unit) (f:=TLq.Seq) hl1
   have hs2:=x8 (β:=Unit) (f:=TSq.Seq) hl2
   rw [hl1] at hs1 key1
   rw [hl2] at hs2 key2
   simp only [hl1,hl2,decide_true,Bool.not_true,Bool.false_eq_true,if_false,aY,key1,aj,aM]
   rw [←hs1,←hs2]
   cases (List.range r1.l.length).all (fun i=>W.eq (nth c.Lq.l i).Seq (nth r1.l i)) with
   | false=>exact ⟨false,rfl,fun h=>(by cases h),fun h=>(by cases h.1)⟩
   | true=>
    simp only [if_true,Sum.elim_inr,an,key2,aj,aM]
    cases (List.range r2.l.length).all (fun i=>W.eq (nth c.Sq.l i).Seq (nth r2.l i)) with
    | true=>exact ⟨true,rfl,fun _=>by simp,fun _=>rfl⟩
    | false=>exact ⟨false,rfl,fun h=>(by cases h),fun h=>(by cases h.2)⟩
  ·have hl2':¬ r2.l.length=c.Sq.l.length:=fun h=>hl2 h.symm
   simp only [hl1,hl2',decide_true,decide_false,Bool.not_true,Bool.not_false,Bool.false_eq_true,if_false,if_true]
   exact ⟨false,rfl,fun h=>(by cases h),fun h=>(hl2 (by rw [←h.2,List.length_map])).elim⟩
 ·have hl1':¬ r1.l.length=c.Lq.l.length:=fun h=>hl1 h.symm
  simp only [hl1',decide_false,Bool.not_false,if_true]
  exact ⟨false,rfl,fun h=>(by cases h),fun h=>(hl1 (by rw [←h.1,List.length_map])).elim⟩
theorem Z0 {f:TPhys} {p:W .i64}:∃ b,te f p=some b∧(b=true→0≤p.n∧p.n < f.Val.l.length∧p.n < f.Ready.l.length):=by
 unfold te EF
 simp only [ak,ae]
 cases h1:W.ge p (W.of .i64 0) with
 | false=>exact ⟨false,rfl,fun h=>by cases h⟩
 | true=>
  cases h2:W.lt p (Sl.len f.Val) with
  | false=>exact ⟨false,rfl,fun h=>by cases h⟩
  | true=>exact ⟨_,rfl,fun h=>⟨W.ge_n.1 h1,W.lt_n.1 h2,W.lt_n.1 h⟩⟩
theorem yA {b:Nat} {α:Type} [Inhabited α] (s:Sl b α) {p:W .i64} (h0:0≤p.n) (h:p.n < s.l.length):Sl.get? s p=some (nth s.l p.n.toNat):=by
 unfold Sl.get?
 rw [if_pos h0,jD (by omega)]
theorem GR (f:TPhys) (p:W .i64):∃ r,gC f p=some r:=by
 obtain ⟨b,h1,h2⟩:=Z0 (f:=f) (p:=p)
 unfold gC ED
 simp only [an,ak,ae,h1,aj]
 cases b with
 | false=>exact ⟨_,rfl⟩
 | true=>
  obtain ⟨h3,h4,h5⟩:=h2 rfl
  simp only [Bool.not_true,Bool.false_eq_true,if_false,yA f.Ready h3 h5,yA f.Val h3 h4,aj]
  cases nth f.Ready.l p.n.toNat<;>exact ⟨_,rfl⟩
theorem Ym (f:TPhys) (p:W .i64):tl f p=gC f p:=rfl
theorem ahs (f:TPhys) (m:Arr 16 (W .i64)):fk f m=j0 f m:=rfl
theorem aht (f:TPhys) (m:Arr 16 (W .i64)):∃ r,j0 f m=some r:=by
 have key:∃ o,mV (f,m,Arr.rep 16 (W.of .u32 0),Arr.rep 16 (W.of .u32 0),wi 1,())=some o∧True:=by
  unfold mV
  refine bK (fun i s=>∃ z out,s=(f,m,z,out,wi (i+1),())) 15 (fun _=>True) ?_ ?_ ⟨_,_,rfl⟩ (by decide)
  ·rintro i s hi ⟨z,out,rfl⟩
   obtain ⟨r,hr⟩:=GR f (Arr.get m (i+1))
   have hlt:W.lt (wi (i+1)) (W.of .i64 16)=true:=(br (m:=16) (by unfold aw;omega) (by unfold aw;omega)).trans (by simp;omega)
   simp only [q9,ak,an,ae,hlt,if_true,dJ (show i+1≤aw by unfold aw;omega),show i+1 < 16 by omega,aj,hr,dc (show i+1 < aw by unfold aw;omega)]
   exact ⟨_,rfl,_,_,rfl⟩
  ·rintro s ⟨z,out,rfl⟩
   have hlt:W.lt (wi (15+1)) (W.of .i64 16)=false:=rfl
   simp only [q9,ak,ae,hlt]
   exact ⟨_,rfl,trivial⟩
 obtain ⟨o,h1,_⟩:=key
 unfold j0 EE
 simp only [an,show mV (f,m,Arr.rep 16 (W.of .u32 0),Arr.rep 16 (W.of .u32 0),W.of .i64 1,())=_ from h1,aj,ae]
 exact ⟨_,rfl⟩
theorem adu (a:TArch):∃ b,eT a=some b∧(b=true ↔ kT a∧W.eq (a.R.get 0) (W.of .u32 0)=true):=by
 have hlen:=a.C.h
 have key:uP (a,wi 0,())=some (if (List.range 12).all (fun i=>!badC i (nth a.C.l i))=true then .inr (a,(),()) else .inl (a,false,())):=by
  unfold uP
  refine bS (fun i=>(a,wi i,())) 12 _ _ _ (fun i hi _=>?_) (fun _=>rfl) (by decide)
  have hlt:W.lt (wi i) (W.of .i64 12)=true:=(br (m:=12) (by unfold aw;omega) (by unfold aw;omega)).trans (by simp;omega)
  simp only [Ar,ak,an,ae,hlt,if_true,dJ (show i≤aw by unfold aw;omega),hi,aj,(P8 hi).2,dc (show i < aw by unfold aw;omega)]
  have hx:a.C.get i=nth a.C.l i:=rfl
  rw [hx,←W.masked]
  show (if badC i (nth a.C.l i)=true then _ else _)=_
  cases badC i (nth a.C.l i)<;>rfl
 have hc:kT a ↔ (List.range 12).all (fun i=>!badC i (nth a.C.l i))=true:=by
  unfold kT
  rw [List.all_eq_true]
  constructor
  ·intro h i hi
   have hi:=List.mem_range.1 hi
   rw [h i _ (jD (by omega))];rfl
  ·intro h i x hx
   have hil:=(List.getElem?_eq_some_iff.1 hx).1
   have:=h i (List.mem_range.2 (by omega))
   rw [jD hil] at hx
   rw [←Option.some.inj hx]
   simpa using this
 unfold eT Fo
 rw [hc]
 simp only [an,aY,key,aj,aM]
 cases (List.range 12).all (fun i=>!badC i (nth a.C.l i)) with
 | true=>exact ⟨_,rfl,fun h=>⟨rfl,h⟩,fun h=>h.2⟩
 | false=>exact ⟨false,rfl,fun h=>(by cases h),fun h=>(by cases h.1)⟩
noncomputable def badV (c:TCore) (e:TRob):Bool:=e.Done&&W.eq e.Cause (W.of .i64 0)&&W.ne e.Ren.Out (W.of .i64 (-1))&&(!((gC c.Phys e.Ren.Out).getD (W.of .u32 0,false)).2 || W.ne ((gC c.Phys e.Ren.Out).getD (W.of .u32 0,false)).1 e.Val)
theorem To (c:TCore) (h:c.Rob.l.length < aa):md c=some (!(c.Rob.l.any (badV c))):=by
 have h1:∀ e,me e c=some (badV c e):=fun e=>by
  obtain ⟨r,hr⟩:=GR c.Phys e.Ren.Out
  unfold me Ei badV
  simp only [an,ak,ae,hr,aj,Option.getD_some]
  cases e.Done<;>cases W.eq e.Cause (W.of .i64 0)<;>cases W.ne e.Ren.Out (W.of .i64 (-1))<;>cases r.2<;>rfl
 unfold md Eh
 rw [an,ZX c.Rob c (badV c) (fun e _=>h1 e) h]
 rfl
theorem adH (c:TCore) (h:c.Rob.l.length < aa):eA c=some (!(c.Rob.l.any (badV c))):=by
 have key:u3 (c,wi 0,())=some (if (List.range c.Rob.l.length).all (fun i=>!badV c (nth c.Rob.l i))=true then .inr ((),()) else .inl (false,())):=by
  unfold u3
  refine bS (fun i=>(c,wi i,())) _ _ _ _ (fun i hi _=>?_) (fun _=>?_) h
  ·obtain ⟨r,hr⟩:=GR c.Phys (nth c.Rob.l i).Ren.Out
   simp only [rZ,ak,an,ae,aK c.Rob hi,if_true,Sl.get_wi c.Rob hi,aj,aN c.Rob hi,Ym,hr,badV,Option.getD_some,W.ne_eq]
   cases (nth c.Rob.l i).Done<;>cases W.eq (nth c.Rob.l i).Cause (W.of .i64 0)<;>cases W.eq (nth c.Rob.l i).Ren.Out (W.of .i64 (-1))<;>cases r.2<;>cases W.eq r.1 (nth c.Rob.l i).Val<;>rfl
  ·simp only [rZ,ak,ae,aO c.Rob]
   rfl
 have hw:c.Rob.l.any (badV c)=!((List.range c.Rob.l.length).all (fun i=>!badV c (nth c.Rob.l i))):=by
  refine bQ ?_
  rw [List.any_eq_true,Bool.not_eq_true',List.all_eq_false]
  constructor
  ·rintro ⟨x,hx,h⟩
   obtain ⟨i,hi,rfl⟩:=yP hx
   exact ⟨i,List.mem_range.2 hi,by simp [h]⟩
  ·rintro ⟨i,hi,h⟩
   exact ⟨_,lv (List.mem_range.1 hi),by simpa using h⟩
 unfold eA Fw
 rw [hw]
 simp only [an,aY,key,aj,aM]
 cases (List.range c.Rob.l.length).all (fun i=>!badV c (nth c.Rob.l i))<;>rfl
end Go.Proofs.YtnpgljilkkipkaaGreat
