/- YtnpgljilkkipkaaGreatBreak5: maps of registers and rings of free ones, as the program and the document judge them. No statement of the seat is proved here. -/
import Derived.Test.YtnpgljilkkipkaaGreatBreak4
set_option linter.unusedSimpArgs false
set_option linter.unusedVariables false
set_option maxRecDepth 100000
namespace Go.Proofs.YtnpgljilkkipkaaGreat
open Go Go.A2
theorem sm {n:Nat} (h:n≤1000):n≤aw:=by unfold aw;omega
theorem dt {n m:Nat} (h:n≤1000) (h':m≤1000):W.lt (wi n) (wi m)=decide (n < m):=br (sm h) (sm h')
theorem dm {n:Nat} (h:n < 1000):W.add (wi n) (W.of .i64 1)=wi (n+1):=dc (by unfold aw;omega)
def eo (m:Arr 16 (W .i64)) (n:W .i64) (r:Nat):Prop:=(1≤(m.get r).n∧(m.get r).n < n.n)∧∀ q,1≤q→q < r→m.get q ≠ m.get r
def iy (m:Arr 16 (W .i64)) (n:W .i64):Prop:=m.get 0=W.of .i64 (-1)∧∀ r,1≤r→r < 16→eo m n r
theorem Qn {m:Arr 16 (W .i64)} {r:Nat}:(List.range (r - 1)).all (fun k=>!W.eq (m.get (k+1)) (m.get r))=true ↔ ∀ q,1≤q→q < r→m.get q ≠ m.get r:=by
 rw [List.all_eq_true]
 constructor
 ·intro h q h1 h2 he
  have:=h (q - 1) (List.mem_range.2 (by omega))
  rw [show q - 1+1=q by omega,he,W.eq_self] at this
  cases this
 ·intro h k hk
  have hk:=List.mem_range.1 hk
  have:=h (k+1) (by omega) (by omega)
  rw [W.eq_dec];simpa using this
theorem OU (m:Arr 16 (W .i64)) (n:W .i64):∃ b,mh m n=some b∧(b=true ↔ iy m n):=by
 have key:∃ o,mP (n,m,wi (0+1),())=some o∧(((∀ i,i < 15→eo m n (i+1))∧o=.inr ((),()))∨((¬ ∀ i,i < 15→eo m n (i+1))∧o=.inl (false,()))):=by
  unfold mP
  refine cX (fun i s=>s=(n,m,wi (i+1),())) 15 (fun i=>eo m n (i+1)) (fun o=>o=Sum.inl (false,())) (fun o=>o=Sum.inr ((),())) ?_ ?_ rfl (by decide)
  ·rintro i s hi rfl hP
   have inner:mQ (n,m,wi (i+1),wi (0+1),())=some (if (List.range i).all (fun k=>!W.eq (m.get (k+1)) (m.get (i+1)))=true then .inr (n,m,(),wi (i+1),()) else .inl (n,m,false,wi (i+1),())):=by
    unfold mQ
    refine bR (fun k=>(n,m,wi (i+1),wi (k+1),())) i _ _ _ (fun k hk _=>?_) (fun _=>?_) (by show i < 281474976710656;omega)
    ·simp only [qR,ak,an,ae,dt (show k+1≤1000 by omega) (show i+1≤1000 by omega),show k+1 < i+1 by omega,decide_true,if_true,dJ (sm (show k+1≤1000 by omega)),dJ (sm (show i+1≤1000 by omega)),show k+1 < 16 by omega,show i+1 < 16 by omega,aj,dm (show k+1 < 1000 by omega)]
     cases W.eq (m.get (k+1)) (m.get (i+1))<;>rfl
    ·simp only [qR,ak,ae,dt (show i+1≤1000 by omega) (show i+1≤1000 by omega),Nat.lt_irrefl,decide_false,Bool.false_eq_true,if_false]
   have hin:(List.range i).all (fun k=>!W.eq (m.get (k+1)) (m.get (i+1)))=true ↔ ∀ q,1≤q→q < i+1→m.get q ≠ m.get (i+1):=Qn (r:=i+1)
   have hlt:W.lt (wi (i+1)) (W.of .i64 16)=true:=(dt (m:=16) (by omega) (by omega)).trans (by simp;omega)
   simp only [zP,ak,an,ae,hlt,if_true,show mQ (n,m,wi (i+1),W.of .i64 1,())=_ from inner,aj,aL]
   unfold eo
   cases ha:(List.range i).all (fun k=>!W.eq (m.get (k+1)) (m.get (i+1))) with
   | false=>exact .inr ⟨fun h=>(by have:=hin.2 h.2;rw [ha] at this;cases this),_,rfl,rfl⟩
   | true=>
    simp only [if_true,Sum.elim_inr,ak,an,ae,dJ (sm (show i+1≤1000 by omega)),show i+1 < 16 by omega,aj,dm (show i+1 < 1000 by omega)]
    cases h1:W.lt (m.get (i+1)) (W.of .i64 1) with
    | true=>
     have:=W.lt_n.1 h1
     rw [show (W.of .i64 1).n=1 from rfl] at this
     exact .inr ⟨fun h=>by omega,_,rfl,rfl⟩
    | false=>
     have h1':¬ (m.get (i+1)).n < 1:=fun h=>by have:=W.lt_n (a:=m.get (i+1)) (b:=W.of .i64 1).2 h;rw [h1] at this;cases this
     cases h2:W.ge (m.get (i+1)) n with
     | true=>
      have:=W.ge_n.1 h2
      exact .inr ⟨fun h=>by omega,_,rfl,rfl⟩
     | false=>
      have h2':¬ (m.get (i+1)).n ≥ n.n:=fun h=>by have:=W.ge_n.2 h;rw [h2] at this;cases this
      exact .inl ⟨⟨by omega,hin.1 ha⟩,_,rfl,rfl⟩
  ·rintro s rfl hP
   exact ⟨_,rfl,rfl⟩
 obtain ⟨o,h1,h2⟩:=key
 have hall:(∀ i,i < 15→eo m n (i+1)) ↔ ∀ r,1≤r→r < 16→eo m n r:=⟨fun h r hr hr'=>by have:=h (r - 1) (by omega);rwa [show r - 1+1=r by omega] at this,fun h i hi=>h (i+1) (by omega) (by omega)⟩
 unfold mh Ew iy
 rw [←hall]
 simp only [ak,ae,an,show mP (n,m,W.of .i64 1,())=_ from h1,aj,aL,W.ne_eq,W.eq_dec]
 by_cases h0:m.get 0=W.of .i64 (-1)
 ·simp only [h0,decide_true,Bool.not_true,Bool.false_eq_true,if_false,true_and]
  rcases h2 with ⟨h3,rfl⟩ | ⟨h3,rfl⟩
  ·exact ⟨true,rfl,fun _=>h3,fun _=>rfl⟩
  ·exact ⟨false,rfl,fun h=>(by cases h),fun h=>(h3 h).elim⟩
 ·simp only [h0,decide_false,Bool.not_false,if_true,false_and,iff_false]
  exact ⟨false,rfl,by simp⟩
theorem Qq (m:Arr 16 (W .i64)) (n:W .i64):∃ b,mw m n=some b∧(b=true ↔ iy m n):=by
 have key:∃ o,mU (n,m,wi (0+1),())=some o∧(((∀ i,i < 15→eo m n (i+1))∧o=.inr ((),()))∨((¬ ∀ i,i < 15→eo m n (i+1))∧o=.inl (false,()))):=by
  unfold mU
  refine cX (fun i s=>s=(n,m,wi (i+1),())) 15 (fun i=>eo m n (i+1)) (fun o=>o=Sum.inl (false,())) (fun o=>o=Sum.inr ((),())) ?_ ?_ rfl (by decide)
  ·rintro i s hi rfl hP
   have inner:mV (n,m,wi (i+1),wi (0+1),())=some (if (List.range i).all (fun k=>!W.eq (m.get (k+1)) (m.get (i+1)))=true then .inr (n,m,(),wi (i+1),()) else .inl (n,m,false,wi (i+1),())):=by
    unfold mV
    refine bR (fun k=>(n,m,wi (i+1),wi (k+1),())) i _ _ _ (fun k hk _=>?_) (fun _=>?_) (by show i < 281474976710656;omega)
    ·simp only [qW,ak,an,ae,dt (show k+1≤1000 by omega) (show i+1≤1000 by omega),show k+1 < i+1 by omega,decide_true,if_true,dJ (sm (show k+1≤1000 by omega)),dJ (sm (show i+1≤1000 by omega)),show k+1 < 16 by omega,show i+1 < 16 by omega,aj,dm (show k+1 < 1000 by omega)]
     cases W.eq (m.get (k+1)) (m.get (i+1))<;>rfl
    ·simp only [qW,ak,ae,dt (show i+1≤1000 by omega) (show i+1≤1000 by omega),Nat.lt_irrefl,decide_false,Bool.false_eq_true,if_false]
   have hin:(List.range i).all (fun k=>!W.eq (m.get (k+1)) (m.get (i+1)))=true ↔ ∀ q,1≤q→q < i+1→m.get q ≠ m.get (i+1):=Qn (r:=i+1)
   have hlt:W.lt (wi (i+1)) (W.of .i64 16)=true:=(dt (m:=16) (by omega) (by omega)).trans (by simp;omega)
   simp only [zQ,ak,an,ae,hlt,if_true,dJ (sm (show i+1≤1000 by omega)),show i+1 < 16 by omega,show mV (n,m,wi (i+1),W.of .i64 1,())=_ from inner,aj,aL]
   unfold eo
   cases h1:W.lt (m.get (i+1)) (W.of .i64 1) with
   | true=>
    have:=W.lt_n.1 h1
    rw [show (W.of .i64 1).n=1 from rfl] at this
    exact .inr ⟨fun h=>by omega,_,rfl,rfl⟩
   | false=>
    have h1':¬ (m.get (i+1)).n < 1:=fun h=>by have:=W.lt_n (a:=m.get (i+1)) (b:=W.of .i64 1).2 h;rw [h1] at this;cases this
    cases h2:W.ge (m.get (i+1)) n with
    | true=>
     have:=W.ge_n.1 h2
     exact .inr ⟨fun h=>by omega,_,rfl,rfl⟩
    | false=>
     have h2':¬ (m.get (i+1)).n ≥ n.n:=fun h=>by have:=W.ge_n.2 h;rw [h2] at this;cases this
     cases ha:(List.range i).all (fun k=>!W.eq (m.get (k+1)) (m.get (i+1))) with
     | false=>exact .inr ⟨fun h=>(by have:=hin.2 h.2;rw [ha] at this;cases this),_,rfl,rfl⟩
     | true=>
      simp only [Bool.false_eq_true,if_false,if_true,Sum.elim_inr,ae,dm (show i+1 < 1000 by omega)]
      exact .inl ⟨⟨by omega,hin.1 ha⟩,_,rfl,rfl⟩
  ·rintro s rfl hP
   exact ⟨_,rfl,rfl⟩
 obtain ⟨o,h1,h2⟩:=key
 have hall:(∀ i,i < 15→eo m n (i+1)) ↔ ∀ r,1≤r→r < 16→eo m n r:=⟨fun h r hr hr'=>by have:=h (r - 1) (by omega);rwa [show r - 1+1=r by omega] at this,fun h i hi=>h (i+1) (by omega) (by omega)⟩
 unfold mw EJ iy
 rw [←hall]
 simp only [ak,ae,an,show mU (n,m,W.of .i64 1,())=_ from h1,aj,aL,W.ne_eq,W.eq_dec]
 by_cases h0:m.get 0=W.of .i64 (-1)
 ·simp only [h0,decide_true,Bool.not_true,Bool.false_eq_true,if_false,true_and]
  rcases h2 with ⟨h3,rfl⟩ | ⟨h3,rfl⟩
  ·exact ⟨true,rfl,fun _=>h3,fun _=>rfl⟩
  ·exact ⟨false,rfl,fun h=>(by cases h),fun h=>(h3 h).elim⟩
 ·simp only [h0,decide_false,Bool.not_false,if_true,false_and,iff_false]
  exact ⟨false,rfl,by simp⟩
def fN (f:TFree):Bool:=decide (f.Ring.l.length≤96∧0≤f.Head.n∧(f.Head.n < f.Ring.l.length∨f.Head.n=0)∧0≤f.N.n∧f.N.n≤f.Ring.l.length)
theorem cY {b:Nat} {α:Type} (s:Sl b α):(Sl.len s).n=s.l.length:=id (Sl.len_n s)
theorem aB:(W.of .i64 0).n=0:=id rfl
theorem P7:(W.of .i64 96).n=96:=id rfl
theorem OV (f:TFree):md f=some (fN f):=by
 unfold md Ed fN
 simp only [ak,ae,W.le_n,W.ge_n,W.lt_n,W.eq_n,cY,aB,P7]
 repeat' split
 all_goals first | (congr 1;apply Eq.symm;rw [decide_eq_false_iff_not];omega) | (congr 1;refine bP ?_;rw [decide_eq_true_eq,W.le_n,cY];omega)
theorem Qr (f:TFree):mr f=some (fN f):=by
 unfold mr EG fN
 simp only [ak,ae,W.le_n,W.ge_n,W.lt_n,W.gt_n,W.eq_n,cY,aB,P7]
 repeat' split
 all_goals first | (congr 1;apply Eq.symm;rw [decide_eq_false_iff_not];omega) | (congr 1;apply Eq.symm;rw [decide_eq_true_eq];omega) | (congr 1;refine bP ?_;rw [decide_eq_true_eq,W.eq_n,aB];omega)
def cr (f:TFree):List (W .i64):=(List.range f.N.n.toNat).map fun k=>nth f.Ring.l ((f.Head.n.toNat+k) % f.Ring.l.length)
theorem Qx {f:TFree} {i:Nat} (h:i < (cr f).length):nth (cr f) i=nth f.Ring.l ((f.Head.n.toNat+i) % f.Ring.l.length):=by
 have hi:i < (List.range f.N.n.toNat).length:=by unfold cr at h;rwa [List.length_map] at h
 have:nth (cr f) i=nth f.Ring.l ((f.Head.n.toNat+nth (List.range f.N.n.toNat) i) % f.Ring.l.length):=jD hi
 rw [this,show nth (List.range f.N.n.toNat) i=i by rw [cK hi,List.getElem_range]]
structure RingOk (f:TFree):Prop where
 len:f.Ring.l.length≤96
 h0:0≤f.Head.n
 h1:f.Head.n < f.Ring.l.length∨f.Head.n=0
 n0:0≤f.N.n
 n1:f.N.n≤f.Ring.l.length
theorem pZ {f:TFree} (h:fN f=true):RingOk f:=by
 have:=of_decide_eq_true h
 exact ⟨this.1,this.2.1,this.2.2.1,this.2.2.2.1,this.2.2.2.2⟩
theorem jI {f:TFree} (h:RingOk f):(cr f).length≤96∧(cr f).length=f.N.n.toNat:=by
 have:=h.len;have:=h.n1
 unfold cr;rw [List.length_map,List.length_range];omega
theorem ze {a n:Nat} (hn:0 < n) (h:a≤1000) (h':n≤1000):W.rem? (wi a) (wi n)=some (wi (a % n)):=by
 unfold W.rem?
 rw [if_neg (by rw [aP (sm h')];omega)]
 congr 1
 refine W.ext ?_
 rw [W.rem_n,aP (sm h),aP (sm h'),aP (sm (Nat.le_trans (Nat.mod_le _ _) h)),←Int.ofNat_tmod,di]
 have:=Nat.mod_lt a hn
 omega
theorem xN {a b:Nat} (h:a≤1000) (h':b≤1000):W.add (wi a) (wi b)=wi (a+b):=by
 refine W.ext ?_
 rw [W.add_n,aP (sm h),aP (sm h'),W.of_n]
 simp
theorem iu {a:W .i64} (h:0≤a.n):a=wi a.n.toNat:=by
 refine W.ext ?_
 have:=a.r_i64
 rw [W.of_n,di];omega
theorem S9 {f:TFree} (h:RingOk f) {k:Nat} (hk:k < f.N.n.toNat):sJ f (wi k)=some (wi ((f.Head.n.toNat+k) % f.Ring.l.length)):=by
 obtain ⟨h1,h2,h3,h4,h5⟩:=h
 have hlen:0 < f.Ring.l.length:=by omega
 unfold sJ Ec
 have hm:=Nat.mod_lt (f.Head.n.toNat+k) hlen
 rw [an,iu h2,Sl.len_wi]
 rw [show (wi f.Head.n.toNat).n.toNat=f.Head.n.toNat by rw [aP (sm (by omega))];rfl]
 rw [xN (by omega) (by omega),ze hlen (by omega) (by omega),aj,an,xN (by omega) (by omega),ze hlen (by omega) (by omega),aj,ae]
 rw [Nat.add_mod_right,Nat.mod_mod]
theorem pK {a:W .i64} {i:Nat} (hi:i≤1000):W.lt (wi i) a=decide ((i:Int) < a.n):=by unfold W.lt;rw [aP (sm hi)]
theorem OS {f:TFree} (h:RingOk f):∃ r,mc f=some r∧r.l=cr f:=by
 obtain ⟨hl1,hl2⟩:=jI h
 have key:∃ o,mL (f,((f,()),()),Sl.nil,f.N,wi 0,())=some o∧o.1.l=cr f:=by
  unfold mL
  refine bU (fun i s=>∃ a:Sl 8 (W .i64),s=(f,((f,()),()),a,f.N,wi i,())∧a.l=(cr f).take i) (cr f).length _ ?_ ?_ ⟨Sl.nil,rfl,rfl⟩ (by show _ < 281474976710656;omega)
  ·rintro i s hi ⟨a,rfl,ha⟩
   have hlen:a.l.length=i:=by rw [ha,List.length_take];omega
   have hm:(f.Head.n.toNat+i) % f.Ring.l.length < f.Ring.l.length:=Nat.mod_lt _ (by have:=h.n1;omega)
   obtain ⟨r,hr1,hr2⟩:=cy (s:=a) (x:=nth f.Ring.l ((f.Head.n.toNat+i) % f.Ring.l.length)) (hb:=rfl) (by unfold aw;omega) (by unfold aw;omega)
   have hlt:W.lt (wi i) f.N=true:=by rw [pK (by omega)];have:=h.n0;simp;omega
   simp only [qK,ak,an,ae,hlt,if_true,S9 h (show i < f.N.n.toNat by omega),aj,Sl.get_wi f.Ring hm,hr1,dm (show i < 1000 by omega)]
   exact ⟨_,rfl,r,rfl,by rw [hr2,ha,du hi,Qx hi]⟩
  ·rintro s ⟨a,rfl,ha⟩
   have hlt:W.lt (wi (cr f).length) f.N=false:=by rw [pK (by omega)];have:=h.n0;simp;omega
   simp only [qK,ak,ae,hlt]
   exact ⟨_,rfl,by rw [←List.take_length (l:=cr f)];exact ha⟩
 obtain ⟨o,h1,h2⟩:=key
 unfold mc Ea
 have hs:fN f=true:=decide_eq_true ⟨h.len,h.h0,h.h1,h.n0,h.n1⟩
 simp only [an,OV,hs,aj,ak,Bool.not_true,Bool.false_eq_true,if_false,show mL (f,((f,()),()),Sl.nil,f.N,W.of .i64 0,())=_ from h1,ae]
 exact ⟨_,rfl,h2⟩
theorem Qp {f:TFree} (h:RingOk f):∃ r,mu f=some r∧r.l=cr f:=by
 obtain ⟨hl1,hl2⟩:=jI h
 have key:∃ o,mR (f,Sl.lit 8 [] rfl,wi 0,())=some o∧o.1.l=cr f:=by
  unfold mR
  refine bU (fun i s=>∃ a:Sl 8 (W .i64),s=(f,a,wi i,())∧a.l=(cr f).take i) (cr f).length _ ?_ ?_ ⟨Sl.lit 8 [] rfl,rfl,rfl⟩ (by show _ < 281474976710656;omega)
  ·rintro i s hi ⟨a,rfl,ha⟩
   have hlen:a.l.length=i:=by rw [ha,List.length_take];omega
   have hpos:0 < f.Ring.l.length:=by have:=h.n1;omega
   have hm:(f.Head.n.toNat+i) % f.Ring.l.length < f.Ring.l.length:=Nat.mod_lt _ hpos
   obtain ⟨r,hr1,hr2⟩:=cy (s:=a) (x:=nth f.Ring.l ((f.Head.n.toNat+i) % f.Ring.l.length)) (hb:=rfl) (by unfold aw;omega) (by unfold aw;omega)
   have hlt:W.lt (wi i) f.N=true:=by rw [pK (by omega)];have:=h.n0;simp;omega
   have hrem:W.rem? (W.add f.Head (wi i)) (Sl.len f.Ring)=some (wi ((f.Head.n.toNat+i) % f.Ring.l.length)):=by
    have:=h.h1;have:=h.len
    rw [Sl.len_wi,iu h.h0,xN (by omega) (by omega),ze hpos (by omega) (by omega),←iu h.h0]
   simp only [qT,ak,an,ae,hlt,if_true,hrem,aj,Sl.get_wi f.Ring hm,hr1,dm (show i < 1000 by omega)]
   exact ⟨_,rfl,r,rfl,by rw [hr2,ha,du hi,Qx hi]⟩
  ·rintro s ⟨a,rfl,ha⟩
   have hlt:W.lt (wi (cr f).length) f.N=false:=by rw [pK (by omega)];have:=h.n0;simp;omega
   simp only [qT,ak,ae,hlt]
   exact ⟨_,rfl,by rw [←List.take_length (l:=cr f)];exact ha⟩
 obtain ⟨o,h1,h2⟩:=key
 unfold mu EH
 have hs:fN f=true:=decide_eq_true ⟨h.len,h.h0,h.h1,h.n0,h.n1⟩
 simp only [an,Qr,hs,aj,ak,Bool.not_true,Bool.false_eq_true,if_false,show mR (f,Sl.lit 8 [] rfl,W.of .i64 0,())=_ from h1,ae]
 exact ⟨_,rfl,h2⟩
def gf (l:List (W .i64)) (n:W .i64) (i:Nat):Prop:=(0≤(nth l i).n∧(nth l i).n < n.n)∧∀ k,k < i→nth l k ≠ nth l i
def je (f:TFree) (n:W .i64):Prop:=fN f=true∧Sl.len f.Ring=n∧∀ i,i < (cr f).length→gf (cr f) n i
theorem S4 (f:TFree) (n:W .i64):∃ b,sI f n=some b∧(b=true ↔ je f n):=by
 unfold sI Eb je
 simp only [an,OV,aj,ak,ae]
 cases hr:fN f with
 | false=>exact ⟨false,rfl,by simp⟩
 | true=>
  have hR:=pZ hr
  obtain ⟨r,e1,e2⟩:=OS hR
  obtain ⟨hl1,hl2⟩:=jI hR
  have hr1:=congrArg List.length e2
  simp only [Bool.not_true,Bool.false_eq_true,if_false,W.ne_eq,W.eq_dec,true_and]
  by_cases hn:Sl.len f.Ring=n
  ·have hn96:n.n≤96:=by rw [←hn,Sl.len_n];have:=hR.len;omega
   simp only [hn,decide_true,Bool.not_true,Bool.false_eq_true,if_false,an,e1,aj,true_and]
   have key:∃ o,mM (n,Arr.rep 96 false,r,Sl.len r,wi 0,())=some o∧(((∀ i,i < r.l.length→gf r.l n i)∧o=.inr ((),()))∨((¬ ∀ i,i < r.l.length→gf r.l n i)∧o=.inl (false,()))):=by
    unfold mM
    refine cX (fun i s=>∃ seen:Arr 96 Bool,s=(n,seen,r,Sl.len r,wi i,())∧∀ p,p < 96→(seen.get p=true ↔ ∃ k,k < i∧nth r.l k=wi p)) r.l.length (gf r.l n) (fun o=>o=Sum.inl (false,())) (fun o=>o=Sum.inr ((),())) ?_ ?_ ⟨_,rfl,fun p hp=>by rw [Arr.get_rep hp];exact ⟨fun h=>(by cases h),fun ⟨k,hk,_⟩=>by omega⟩⟩ (by show _ < 281474976710656;omega)
    ·rintro i s hi ⟨seen,rfl,hs⟩ hP
     simp only [qL,ak,an,ae,aM r hi,Sl.get_wi r hi,if_true,aj,aO r hi]
     unfold gf
     cases h1:W.lt (nth r.l i) (W.of .i64 0) with
     | true=>
      have:=W.lt_n.1 h1
      rw [show (W.of .i64 0).n=0 from rfl] at this
      exact .inr ⟨fun h=>by omega,_,rfl,rfl⟩
     | false=>
      have h1':¬ (nth r.l i).n < 0:=fun h=>by have:=W.lt_n (a:=nth r.l i) (b:=W.of .i64 0).2 h;rw [h1] at this;cases this
      cases h2:W.ge (nth r.l i) n with
      | true=>
       have:=W.ge_n.1 h2
       exact .inr ⟨fun h=>by omega,_,rfl,rfl⟩
      | false=>
       have h2':¬ (nth r.l i).n ≥ n.n:=fun h=>by have:=W.ge_n.2 h;rw [h2] at this;cases this
       have hx:aI 96 (nth r.l i)=some (nth r.l i).n.toNat:=jv (by omega)
       have hw:nth r.l i=wi (nth r.l i).n.toNat:=iu (by omega)
       have hlt:(nth r.l i).n.toNat < 96:=by omega
       have hs':=hs _ hlt
       rw [←hw] at hs'
       simp only [Bool.false_eq_true,if_false,hx,aj]
       cases h3:seen.get (nth r.l i).n.toNat with
       | true=>
        obtain ⟨k,hk,he⟩:=hs'.1 h3
        exact .inr ⟨fun h=>h.2 k hk he,_,rfl,rfl⟩
       | false=>
        refine .inl ⟨⟨by omega,fun k hk he=>?_⟩,_,rfl,_,rfl,fun p hp=>?_⟩
        ·have:=hs'.2 ⟨k,hk,he⟩
         rw [h3] at this;cases this
        ·rw [Arr.get_set hlt]
         by_cases hpe:(nth r.l i).n.toNat=p
         ·rw [if_pos hpe]
          exact ⟨fun _=>⟨i,by omega,by rw [←hpe];exact hw⟩,fun _=>rfl⟩
         ·rw [if_neg hpe,hs p hp]
          constructor
          ·rintro ⟨k,hk,he⟩;exact ⟨k,by omega,he⟩
          ·rintro ⟨k,hk,he⟩
           refine ⟨k,?_,he⟩
           by_cases hki:k=i
           ·subst hki
            rw [he,aP (sm (by omega))] at hpe
            exact absurd rfl hpe
           ·omega
    ·rintro s ⟨seen,rfl,hs⟩ hP
     simp only [qL,ak,ae,aS r]
     exact ⟨_,rfl,rfl⟩
   obtain ⟨o,h1,h2⟩:=key
   rw [e2] at h2
   simp only [show mM (n,Arr.rep 96 false,r,Sl.len r,W.of .i64 0,())=_ from h1,aj,aL]
   rcases h2 with ⟨h3,rfl⟩ | ⟨h3,rfl⟩
   ·exact ⟨true,rfl,fun _=>h3,fun _=>rfl⟩
   ·exact ⟨false,rfl,fun h=>(by cases h),fun h=>(h3 h).elim⟩
  ·simp only [hn,decide_false,Bool.not_false,if_true,false_and,iff_false]
   exact ⟨false,rfl,by simp⟩
theorem adp (f:TFree) (n:W .i64):∃ b,sV f n=some b∧(b=true ↔ je f n):=by
 unfold sV EI je
 simp only [an,Qr,aj,ak,ae]
 cases hr:fN f with
 | false=>exact ⟨false,rfl,by simp⟩
 | true=>
  have hR:=pZ hr
  obtain ⟨r,e1,e2⟩:=Qp hR
  obtain ⟨hl1,hl2⟩:=jI hR
  have hr1:=congrArg List.length e2
  simp only [Bool.not_true,Bool.false_eq_true,if_false,W.ne_eq,W.eq_dec,true_and]
  by_cases hn:Sl.len f.Ring=n
  ·simp only [hn,decide_true,Bool.not_true,Bool.false_eq_true,if_false,an,e1,aj,true_and]
   have key:∃ o,mS (n,r,wi 0,())=some o∧(((∀ i,i < r.l.length→gf r.l n i)∧o=.inr ((),()))∨((¬ ∀ i,i < r.l.length→gf r.l n i)∧o=.inl (false,()))):=by
    unfold mS
    refine cX (fun i s=>s=(n,r,wi i,())) r.l.length (gf r.l n) (fun o=>o=Sum.inl (false,())) (fun o=>o=Sum.inr ((),())) ?_ ?_ rfl (by show _ < 281474976710656;omega)
    ·rintro i s hi rfl hP
     have inner:mT (n,r,wi i,wi 0,())=some (if (List.range i).all (fun k=>!W.eq (nth r.l k) (nth r.l i))=true then .inr (n,(),r,wi i,()) else .inl (n,false,r,wi i,())):=by
      unfold mT
      refine bR (fun k=>(n,r,wi i,wi k,())) i _ _ _ (fun k hk _=>?_) (fun _=>?_) (by show i < 281474976710656;omega)
      ·simp only [qV,ak,an,ae,dt (show k≤1000 by omega) (show i≤1000 by omega),hk,decide_true,if_true,dJ (sm (show k≤1000 by omega)),dJ (sm (show i≤1000 by omega)),show k < r.l.length by omega,hi,aj,dm (show k < 1000 by omega),yl (show k < r.l.length by omega),yl hi]
       cases W.eq (nth r.l k) (nth r.l i)<;>rfl
      ·simp only [qV,ak,ae,dt (show i≤1000 by omega) (show i≤1000 by omega),Nat.lt_irrefl,decide_false,Bool.false_eq_true,if_false]
     have hin:(List.range i).all (fun k=>!W.eq (nth r.l k) (nth r.l i))=true ↔ ∀ k,k < i→nth r.l k ≠ nth r.l i:=by
      rw [List.all_eq_true]
      constructor
      ·intro h k hk he
       have:=h k (List.mem_range.2 hk)
       rw [he,W.eq_self] at this;cases this
      ·intro h k hk
       have:=h k (List.mem_range.1 hk)
       rw [W.eq_dec];simpa using this
     simp only [qU,ak,an,ae,aM r hi,if_true,dJ (sm (show i≤1000 by omega)),hi,aj,yl hi,show mT (n,r,wi i,W.of .i64 0,())=_ from inner,aL]
     unfold gf
     cases h1:W.lt (nth r.l i) (W.of .i64 0) with
     | true=>
      have:=W.lt_n.1 h1
      rw [show (W.of .i64 0).n=0 from rfl] at this
      exact .inr ⟨fun h=>by omega,_,rfl,rfl⟩
     | false=>
      have h1':¬ (nth r.l i).n < 0:=fun h=>by have:=W.lt_n (a:=nth r.l i) (b:=W.of .i64 0).2 h;rw [h1] at this;cases this
      cases h2:W.ge (nth r.l i) n with
      | true=>
       have:=W.ge_n.1 h2
       exact .inr ⟨fun h=>by omega,_,rfl,rfl⟩
      | false=>
       have h2':¬ (nth r.l i).n ≥ n.n:=fun h=>by have:=W.ge_n.2 h;rw [h2] at this;cases this
       cases ha:(List.range i).all (fun k=>!W.eq (nth r.l k) (nth r.l i)) with
       | false=>exact .inr ⟨fun h=>(by have:=hin.2 h.2;rw [ha] at this;cases this),_,rfl,rfl⟩
       | true=>
        simp only [Bool.false_eq_true,if_false,if_true,Sum.elim_inr,ae,dm (show i < 1000 by omega)]
        exact .inl ⟨⟨by omega,hin.1 ha⟩,_,rfl,rfl⟩
    ·rintro s rfl hP
     simp only [qU,ak,ae,aS r]
     exact ⟨_,rfl,rfl⟩
   obtain ⟨o,h1,h2⟩:=key
   rw [e2] at h2
   simp only [show mS (n,r,W.of .i64 0,())=_ from h1,aj,aL]
   rcases h2 with ⟨h3,rfl⟩ | ⟨h3,rfl⟩
   ·exact ⟨true,rfl,fun _=>h3,fun _=>rfl⟩
   ·exact ⟨false,rfl,fun h=>(by cases h),fun h=>(h3 h).elim⟩
  ·simp only [hn,decide_false,Bool.not_false,if_true,false_and,iff_false]
   exact ⟨false,rfl,by simp⟩
end Go.Proofs.YtnpgljilkkipkaaGreat
