/- YtnpgljilkkipkaaGreatBreak5: maps of registers and rings of free ones, as the program and the document judge them. No statement of the seat is proved here. -/
import Derived.Test.YtnpgljilkkipkaaGreatBreak4
set_option linter.unusedSimpArgs false
set_option linter.unusedVariables false
set_option maxRecDepth 100000
namespace Go.Proofs.YtnpgljilkkipkaaGreat
open Go Go.A2
theorem sm {n:Nat} (h:n≤1000):n≤aw:=by unfold aw;omega
theorem du {n m:Nat} (h:n≤1000) (h':m≤1000):W.lt (wi n) (wi m)=decide (n < m):=br (sm h) (sm h')
theorem dn {n:Nat} (h:n < 1000):W.add (wi n) (W.of .i64 1)=wi (n+1):=dc (by unfold aw;omega)
def eo (m:Arr 16 (W .i64)) (n:W .i64) (r:Nat):Prop:=(1≤(m.get r).n∧(m.get r).n < n.n)∧∀ q,1≤q→q < r→m.get q ≠ m.get r
def iA (m:Arr 16 (W .i64)) (n:W .i64):Prop:=m.get 0=W.of .i64 (-1)∧∀ r,1≤r→r < 16→eo m n r
theorem Qs {m:Arr 16 (W .i64)} {r:Nat}:(List.range (r - 1)).all (fun k=>!W.eq (m.get (k+1)) (m.get r))=true ↔ ∀ q,1≤q→q < r→m.get q ≠ m.get r:=by
 rw [List.all_eq_true]
 constructor
 ·intro h q h1 h2 he
  have:=h (q - 1) (List.mem_range.2 (by omega))
  rw [show q - 1+1=q by omega,he,W.eq_self] at this
  cases this
 ·intro h k hk
  have hk:=List.mem_range.1 hk
  have:=h (k+1) (by omega) (by omega)
  rw [W.eq_dec];simpa using this
theorem OW (m:Arr 16 (W .i64)) (n:W .i64):∃ b,mn m n=some b∧(b=true ↔ iA m n):=by
 have key:∃ o,mW (n,m,wi (0+1),())=some o∧(((∀ i,i < 15→eo m n (i+1))∧o=.inr ((),()))∨((¬ ∀ i,i < 15→eo m n (i+1))∧o=.inl (false,()))):=by
  unfold mW
  refine cR (fun i s=>s=(n,m,wi (i+1),())) 15 (fun i=>eo m n (i+1)) (fun o=>o=Sum.inl (false,())) (fun o=>o=Sum.inr ((),())) ?_ ?_ rfl (by decide)
  ·rintro i s hi rfl hP
   have inner:mX (n,m,wi (i+1),wi (0+1),())=some (if (List.range i).all (fun k=>!W.eq (m.get (k+1)) (m.get (i+1)))=true then .inr (n,m,(),wi (i+1),()) else .inl (n,m,false,wi (i+1),())):=by
    unfold mX
    refine bS (fun k=>(n,m,wi (i+1),wi (k+1),())) i _ _ _ (fun k hk _=>?_) (fun _=>?_) (by show i < 281474976710656;omega)
    ·simp only [re,ak,an,ae,du (show k+1≤1000 by omega) (show i+1≤1000 by omega),show k+1 < i+1 by omega,decide_true,if_true,dJ (sm (show k+1≤1000 by omega)),dJ (sm (show i+1≤1000 by omega)),show k+1 < 16 by omega,show i+1 < 16 by omega,aj,dn (show k+1 < 1000 by omega)]
     cases W.eq (m.get (k+1)) (m.get (i+1))<;>rfl
    ·simp only [re,ak,ae,du (show i+1≤1000 by omega) (show i+1≤1000 by omega),Nat.lt_irrefl,decide_false,Bool.false_eq_true,if_false]
   have hin:(List.range i).all (fun k=>!W.eq (m.get (k+1)) (m.get (i+1)))=true ↔ ∀ q,1≤q→q < i+1→m.get q ≠ m.get (i+1):=Qs (r:=i+1)
   have hlt:W.lt (wi (i+1)) (W.of .i64 16)=true:=(du (m:=16) (by omega) (by omega)).trans (by simp;omega)
   simp only [z8,ak,an,ae,hlt,if_true,show mX (n,m,wi (i+1),W.of .i64 1,())=_ from inner,aj,aM]
   unfold eo
   cases ha:(List.range i).all (fun k=>!W.eq (m.get (k+1)) (m.get (i+1))) with
   | false=>exact .inr ⟨fun h=>(by have:=hin.2 h.2;rw [ha] at this;cases this),_,rfl,rfl⟩
   | true=>
    simp only [if_true,Sum.elim_inr,ak,an,ae,dJ (sm (show i+1≤1000 by omega)),show i+1 < 16 by omega,aj,dn (show i+1 < 1000 by omega)]
    cases h1:W.lt (m.get (i+1)) (W.of .i64 1) with
    | true=>
     have:=W.lt_n.1 h1
     rw [show (W.of .i64 1).n=1 from rfl] at this
     exact .inr ⟨fun h=>by omega,_,rfl,rfl⟩
    | false=>
     have h1':¬ (m.get (i+1)).n < 1:=fun h=>by have:=W.lt_n (a:=m.get (i+1)) (b:=W.of .i64 1).2 h;rw [h1] at this;cases this
     cases h2:W.ge (m.get (i+1)) n with
     | true=>
      have:=W.ge_n.1 h2
      exact .inr ⟨fun h=>by omega,_,rfl,rfl⟩
     | false=>
      have h2':¬ (m.get (i+1)).n ≥ n.n:=fun h=>by have:=W.ge_n.2 h;rw [h2] at this;cases this
      exact .inl ⟨⟨by omega,hin.1 ha⟩,_,rfl,rfl⟩
  ·rintro s rfl hP
   exact ⟨_,rfl,rfl⟩
 obtain ⟨o,h1,h2⟩:=key
 have hall:(∀ i,i < 15→eo m n (i+1)) ↔ ∀ r,1≤r→r < 16→eo m n r:=⟨fun h r hr hr'=>by have:=h (r - 1) (by omega);rwa [show r - 1+1=r by omega] at this,fun h i hi=>h (i+1) (by omega) (by omega)⟩
 unfold mn EH iA
 rw [←hall]
 simp only [ak,ae,an,show mW (n,m,W.of .i64 1,())=_ from h1,aj,aM,W.ne_eq,W.eq_dec]
 by_cases h0:m.get 0=W.of .i64 (-1)
 ·simp only [h0,decide_true,Bool.not_true,Bool.false_eq_true,if_false,true_and]
  rcases h2 with ⟨h3,rfl⟩ | ⟨h3,rfl⟩
  ·exact ⟨true,rfl,fun _=>h3,fun _=>rfl⟩
  ·exact ⟨false,rfl,fun h=>(by cases h),fun h=>(h3 h).elim⟩
 ·simp only [h0,decide_false,Bool.not_false,if_true,false_and,iff_false]
  exact ⟨false,rfl,by simp⟩
theorem Qw (m:Arr 16 (W .i64)) (n:W .i64):∃ b,mB m n=some b∧(b=true ↔ iA m n):=by
 have key:∃ o,m7 (n,m,wi (0+1),())=some o∧(((∀ i,i < 15→eo m n (i+1))∧o=.inr ((),()))∨((¬ ∀ i,i < 15→eo m n (i+1))∧o=.inl (false,()))):=by
  unfold m7
  refine cR (fun i s=>s=(n,m,wi (i+1),())) 15 (fun i=>eo m n (i+1)) (fun o=>o=Sum.inl (false,())) (fun o=>o=Sum.inr ((),())) ?_ ?_ rfl (by decide)
  ·rintro i s hi rfl hP
   have inner:m8 (n,m,wi (i+1),wi (0+1),())=some (if (List.range i).all (fun k=>!W.eq (m.get (k+1)) (m.get (i+1)))=true then .inr (n,m,(),wi (i+1),()) else .inl (n,m,false,wi (i+1),())):=by
    unfold m8
    refine bS (fun k=>(n,m,wi (i+1),wi (k+1),())) i _ _ _ (fun k hk _=>?_) (fun _=>?_) (by show i < 281474976710656;omega)
    ·simp only [rk,ak,an,ae,du (show k+1≤1000 by omega) (show i+1≤1000 by omega),show k+1 < i+1 by omega,decide_true,if_true,dJ (sm (show k+1≤1000 by omega)),dJ (sm (show i+1≤1000 by omega)),show k+1 < 16 by omega,show i+1 < 16 by omega,aj,dn (show k+1 < 1000 by omega)]
     cases W.eq (m.get (k+1)) (m.get (i+1))<;>rfl
    ·simp only [rk,ak,ae,du (show i+1≤1000 by omega) (show i+1≤1000 by omega),Nat.lt_irrefl,decide_false,Bool.false_eq_true,if_false]
   have hin:(List.range i).all (fun k=>!W.eq (m.get (k+1)) (m.get (i+1)))=true ↔ ∀ q,1≤q→q < i+1→m.get q ≠ m.get (i+1):=Qs (r:=i+1)
   have hlt:W.lt (wi (i+1)) (W.of .i64 16)=true:=(du (m:=16) (by omega) (by omega)).trans (by simp;omega)
   simp only [z9,ak,an,ae,hlt,if_true,dJ (sm (show i+1≤1000 by omega)),show i+1 < 16 by omega,show m8 (n,m,wi (i+1),W.of .i64 1,())=_ from inner,aj,aM]
   unfold eo
   cases h1:W.lt (m.get (i+1)) (W.of .i64 1) with
   | true=>
    have:=W.lt_n.1 h1
    rw [show (W.of .i64 1).n=1 from rfl] at this
    exact .inr ⟨fun h=>by omega,_,rfl,rfl⟩
   | false=>
    have h1':¬ (m.get (i+1)).n < 1:=fun h=>by have:=W.lt_n (a:=m.get (i+1)) (b:=W.of .i64 1).2 h;rw [h1] at this;cases this
    cases h2:W.ge (m.get (i+1)) n with
    | true=>
     have:=W.ge_n.1 h2
     exact .inr ⟨fun h=>by omega,_,rfl,rfl⟩
    | false=>
     have h2':¬ (m.get (i+1)).n ≥ n.n:=fun h=>by have:=W.ge_n.2 h;rw [h2] at this;cases this
     cases ha:(List.range i).all (fun k=>!W.eq (m.get (k+1)) (m.get (i+1))) with
     | false=>exact .inr ⟨fun h=>(by have:=hin.2 h.2;rw [ha] at this;cases this),_,rfl,rfl⟩
     | true=>
      simp only [Bool.false_eq_true,if_false,if_true,Sum.elim_inr,ae,dn (show i+1 < 1000 by omega)]
      exact .inl ⟨⟨by omega,hin.1 ha⟩,_,rfl,rfl⟩
  ·rintro s rfl hP
   exact ⟨_,rfl,rfl⟩
 obtain ⟨o,h1,h2⟩:=key
 have hall:(∀ i,i < 15→eo m n (i+1)) ↔ ∀ r,1≤r→r < 16→eo m n r:=⟨fun h r hr hr'=>by have:=h (r - 1) (by omega);rwa [show r - 1+1=r by omega] at this,fun h i hi=>h (i+1) (by omega) (by omega)⟩
 unfold mB EV iA
 rw [←hall]
 simp only [ak,ae,an,show m7 (n,m,W.of .i64 1,())=_ from h1,aj,aM,W.ne_eq,W.eq_dec]
 by_cases h0:m.get 0=W.of .i64 (-1)
 ·simp only [h0,decide_true,Bool.not_true,Bool.false_eq_true,if_false,true_and]
  rcases h2 with ⟨h3,rfl⟩ | ⟨h3,rfl⟩
  ·exact ⟨true,rfl,fun _=>h3,fun _=>rfl⟩
  ·exact ⟨false,rfl,fun h=>(by cases h),fun h=>(h3 h).elim⟩
 ·simp only [h0,decide_false,Bool.not_false,if_true,false_and,iff_false]
  exact ⟨false,rfl,by simp⟩
def fN (f:TFree):Bool:=decide (f.Ring.l.length≤96∧0≤f.Head.n∧(f.Head.n < f.Ring.l.length∨f.Head.n=0)∧0≤f.N.n∧f.N.n≤f.Ring.l.length)
theorem cY {b:Nat} {α:Type} (s:Sl b α):(Sl.len s).n=s.l.length:=id (Sl.len_n s)
theorem aB:(W.of .i64 0).n=0:=id rfl
theorem Qc:(W.of .i64 96).n=96:=id rfl
theorem OX (f:TFree):mi f=some (fN f):=by
 unfold mi Eo fN
 simp only [ak,ae,W.le_n,W.ge_n,W.lt_n,W.eq_n,cY,aB,Qc]
 repeat' split
 all_goals first | (congr 1;apply Eq.symm;rw [decide_eq_false_iff_not];omega) | (congr 1;refine bQ ?_;rw [decide_eq_true_eq,W.le_n,cY];omega)
theorem Qx (f:TFree):mz f=some (fN f):=by
 unfold mz ES fN
 simp only [ak,ae,W.le_n,W.ge_n,W.lt_n,W.gt_n,W.eq_n,cY,aB,Qc]
 repeat' split
 all_goals first | (congr 1;apply Eq.symm;rw [decide_eq_false_iff_not];omega) | (congr 1;apply Eq.symm;rw [decide_eq_true_eq];omega) | (congr 1;refine bQ ?_;rw [decide_eq_true_eq,W.eq_n,aB];omega)
def cr (f:TFree):List (W .i64):=(List.range f.N.n.toNat).map fun k=>nth f.Ring.l ((f.Head.n.toNat+k) % f.Ring.l.length)
theorem QC {f:TFree} {i:Nat} (h:i < (cr f).length):nth (cr f) i=nth f.Ring.l ((f.Head.n.toNat+i) % f.Ring.l.length):=by
 have hi:i < (List.range f.N.n.toNat).length:=by unfold cr at h;rwa [List.length_map] at h
 have:nth (cr f) i=nth f.Ring.l ((f.Head.n.toNat+nth (List.range f.N.n.toNat) i) % f.Ring.l.length):=jE hi
 rw [this,show nth (List.range f.N.n.toNat) i=i by rw [cC hi,List.getElem_range]]
structure RingOk (f:TFree):Prop where
 len:f.Ring.l.length≤96
 h0:0≤f.Head.n
 h1:f.Head.n < f.Ring.l.length∨f.Head.n=0
 n0:0≤f.N.n
 n1:f.N.n≤f.Ring.l.length
theorem qg {f:TFree} (h:fN f=true):RingOk f:=by
 have:=of_decide_eq_true h
 exact ⟨this.1,this.2.1,this.2.2.1,this.2.2.2.1,this.2.2.2.2⟩
theorem jJ {f:TFree} (h:RingOk f):(cr f).length≤96∧(cr f).length=f.N.n.toNat:=by
 have:=h.len;have:=h.n1
 unfold cr;rw [List.length_map,List.length_range];omega
theorem zr {a n:Nat} (hn:0 < n) (h:a≤1000) (h':n≤1000):W.rem? (wi a) (wi n)=some (wi (a % n)):=by
 unfold W.rem?
 rw [if_neg (by rw [aQ (sm h')];omega)]
 congr 1
 refine W.ext ?_
 rw [W.rem_n,aQ (sm h),aQ (sm h'),aQ (sm (Nat.le_trans (Nat.mod_le _ _) h)),←Int.ofNat_tmod,de]
 have:=Nat.mod_lt a hn
 omega
theorem x5 {a b:Nat} (h:a≤1000) (h':b≤1000):W.add (wi a) (wi b)=wi (a+b):=by
 refine W.ext ?_
 rw [W.add_n,aQ (sm h),aQ (sm h'),W.of_n]
 simp
theorem iw {a:W .i64} (h:0≤a.n):a=wi a.n.toNat:=by
 refine W.ext ?_
 have:=a.r_i64
 rw [W.of_n,de];omega
theorem Tg {f:TFree} (h:RingOk f) {k:Nat} (hk:k < f.N.n.toNat):sV f (wi k)=some (wi ((f.Head.n.toNat+k) % f.Ring.l.length)):=by
 obtain ⟨h1,h2,h3,h4,h5⟩:=h
 have hlen:0 < f.Ring.l.length:=by omega
 unfold sV En
 have hm:=Nat.mod_lt (f.Head.n.toNat+k) hlen
 rw [an,iw h2,Sl.len_wi]
 rw [show (wi f.Head.n.toNat).n.toNat=f.Head.n.toNat by rw [aQ (sm (by omega))];rfl]
 rw [x5 (by omega) (by omega),zr hlen (by omega) (by omega),aj,an,x5 (by omega) (by omega),zr hlen (by omega) (by omega),aj,ae]
 rw [Nat.add_mod_right,Nat.mod_mod]
theorem pS {a:W .i64} {i:Nat} (hi:i≤1000):W.lt (wi i) a=decide ((i:Int) < a.n):=by unfold W.lt;rw [aQ (sm hi)]
theorem OU {f:TFree} (h:RingOk f):∃ r,mh f=some r∧r.l=cr f:=by
 obtain ⟨hl1,hl2⟩:=jJ h
 have key:∃ o,mR (f,((f,()),()),Sl.nil,f.N,wi 0,())=some o∧o.1.l=cr f:=by
  unfold mR
  refine bK (fun i s=>∃ a:Sl 8 (W .i64),s=(f,((f,()),()),a,f.N,wi i,())∧a.l=(cr f).take i) (cr f).length _ ?_ ?_ ⟨Sl.nil,rfl,rfl⟩ (by show _ < 281474976710656;omega)
  ·rintro i s hi ⟨a,rfl,ha⟩
   have hlen:a.l.length=i:=by rw [ha,List.length_take];omega
   have hm:(f.Head.n.toNat+i) % f.Ring.l.length < f.Ring.l.length:=Nat.mod_lt _ (by have:=h.n1;omega)
   obtain ⟨r,hr1,hr2⟩:=cy (s:=a) (x:=nth f.Ring.l ((f.Head.n.toNat+i) % f.Ring.l.length)) (hb:=rfl) (by unfold aw;omega) (by unfold aw;omega)
   have hlt:W.lt (wi i) f.N=true:=by rw [pS (by omega)];have:=h.n0;simp;omega
   simp only [qT,ak,an,ae,hlt,if_true,Tg h (show i < f.N.n.toNat by omega),aj,Sl.get_wi f.Ring hm,hr1,dn (show i < 1000 by omega)]
   exact ⟨_,rfl,r,rfl,by rw [hr2,ha,dv hi,QC hi]⟩
  ·rintro s ⟨a,rfl,ha⟩
   have hlt:W.lt (wi (cr f).length) f.N=false:=by rw [pS (by omega)];have:=h.n0;simp;omega
   simp only [qT,ak,ae,hlt]
   exact ⟨_,rfl,by rw [←List.take_length (l:=cr f)];exact ha⟩
 obtain ⟨o,h1,h2⟩:=key
 unfold mh El
 have hs:fN f=true:=decide_eq_true ⟨h.len,h.h0,h.h1,h.n0,h.n1⟩
 simp only [an,OX,hs,aj,ak,Bool.not_true,Bool.false_eq_true,if_false,show mR (f,((f,()),()),Sl.nil,f.N,W.of .i64 0,())=_ from h1,ae]
 exact ⟨_,rfl,h2⟩
theorem Qv {f:TFree} (h:RingOk f):∃ r,mA f=some r∧r.l=cr f:=by
 obtain ⟨hl1,hl2⟩:=jJ h
 have key:∃ o,mY (f,Sl.lit 8 [] rfl,wi 0,())=some o∧o.1.l=cr f:=by
  unfold mY
  refine bK (fun i s=>∃ a:Sl 8 (W .i64),s=(f,a,wi i,())∧a.l=(cr f).take i) (cr f).length _ ?_ ?_ ⟨Sl.lit 8 [] rfl,rfl,rfl⟩ (by show _ < 281474976710656;omega)
  ·rintro i s hi ⟨a,rfl,ha⟩
   have hlen:a.l.length=i:=by rw [ha,List.length_take];omega
   have hpos:0 < f.Ring.l.length:=by have:=h.n1;omega
   have hm:(f.Head.n.toNat+i) % f.Ring.l.length < f.Ring.l.length:=Nat.mod_lt _ hpos
   obtain ⟨r,hr1,hr2⟩:=cy (s:=a) (x:=nth f.Ring.l ((f.Head.n.toNat+i) % f.Ring.l.length)) (hb:=rfl) (by unfold aw;omega) (by unfold aw;omega)
   have hlt:W.lt (wi i) f.N=true:=by rw [pS (by omega)];have:=h.n0;simp;omega
   have hrem:W.rem? (W.add f.Head (wi i)) (Sl.len f.Ring)=some (wi ((f.Head.n.toNat+i) % f.Ring.l.length)):=by
    have:=h.h1;have:=h.len
    rw [Sl.len_wi,iw h.h0,x5 (by omega) (by omega),zr hpos (by omega) (by omega),←iw h.h0]
   simp only [rh,ak,an,ae,hlt,if_true,hrem,aj,Sl.get_wi f.Ring hm,hr1,dn (show i < 1000 by omega)]
   exact ⟨_,rfl,r,rfl,by rw [hr2,ha,dv hi,QC hi]⟩
  ·rintro s ⟨a,rfl,ha⟩
   have hlt:W.lt (wi (cr f).length) f.N=false:=by rw [pS (by omega)];have:=h.n0;simp;omega
   simp only [rh,ak,ae,hlt]
   exact ⟨_,rfl,by rw [←List.take_length (l:=cr f)];exact ha⟩
 obtain ⟨o,h1,h2⟩:=key
 unfold mA ET
 have hs:fN f=true:=decide_eq_true ⟨h.len,h.h0,h.h1,h.n0,h.n1⟩
 simp only [an,Qx,hs,aj,ak,Bool.not_true,Bool.false_eq_true,if_false,show mY (f,Sl.lit 8 [] rfl,W.of .i64 0,())=_ from h1,ae]
 exact ⟨_,rfl,h2⟩
def gh (l:List (W .i64)) (n:W .i64) (i:Nat):Prop:=(0≤(nth l i).n∧(nth l i).n < n.n)∧∀ k,k < i→nth l k ≠ nth l i
def jf (f:TFree) (n:W .i64):Prop:=fN f=true∧Sl.len f.Ring=n∧∀ i,i < (cr f).length→gh (cr f) n i
theorem Ta (f:TFree) (n:W .i64):∃ b,sU f n=some b∧(b=true ↔ jf f n):=by
 unfold sU Em jf
 simp only [an,OX,aj,ak,ae]
 cases hr:fN f with
 | false=>exact ⟨false,rfl,by simp⟩
 | true=>
  have hR:=qg hr
  obtain ⟨r,e1,e2⟩:=OU hR
  obtain ⟨hl1,hl2⟩:=jJ hR
  have hr1:=congrArg List.length e2
  simp only [Bool.not_true,Bool.false_eq_true,if_false,W.ne_eq,W.eq_dec,true_and]
  by_cases hn:Sl.len f.Ring=n
  ·have hn96:n.n≤96:=by rw [←hn,Sl.len_n];have:=hR.len;omega
   simp only [hn,decide_true,Bool.not_true,Bool.false_eq_true,if_false,an,e1,aj,true_and]
   have key:∃ o,mS (n,Arr.rep 96 false,r,Sl.len r,wi 0,())=some o∧(((∀ i,i < r.l.length→gh r.l n i)∧o=.inr ((),()))∨((¬ ∀ i,i < r.l.length→gh r.l n i)∧o=.inl (false,()))):=by
    unfold mS
    refine cR (fun i s=>∃ seen:Arr 96 Bool,s=(n,seen,r,Sl.len r,wi i,())∧∀ p,p < 96→(seen.get p=true ↔ ∃ k,k < i∧nth r.l k=wi p)) r.l.length (gh r.l n) (fun o=>o=Sum.inl (false,())) (fun o=>o=Sum.inr ((),())) ?_ ?_ ⟨_,rfl,fun p hp=>by rw [Arr.get_rep hp];exact ⟨fun h=>(by cases h),fun ⟨k,hk,_⟩=>by omega⟩⟩ (by show _ < 281474976710656;omega)
    ·rintro i s hi ⟨seen,rfl,hs⟩ hP
     simp only [qU,ak,an,ae,aK r hi,Sl.get_wi r hi,if_true,aj,aN r hi]
     unfold gh
     cases h1:W.lt (nth r.l i) (W.of .i64 0) with
     | true=>
      have:=W.lt_n.1 h1
      rw [show (W.of .i64 0).n=0 from rfl] at this
      exact .inr ⟨fun h=>by omega,_,rfl,rfl⟩
     | false=>
      have h1':¬ (nth r.l i).n < 0:=fun h=>by have:=W.lt_n (a:=nth r.l i) (b:=W.of .i64 0).2 h;rw [h1] at this;cases this
      cases h2:W.ge (nth r.l i) n with
      | true=>
       have:=W.ge_n.1 h2
       exact .inr ⟨fun h=>by omega,_,rfl,rfl⟩
      | false=>
       have h2':¬ (nth r.l i).n ≥ n.n:=fun h=>by have:=W.ge_n.2 h;rw [h2] at this;cases this
       have hx:aI 96 (nth r.l i)=some (nth r.l i).n.toNat:=jw (by omega)
       have hw:nth r.l i=wi (nth r.l i).n.toNat:=iw (by omega)
       have hlt:(nth r.l i).n.toNat < 96:=by omega
       have hs':=hs _ hlt
       rw [←hw] at hs'
       simp only [Bool.false_eq_true,if_false,hx,aj]
       cases h3:seen.get (nth r.l i).n.toNat with
       | true=>
        obtain ⟨k,hk,he⟩:=hs'.1 h3
        exact .inr ⟨fun h=>h.2 k hk he,_,rfl,rfl⟩
       | false=>
        refine .inl ⟨⟨by omega,fun k hk he=>?_⟩,_,rfl,_,rfl,fun p hp=>?_⟩
        ·have:=hs'.2 ⟨k,hk,he⟩
         rw [h3] at this;cases this
        ·rw [Arr.get_set hlt]
         by_cases hpe:(nth r.l i).n.toNat=p
         ·rw [if_pos hpe]
          exact ⟨fun _=>⟨i,by omega,by rw [←hpe];exact hw⟩,fun _=>rfl⟩
         ·rw [if_neg hpe,hs p hp]
          constructor
          ·rintro ⟨k,hk,he⟩;exact ⟨k,by omega,he⟩
          ·rintro ⟨k,hk,he⟩
           refine ⟨k,?_,he⟩
           by_cases hki:k=i
           ·subst hki
            rw [he,aQ (sm (by omega))] at hpe
            exact absurd rfl hpe
           ·omega
    ·rintro s ⟨seen,rfl,hs⟩ hP
     simp only [qU,ak,ae,aO r]
     exact ⟨_,rfl,rfl⟩
   obtain ⟨o,h1,h2⟩:=key
   rw [e2] at h2
   simp only [show mS (n,Arr.rep 96 false,r,Sl.len r,W.of .i64 0,())=_ from h1,aj,aM]
   rcases h2 with ⟨h3,rfl⟩ | ⟨h3,rfl⟩
   ·exact ⟨true,rfl,fun _=>h3,fun _=>rfl⟩
   ·exact ⟨false,rfl,fun h=>(by cases h),fun h=>(h3 h).elim⟩
  ·simp only [hn,decide_false,Bool.not_false,if_true,false_and,iff_false]
   exact ⟨false,rfl,by simp⟩
theorem adw (f:TFree) (n:W .i64):∃ b,tj f n=some b∧(b=true ↔ jf f n):=by
 unfold tj EU jf
 simp only [an,Qx,aj,ak,ae]
 cases hr:fN f with
 | false=>exact ⟨false,rfl,by simp⟩
 | true=>
  have hR:=qg hr
  obtain ⟨r,e1,e2⟩:=Qv hR
  obtain ⟨hl1,hl2⟩:=jJ hR
  have hr1:=congrArg List.length e2
  simp only [Bool.not_true,Bool.false_eq_true,if_false,W.ne_eq,W.eq_dec,true_and]
  by_cases hn:Sl.len f.Ring=n
  ·simp only [hn,decide_true,Bool.not_true,Bool.false_eq_true,if_false,an,e1,aj,true_and]
   have key:∃ o,mZ (n,r,wi 0,())=some o∧(((∀ i,i < r.l.length→gh r.l n i)∧o=.inr ((),()))∨((¬ ∀ i,i < r.l.length→gh r.l n i)∧o=.inl (false,()))):=by
    unfold mZ
    refine cR (fun i s=>s=(n,r,wi i,())) r.l.length (gh r.l n) (fun o=>o=Sum.inl (false,())) (fun o=>o=Sum.inr ((),())) ?_ ?_ rfl (by show _ < 281474976710656;omega)
    ·rintro i s hi rfl hP
     have inner:m6 (n,r,wi i,wi 0,())=some (if (List.range i).all (fun k=>!W.eq (nth r.l k) (nth r.l i))=true then .inr (n,(),r,wi i,()) else .inl (n,false,r,wi i,())):=by
      unfold m6
      refine bS (fun k=>(n,r,wi i,wi k,())) i _ _ _ (fun k hk _=>?_) (fun _=>?_) (by show i < 281474976710656;omega)
      ·simp only [rj,ak,an,ae,du (show k≤1000 by omega) (show i≤1000 by omega),hk,decide_true,if_true,dJ (sm (show k≤1000 by omega)),dJ (sm (show i≤1000 by omega)),show k < r.l.length by omega,hi,aj,dn (show k < 1000 by omega),lh (show k < r.l.length by omega),lh hi]
       cases W.eq (nth r.l k) (nth r.l i)<;>rfl
      ·simp only [rj,ak,ae,du (show i≤1000 by omega) (show i≤1000 by omega),Nat.lt_irrefl,decide_false,Bool.false_eq_true,if_false]
     have hin:(List.range i).all (fun k=>!W.eq (nth r.l k) (nth r.l i))=true ↔ ∀ k,k < i→nth r.l k ≠ nth r.l i:=by
      rw [List.all_eq_true]
      constructor
      ·intro h k hk he
       have:=h k (List.mem_range.2 hk)
       rw [he,W.eq_self] at this;cases this
      ·intro h k hk
       have:=h k (List.mem_range.1 hk)
       rw [W.eq_dec];simpa using this
     simp only [ri,ak,an,ae,aK r hi,if_true,dJ (sm (show i≤1000 by omega)),hi,aj,lh hi,show m6 (n,r,wi i,W.of .i64 0,())=_ from inner,aM]
     unfold gh
     cases h1:W.lt (nth r.l i) (W.of .i64 0) with
     | true=>
      have:=W.lt_n.1 h1
      rw [show (W.of .i64 0).n=0 from rfl] at this
      exact .inr ⟨fun h=>by omega,_,rfl,rfl⟩
     | false=>
      have h1':¬ (nth r.l i).n < 0:=fun h=>by have:=W.lt_n (a:=nth r.l i) (b:=W.of .i64 0).2 h;rw [h1] at this;cases this
      cases h2:W.ge (nth r.l i) n with
      | true=>
       have:=W.ge_n.1 h2
       exact .inr ⟨fun h=>by omega,_,rfl,rfl⟩
      | false=>
       have h2':¬ (nth r.l i).n ≥ n.n:=fun h=>by have:=W.ge_n.2 h;rw [h2] at this;cases this
       cases ha:(List.range i).all (fun k=>!W.eq (nth r.l k) (nth r.l i)) with
       | false=>exact .inr ⟨fun h=>(by have:=hin.2 h.2;rw [ha] at this;cases this),_,rfl,rfl⟩
       | true=>
        simp only [Bool.false_eq_true,if_false,if_true,Sum.elim_inr,ae,dn (show i < 1000 by omega)]
        exact .inl ⟨⟨by omega,hin.1 ha⟩,_,rfl,rfl⟩
    ·rintro s rfl hP
     simp only [ri,ak,ae,aO r]
     exact ⟨_,rfl,rfl⟩
   obtain ⟨o,h1,h2⟩:=key
   rw [e2] at h2
   simp only [show mZ (n,r,W.of .i64 0,())=_ from h1,aj,aM]
   rcases h2 with ⟨h3,rfl⟩ | ⟨h3,rfl⟩
   ·exact ⟨true,rfl,fun _=>h3,fun _=>rfl⟩
   ·exact ⟨false,rfl,fun h=>(by cases h),fun h=>(h3 h).elim⟩
  ·simp only [hn,decide_false,Bool.not_false,if_true,false_and,iff_false]
   exact ⟨false,rfl,by simp⟩
end Go.Proofs.YtnpgljilkkipkaaGreat
