/- YtnpgljilkkipkaaGreatAud4: where a line is in a cache. No statement of the seat is proved here. -/
import Derived.Test.YtnpgljilkkipkaaGreatAud3
set_option linter.unusedSimpArgs false
set_option linter.unusedVariables false
set_option maxRecDepth 100000
namespace Go.Proofs.YtnpgljilkkipkaaGreat
open Go Go.A2
theorem bt {b:Nat} {α:Type} (s:Sl b α):s.l.length < aa:=by have:=s.h.2;unfold aw at this;show _ < 281474976710656;omega
theorem yE {S β:Type} {f:S→Option (Rnd S β)} (st:Nat→S) (n:Nat) (p:Nat→Bool) (hit:Nat→β) (miss:β)
  (step:∀ i,i < n→f (st i)=some (if p i=true then .out (hit i) else .next (st (i+1)))) (last:f (st n)=some (.out miss)) {N:Nat} (hN:n < N):
  az f N (st 0)=some (match (List.range n).find? p with | some i=>hit i | none=>miss):=by
 have main:∀ (m i N:Nat),i+m=n→m < N→az f N (st i)=some (match (List.range' i m).find? p with | some i=>hit i | none=>miss):=by
  intro m
  induction m with
  | zero=>
   intro i N hi hN
   obtain ⟨N,rfl⟩:∃ M,N=M+1:=⟨N - 1,by omega⟩
   have:i=n:=by omega
   subst this
   rw [dt,last];rfl
  | succ m ih=>
   intro i N hi hN
   obtain ⟨N,rfl⟩:∃ M,N=M+1:=⟨N - 1,by omega⟩
   rw [dt,step i (by omega),List.range'_succ,List.find?_cons]
   cases hp:p i with
   | true=>rfl
   | false=>exact ih (i+1) N (by omega) (by omega)
 rw [List.range_eq_range']
 exact main n 0 N (by omega) hN
def eH (t:W .u32) (w:TWay):Bool:=W.eq w.Tag t&&W.ne w.State (W.of .i64 0)
def cW (l:List TWay) (t:W .u32):Option Nat:=(List.range l.length).find? fun i=>eH t (nth l i)
theorem yv {l:List TWay} {t:W .u32} {k:Nat} (h:cW l t=some k):k < l.length∧eH t (nth l k)=true∧∀ j,j < k→eH t (nth l j)=false:=by
 unfold cW at h
 rw [List.find?_range_eq_some] at h
 obtain ⟨h1,h2,h3⟩:=h
 exact ⟨List.mem_range.1 h2,h1,fun j hj=>by have:=h3 j hj;simpa using this⟩
def bx (c:TCache) (t:W .u32):Nat:=t.v % c.Sets.l.length
def ca (c:TCache) (t:W .u32):Sl 40 TWay:=nth c.Sets.l (bx c t)
theorem zz {c:TCache}:W.eq (Sl.len c.Sets) (W.of .i64 0)=decide (c.Sets.l.length=0):=by
 rw [Sl.len_wi,aY,di c.Sets.h.2 (by omega)]
theorem Iy (c:TCache) (t:W .u32) (h:0 < c.Sets.l.length):iJ c t=some (wi (bx c t)):=by
 have hr:=c.Sets.h.2
 unfold aw at hr
 have ht:=t.r_u32
 have h1:(W.conv .u64 t).v=t.v:=W.conv_u64_v t
 have h2:(W.conv .u64 (Sl.len c.Sets)).v=c.Sets.l.length:=by
  unfold W.v
  rw [W.conv_n,cY,eP];omega
 have h3:(W.conv .u64 (Sl.len c.Sets)).n ≠ 0:=by rw [W.conv_n,cY,eP];omega
 unfold iJ DQ
 simp only [ak,an,ae,zz,decide_eq_true_eq]
 rw [if_neg (by omega)]
 unfold W.rem?
 rw [if_neg h3,aj]
 congr 1
 refine W.ext ?_
 have h4:(W.rem (W.conv .u64 t) (W.conv .u64 (Sl.len c.Sets))).n=bx c t:=by
  rw [W.rem_n,W.un rfl (W.conv .u64 t),W.un rfl (W.conv .u64 (Sl.len c.Sets)),h1,h2]
  unfold bx
  rw [←Int.ofNat_tmod,eP]
  have:=Nat.mod_lt t.v h
  omega
 have:=Nat.mod_lt t.v h
 rw [W.conv_n,h4,aQ (by unfold bx aw;omega),de]
 unfold bx;omega
theorem Q9 (c:TCache) (t:W .u32) (h:0 < c.Sets.l.length):gF c t=some (wi (bx c t)):=by
 have hr:=c.Sets.h.2
 unfold aw at hr
 have h3:(Sl.len c.Sets).n ≠ 0:=by rw [cY];omega
 unfold gF vP
 simp only [ak,an,ae,zz,decide_eq_true_eq]
 rw [if_neg (by omega)]
 unfold W.rem?
 rw [if_neg h3,aj]
 congr 1
 refine W.ext ?_
 have:=Nat.mod_lt t.v h
 rw [W.rem_n,W.conv_i64_v,cY,aQ (by unfold bx aw;omega),←Int.ofNat_tmod,de]
 unfold bx;omega
theorem lH (c:TCache) (t:W .u32) (h:0 < c.Sets.l.length):bx c t < c.Sets.l.length:=Nat.mod_lt _ h
theorem ahv (c:TCache) (t:W .u32) (h:0 < c.Sets.l.length):sD c t=some (ca c t):=by
 unfold sD DR
 simp only [ak,an,ae,zz,decide_eq_true_eq]
 rw [if_neg (by omega),Iy c t h,aj,Sl.get_wi c.Sets (lH c t h),aj]
 rfl
theorem ZU (w:TWay) (t:W .u32):sC w t=some (eH t w):=by
 unfold sC DM eH
 simp only [ak,ae]
 cases W.eq w.Tag t<;>rfl
def eF (c:TCache) (t:W .u32):W .i64×W .i64×Bool:=match cW (ca c t).l t with
 | some k=>(wi (bx c t),wi k,true)
 | none=>(W.of .i64 0,W.of .i64 0,false)
theorem Pd (c:TCache) (t:W .u32) (h:0 < c.Sets.l.length):jV c t=some (eF c t):=by
 have hix:tS (ca c t) t=some (match cW (ca c t).l t with | some k=>wi k | none=>W.of .i64 (-1)):=by
  have hL:ve (ca c t,((),(t,())),Sl.len (ca c t),wi 0,())=some (match cW (ca c t).l t with | some k=>Sum.inl (wi k,()) | none=>Sum.inr ((),())):=by
   unfold ve cW
   refine yE (fun i=>(ca c t,((),(t,())),Sl.len (ca c t),wi i,())) _ _ (fun k=>Sum.inl (wi k,())) (Sum.inr ((),())) (fun i hi=>?_) ?_ (bt _)
   ·simp only [sw,ak,an,ae,aK _ hi,Sl.get_wi _ hi,if_true,aj,ZU,aN _ hi]
    split<;>rfl
   ·simp only [sw,ak,ae,aO,Bool.false_eq_true,if_false]
  unfold tS FY
  simp only [an,aM,ae,aY,hL,aj]
  cases cW (ca c t).l t<;>rfl
 unfold jV DL eF
 simp only [an,ak,ae,ahv c t h,hix,aj,Iy c t h]
 cases hk:cW (ca c t).l t with
 | none=>rfl
 | some k=>
  have:=(yv hk).1
  have hr:=(ca c t).h.2
  have e:W.lt (wi k) (W.of .i64 0)=false:=by
   rw [Bool.eq_false_iff]
   intro hh
   rw [W.lt_n,aQ (by omega),aB] at hh;omega
  simp only [e,Bool.false_eq_true,if_false]
theorem WI (c:TCache) (t:W .u32) (h:0 < c.Sets.l.length):kf c t=some (eF c t):=by
 have hs:=lH c t h
 have hr:=c.Sets.h.2
 have e:W.lt (wi (bx c t)) (W.of .i64 0)=false:=by
  rw [Bool.eq_false_iff]
  intro hh
  rw [W.lt_n,aQ (by omega),aB] at hh;omega
 have hL:uB (t,c,wi (bx c t),wi 0,())=some (match cW (ca c t).l t with | some k=>Sum.inl (wi (bx c t),wi k,true,()) | none=>Sum.inr ((),(),(),())):=by
  unfold uB cW
  refine yE (fun i=>(t,c,wi (bx c t),wi i,())) _ _ (fun k=>Sum.inl (wi (bx c t),wi k,true,())) (Sum.inr ((),(),(),())) (fun i hi=>?_) ?_ (bt _)
  ·have hi':i < (nth c.Sets.l (bx c t)).l.length:=hi
   simp only [lQ,ak,an,ae,Sl.get_wi c.Sets hs,aj,aK _ hi',Sl.get_wi _ hi',if_true,aN _ hi']
   show _=some (if eH t (nth (nth c.Sets.l (bx c t)).l i)=true then _ else _)
   unfold eH
   cases W.eq (nth (nth c.Sets.l (bx c t)).l i).Tag t with
   | false=>rfl
   | true=>simp only [Bool.true_and,if_true];split<;>rfl
  ·show (lQ t c (wi (bx c t)) (wi (nth c.Sets.l (bx c t)).l.length)).eval=_
   simp only [lQ,ak,an,ae,Sl.get_wi c.Sets hs,aj,aO,Bool.false_eq_true,if_false]
 unfold kf vO eF
 simp only [an,ak,ae,aM,Q9 c t h,aj,aY,show W.lt (wi (bx c t)) (wi 0)=false from e,Bool.false_eq_true,if_false,hL]
 cases cW (ca c t).l t<;>rfl
end Go.Proofs.YtnpgljilkkipkaaGreat
