/- YtnpgljilkkipkaaGreatAud4: where a line is in a cache. No statement of the seat is proved here. -/
import Derived.Test.YtnpgljilkkipkaaGreatAud3
set_option linter.unusedSimpArgs false
set_option linter.unusedVariables false
set_option maxRecDepth 100000
namespace Go.Proofs.YtnpgljilkkipkaaGreat
open Go Go.A2
theorem bA {b:Nat} {α:Type} (s:Sl b α):s.l.length < aa:=by have:=s.h.2;unfold aw at this;show _ < 281474976710656;omega
theorem yt {S β:Type} {f:S→Option (Rnd S β)} (st:Nat→S) (n:Nat) (p:Nat→Bool) (hit:Nat→β) (miss:β)
  (step:∀ i,i < n→f (st i)=some (if p i=true then .out (hit i) else .next (st (i+1)))) (last:f (st n)=some (.out miss)) {N:Nat} (hN:n < N):
  az f N (st 0)=some (match (List.range n).find? p with | some i=>hit i | none=>miss):=by
 have main:∀ (m i N:Nat),i+m=n→m < N→az f N (st i)=some (match (List.range' i m).find? p with | some i=>hit i | none=>miss):=by
  intro m
  induction m with
  | zero=>
   intro i N hi hN
   obtain ⟨N,rfl⟩:∃ M,N=M+1:=⟨N - 1,by omega⟩
   have:i=n:=by omega
   subst this
   rw [dr,last];rfl
  | succ m ih=>
   intro i N hi hN
   obtain ⟨N,rfl⟩:∃ M,N=M+1:=⟨N - 1,by omega⟩
   rw [dr,step i (by omega),List.range'_succ,List.find?_cons]
   cases hp:p i with
   | true=>rfl
   | false=>exact ih (i+1) N (by omega) (by omega)
 rw [List.range_eq_range']
 exact main n 0 N (by omega) hN
def eH (t:W .u32) (w:TWay):Bool:=W.eq w.Tag t&&W.ne w.State (W.of .i64 0)
def cV (l:List TWay) (t:W .u32):Option Nat:=(List.range l.length).find? fun i=>eH t (nth l i)
theorem yg {l:List TWay} {t:W .u32} {k:Nat} (h:cV l t=some k):k < l.length∧eH t (nth l k)=true∧∀ j,j < k→eH t (nth l j)=false:=by
 unfold cV at h
 rw [List.find?_range_eq_some] at h
 obtain ⟨h1,h2,h3⟩:=h
 exact ⟨List.mem_range.1 h2,h1,fun j hj=>by have:=h3 j hj;simpa using this⟩
def bw (c:TCache) (t:W .u32):Nat:=t.v % c.Sets.l.length
def ca (c:TCache) (t:W .u32):Sl 40 TWay:=nth c.Sets.l (bw c t)
theorem zl {c:TCache}:W.eq (Sl.len c.Sets) (W.of .i64 0)=decide (c.Sets.l.length=0):=by
 rw [Sl.len_wi,aY,dw c.Sets.h.2 (by omega)]
theorem Ij (c:TCache) (t:W .u32) (h:0 < c.Sets.l.length):iH c t=some (wi (bw c t)):=by
 have hr:=c.Sets.h.2
 unfold aw at hr
 have ht:=t.r_u32
 have h1:(W.conv .u64 t).v=t.v:=W.conv_u64_v t
 have h2:(W.conv .u64 (Sl.len c.Sets)).v=c.Sets.l.length:=by
  unfold W.v
  rw [W.conv_n,cY,eP];omega
 have h3:(W.conv .u64 (Sl.len c.Sets)).n ≠ 0:=by rw [W.conv_n,cY,eP];omega
 unfold iH DE
 simp only [ak,an,ae,zl,decide_eq_true_eq]
 rw [if_neg (by omega)]
 unfold W.rem?
 rw [if_neg h3,aj]
 congr 1
 refine W.ext ?_
 have h4:(W.rem (W.conv .u64 t) (W.conv .u64 (Sl.len c.Sets))).n=bw c t:=by
  rw [W.rem_n,W.un rfl (W.conv .u64 t),W.un rfl (W.conv .u64 (Sl.len c.Sets)),h1,h2]
  unfold bw
  rw [←Int.ofNat_tmod,eP]
  have:=Nat.mod_lt t.v h
  omega
 have:=Nat.mod_lt t.v h
 rw [W.conv_n,h4,aP (by unfold bw aw;omega),di]
 unfold bw;omega
theorem Q4 (c:TCache) (t:W .u32) (h:0 < c.Sets.l.length):gC c t=some (wi (bw c t)):=by
 have hr:=c.Sets.h.2
 unfold aw at hr
 have h3:(Sl.len c.Sets).n ≠ 0:=by rw [cY];omega
 unfold gC vB
 simp only [ak,an,ae,zl,decide_eq_true_eq]
 rw [if_neg (by omega)]
 unfold W.rem?
 rw [if_neg h3,aj]
 congr 1
 refine W.ext ?_
 have:=Nat.mod_lt t.v h
 rw [W.rem_n,W.conv_i64_v,cY,aP (by unfold bw aw;omega),←Int.ofNat_tmod,di]
 unfold bw;omega
theorem lD (c:TCache) (t:W .u32) (h:0 < c.Sets.l.length):bw c t < c.Sets.l.length:=Nat.mod_lt _ h
theorem aho (c:TCache) (t:W .u32) (h:0 < c.Sets.l.length):so c t=some (ca c t):=by
 unfold so DF
 simp only [ak,an,ae,zl,decide_eq_true_eq]
 rw [if_neg (by omega),Ij c t h,aj,Sl.get_wi c.Sets (lD c t h),aj]
 rfl
theorem ZO (w:TWay) (t:W .u32):sn w t=some (eH t w):=by
 unfold sn DB eH
 simp only [ak,ae]
 cases W.eq w.Tag t<;>rfl
def eF (c:TCache) (t:W .u32):W .i64×W .i64×Bool:=match cV (ca c t).l t with
 | some k=>(wi (bw c t),wi k,true)
 | none=>(W.of .i64 0,W.of .i64 0,false)
theorem Pa (c:TCache) (t:W .u32) (h:0 < c.Sets.l.length):jU c t=some (eF c t):=by
 have hix:tF (ca c t) t=some (match cV (ca c t).l t with | some k=>wi k | none=>W.of .i64 (-1)):=by
  have hL:uT (ca c t,((),(t,())),Sl.len (ca c t),wi 0,())=some (match cV (ca c t).l t with | some k=>Sum.inl (wi k,()) | none=>Sum.inr ((),())):=by
   unfold uT cV
   refine yt (fun i=>(ca c t,((),(t,())),Sl.len (ca c t),wi i,())) _ _ (fun k=>Sum.inl (wi k,())) (Sum.inr ((),())) (fun i hi=>?_) ?_ (bA _)
   ·simp only [se,ak,an,ae,aM _ hi,Sl.get_wi _ hi,if_true,aj,ZO,aO _ hi]
    split<;>rfl
   ·simp only [se,ak,ae,aS,Bool.false_eq_true,if_false]
  unfold tF FL
  simp only [an,aL,ae,aY,hL,aj]
  cases cV (ca c t).l t<;>rfl
 unfold jU DA eF
 simp only [an,ak,ae,aho c t h,hix,aj,Ij c t h]
 cases hk:cV (ca c t).l t with
 | none=>rfl
 | some k=>
  have:=(yg hk).1
  have hr:=(ca c t).h.2
  have e:W.lt (wi k) (W.of .i64 0)=false:=by
   rw [Bool.eq_false_iff]
   intro hh
   rw [W.lt_n,aP (by omega),aB] at hh;omega
  simp only [e,Bool.false_eq_true,if_false]
theorem WB (c:TCache) (t:W .u32) (h:0 < c.Sets.l.length):ke c t=some (eF c t):=by
 have hs:=lD c t h
 have hr:=c.Sets.h.2
 have e:W.lt (wi (bw c t)) (W.of .i64 0)=false:=by
  rw [Bool.eq_false_iff]
  intro hh
  rw [W.lt_n,aP (by omega),aB] at hh;omega
 have hL:uh (t,c,wi (bw c t),wi 0,())=some (match cV (ca c t).l t with | some k=>Sum.inl (wi (bw c t),wi k,true,()) | none=>Sum.inr ((),(),(),())):=by
  unfold uh cV
  refine yt (fun i=>(t,c,wi (bw c t),wi i,())) _ _ (fun k=>Sum.inl (wi (bw c t),wi k,true,())) (Sum.inr ((),(),(),())) (fun i hi=>?_) ?_ (bA _)
  ·have hi':i < (nth c.Sets.l (bw c t)).l.length:=hi
   simp only [lM,ak,an,ae,Sl.get_wi c.Sets hs,aj,aM _ hi',Sl.get_wi _ hi',if_true,aO _ hi']
   show _=some (if eH t (nth (nth c.Sets.l (bw c t)).l i)=true then _ else _)
   unfold eH
   cases W.eq (nth (nth c.Sets.l (bw c t)).l i).Tag t with
   | false=>rfl
   | true=>simp only [Bool.true_and,if_true];split<;>rfl
  ·show (lM t c (wi (bw c t)) (wi (nth c.Sets.l (bw c t)).l.length)).eval=_
   simp only [lM,ak,an,ae,Sl.get_wi c.Sets hs,aj,aS,Bool.false_eq_true,if_false]
 unfold ke vA eF
 simp only [an,ak,ae,aL,Q4 c t h,aj,aY,show W.lt (wi (bw c t)) (wi 0)=false from e,Bool.false_eq_true,if_false,hL]
 cases cV (ca c t).l t<;>rfl
end Go.Proofs.YtnpgljilkkipkaaGreat
