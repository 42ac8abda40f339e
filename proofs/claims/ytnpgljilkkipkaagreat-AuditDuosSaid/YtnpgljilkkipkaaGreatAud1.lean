/- YtnpgljilkkipkaaGreatAud1: loads, stores and predictors that may be. No statement of the seat is proved here. -/
import Derived.Test.YtnpgljilkkipkaaGreatBrk
set_option linter.unusedSimpArgs false
set_option linter.unusedVariables false
set_option maxRecDepth 100000
namespace Go.Proofs.YtnpgljilkkipkaaGreat
open Go Go.A2
theorem PB {i:Nat} (h:i≤1000):W.gt (wi i) (W.of .i64 0)=decide (0 < i):=by
 show W.lt (wi 0) (wi i)=_
 exact br (sm (by omega)) (sm h)
def lq (l:List TLq):Nat→W .u64
 | 0=>W.of .u64 0
 | i+1=>(nth l i).Seq
theorem aaI (l:Sl 48 TLq) (h:l.l.length < 1000):∃ b,jY l=some b∧fR l=some b:=by
 have key:∃ o o',uq (W.of .u64 0,l,Sl.len l,W.of .i64 0,())=some o∧uz (l,W.of .i64 0,())=some o'∧((o=.inl (false,())∧o'=.inl (false,()))∨(o=.inr ((),())∧o'=.inr ((),()))):=by
  unfold uq uz
  refine GZ (fun i s s'=>s=(lq l.l i,l,Sl.len l,wi i,())∧s'=(l,wi i,())) l.l.length _ ?_ ?_ ⟨rfl,rfl⟩ (by show _ < 281474976710656;omega)
  ·rintro i s s' hi ⟨rfl,rfl⟩
   have hg:W.gt (wi i) (W.of .i64 0)=decide (0 < i):=PB (by omega)
   have h1:(W.le (nth l.l i).Seq (lq l.l i)=true) ↔ (W.lt (nth l.l i).Seq (W.of .u64 1)=true∨(0 < i∧W.le (nth l.l i).Seq (lq l.l i)=true)):=by
    cases i with
    | zero=>rw [yK];simp [lq]
    | succ k=>
     refine ⟨fun hh=>.inr ⟨by omega,hh⟩,fun hh=>hh.elim (fun hl=>?_) fun hl=>hl.2⟩
     rw [yK,W.le_n] at hl
     rw [W.le_n]
     have:=(lq l.l (k+1)).r_u64
     have h0:(W.of .u64 0).n=0:=id rfl
     omega
   have hp:0 < i→Sl.get? l (W.sub (wi i) (W.of .i64 1))=some (nth l.l (i - 1)):=fun h0=>by
    obtain ⟨k,rfl⟩:∃ k,i=k+1:=⟨i - 1,by omega⟩
    rw [lL (sm (by omega))]
    exact Sl.get_wi l (by omega)
   simp only [qY,ru,ak,an,ae,aK l hi,Sl.get_wi l hi,if_true,aj,aN l hi,hg,decide_eq_true_eq]
   by_cases c1:W.le (nth l.l i).Seq (lq l.l i)=true
   ·rw [if_pos c1]
    right
    rcases h1.1 c1 with c2 | ⟨c2,c3⟩
    ·rw [if_pos c2];exact ⟨_,_,rfl,rfl,.inl ⟨rfl,rfl⟩⟩
    ·by_cases c4:W.lt (nth l.l i).Seq (W.of .u64 1)=true
     ·rw [if_pos c4];exact ⟨_,_,rfl,rfl,.inl ⟨rfl,rfl⟩⟩
     ·rw [if_neg c4,if_pos c2,hp c2,aj]
      obtain ⟨k,rfl⟩:∃ k,i=k+1:=⟨i - 1,by omega⟩
      rw [if_pos (show W.le (nth l.l (k+1)).Seq (nth l.l (k+1 - 1)).Seq=true from c3)]
      exact ⟨_,_,rfl,rfl,.inl ⟨rfl,rfl⟩⟩
   ·have c2:¬ W.lt (nth l.l i).Seq (W.of .u64 1)=true:=fun hh=>c1 (h1.2 (.inl hh))
    rw [if_neg c1,if_neg c2]
    have c3:(if 0 < i then (Sl.get? l (W.sub (wi i) (W.of .i64 1))).bind fun y3=>if W.le (nth l.l i).Seq y3.Seq=true then some (Rnd.out (Sum.inl (false,()))) else (if (nth l.l i).Known=true then (if W.ne (nth l.l i).Size (W.of .i64 1)=true then (if W.ne (nth l.l i).Size (W.of .i64 2)=true then (if W.ne (nth l.l i).Size (W.of .i64 4)=true then some (Rnd.out (Sum.inl (false,()))) else some (Rnd.next (l,wi (i+1),()))) else some (Rnd.next (l,wi (i+1),()))) else some (Rnd.next (l,wi (i+1),()))) else some (Rnd.next (l,wi (i+1),())))
      else (if (nth l.l i).Known=true then (if W.ne (nth l.l i).Size (W.of .i64 1)=true then (if W.ne (nth l.l i).Size (W.of .i64 2)=true then (if W.ne (nth l.l i).Size (W.of .i64 4)=true then some (Rnd.out (Sum.inl (false,()))) else some (Rnd.next (l,wi (i+1),()))) else some (Rnd.next (l,wi (i+1),()))) else some (Rnd.next (l,wi (i+1),()))) else some (Rnd.next (l,wi (i+1),()))):Option (Rnd (Sl 48 TLq×W .i64×Unit) ((Bool×Unit)⊕(Unit×Unit))))
      = (if (nth l.l i).Known=true then (if W.ne (nth l.l i).Size (W.of .i64 1)=true then (if W.ne (nth l.l i).Size (W.of .i64 2)=true then (if W.ne (nth l.l i).Size (W.of .i64 4)=true then some (Rnd.out (Sum.inl (false,()))) else some (Rnd.next (l,wi (i+1),()))) else some (Rnd.next (l,wi (i+1),()))) else some (Rnd.next (l,wi (i+1),()))) else some (Rnd.next (l,wi (i+1),()))):=by
     by_cases c4:0 < i
     ·obtain ⟨k,rfl⟩:∃ k,i=k+1:=⟨i - 1,by omega⟩
      rw [if_pos c4,hp c4,aj,if_neg (show ¬ W.le (nth l.l (k+1)).Seq (nth l.l (k+1 - 1)).Seq=true from c1)]
     ·rw [if_neg c4]
    rw [c3]
    by_cases k1:(nth l.l i).Known=true
    ·by_cases k2:W.ne (nth l.l i).Size (W.of .i64 1)=true
     ·by_cases k3:W.ne (nth l.l i).Size (W.of .i64 2)=true
      ·by_cases k4:W.ne (nth l.l i).Size (W.of .i64 4)=true
       ·simp only [if_pos k1,if_pos k2,if_pos k3,if_pos k4]
        exact .inr ⟨_,_,rfl,rfl,.inl ⟨rfl,rfl⟩⟩
       ·simp only [if_pos k1,if_pos k2,if_pos k3,if_neg k4]
        exact .inl ⟨_,_,rfl,rfl,rfl,rfl⟩
      ·simp only [if_pos k1,if_pos k2,if_neg k3]
       exact .inl ⟨_,_,rfl,rfl,rfl,rfl⟩
     ·simp only [if_pos k1,if_neg k2]
      exact .inl ⟨_,_,rfl,rfl,rfl,rfl⟩
    ·simp only [if_neg k1]
     exact .inl ⟨_,_,rfl,rfl,rfl,rfl⟩
  ·rintro s s' ⟨rfl,rfl⟩
   simp only [qY,ru,ak,ae,aO l,Bool.false_eq_true,if_false]
   exact ⟨_,_,rfl,rfl,.inr ⟨rfl,rfl⟩⟩
 obtain ⟨o,o',k1,k2,k3⟩:=key
 unfold jY Et fR E2
 simp only [an,k1,k2,aj,aM,ae]
 rcases k3 with ⟨rfl,rfl⟩ | ⟨rfl,rfl⟩
 ·exact ⟨_,rfl,rfl⟩
 ·exact ⟨_,rfl,rfl⟩
def G2 (l:List TSq):Nat→W .u64
 | 0=>W.of .u64 0
 | i+1=>(nth l i).Seq
theorem agu (l:Sl 32 TSq) (h:l.l.length < 1000):∃ b,km l=some b∧fo l=some b:=by
 have key:∃ o o',vi (W.of .u64 0,l,Sl.len l,W.of .i64 0,())=some o∧uy (l,W.of .u64 0,W.of .i64 0,())=some o'∧((o=.inl (false,())∧o'=.inl (false,()))∨(o=.inr ((),())∧o'=.inr ((),()))):=by
  unfold vi uy
  refine GZ (fun i s s'=>s=(G2 l.l i,l,Sl.len l,wi i,())∧s'=(l,G2 l.l i,wi i,())) l.l.length _ ?_ ?_ ⟨rfl,rfl⟩ (by show _ < 281474976710656;omega)
  ·rintro i s s' hi ⟨rfl,rfl⟩
   simp only [sB,rq,ak,an,ae,aK l hi,Sl.get_wi l hi,if_true,aj,aN l hi]
   by_cases c1:W.le (nth l.l i).Seq (G2 l.l i)=true
   ·simp only [if_pos c1]
    exact .inr ⟨_,_,rfl,rfl,.inl ⟨rfl,rfl⟩⟩
   ·by_cases k1:(nth l.l i).Known=true
    ·by_cases k2:W.ne (nth l.l i).Size (W.of .i64 1)=true
     ·by_cases k3:W.ne (nth l.l i).Size (W.of .i64 2)=true
      ·by_cases k4:W.ne (nth l.l i).Size (W.of .i64 4)=true
       ·simp only [if_neg c1,if_pos k1,if_pos k2,if_pos k3,if_pos k4]
        exact .inr ⟨_,_,rfl,rfl,.inl ⟨rfl,rfl⟩⟩
       ·simp only [if_neg c1,if_pos k1,if_pos k2,if_pos k3,if_neg k4]
        exact .inl ⟨_,_,rfl,rfl,rfl,rfl⟩
      ·simp only [if_neg c1,if_pos k1,if_pos k2,if_neg k3]
       exact .inl ⟨_,_,rfl,rfl,rfl,rfl⟩
     ·simp only [if_neg c1,if_pos k1,if_neg k2]
      exact .inl ⟨_,_,rfl,rfl,rfl,rfl⟩
    ·simp only [if_neg c1,if_neg k1]
     exact .inl ⟨_,_,rfl,rfl,rfl,rfl⟩
  ·rintro s s' ⟨rfl,rfl⟩
   simp only [sB,rq,ak,ae,aO l,Bool.false_eq_true,if_false]
   exact ⟨_,_,rfl,rfl,.inr ⟨rfl,rfl⟩⟩
 obtain ⟨o,o',k1,k2,k3⟩:=key
 unfold km F6 fo E1
 simp only [an,k1,k2,aj,aM,ae]
 rcases k3 with ⟨rfl,rfl⟩ | ⟨rfl,rfl⟩
 ·exact ⟨_,rfl,rfl⟩
 ·exact ⟨_,rfl,rfl⟩
end Go.Proofs.YtnpgljilkkipkaaGreat
