/- YtnpgljilkkipkaaGreatAud3: stores that may be. No statement of the seat is proved here. -/
import Derived.Test.YtnpgljilkkipkaaGreatAud2
set_option linter.unusedSimpArgs false
set_option linter.unusedVariables false
set_option maxRecDepth 100000
namespace Go.Proofs.YtnpgljilkkipkaaGreat
open Go Go.A2
def sz (s:W .i64):Prop:=s.n=1∨s.n=2∨s.n=4
instance (s : W .i64) : Decidable (sz s) := inferInstanceAs (Decidable (_ ∨ _ ∨ _))
def nR (m:Sl 1 (W .u8)) (a:W .u32) (s:W .i64):Bool:=decide (sz s∧a.n+s.n≤m.l.length)
theorem zD {s:W .i64}:(W.eq s (W.of .i64 1)=true∨W.eq s (W.of .i64 2)=true∨W.eq s (W.of .i64 4)=true) ↔ sz s:=by
 unfold sz;rw [W.eq_n,W.eq_n,W.eq_n];rfl
theorem Yq {m:Sl 1 (W .u8)} {a:W .u32} {s:W .i64} (h:sz s):W.gt (W.add (W.conv .u64 a) (W.conv .u64 s)) (W.conv .u64 (Sl.len m))=!decide (a.n+s.n≤m.l.length):=by
 have ha:=a.r_u32
 have hm:=m.h.2
 unfold aw at hm
 have e1:(W.add (W.conv .u64 a) (W.conv .u64 s)).n=a.n+s.n:=by
  unfold sz at h
  rw [W.add_n,W.conv_n,W.conv_n,eP,eP,eP];omega
 have e2:(W.conv .u64 (Sl.len m)).n=m.l.length:=by rw [W.conv_n,Sl.len_n,eP];omega
 refine bQ ?_
 rw [W.gt_n,e1,e2];simp
theorem Z9 {m:Sl 1 (W .u8)} {a:W .u32} {s:W .i64} (h:sz s):W.le (W.add (W.conv .i64 a) s) (Sl.len m)=decide (a.n+s.n≤m.l.length):=by
 have ha:=a.r_u32
 have e1:(W.add (W.conv .i64 a) s).n=a.n+s.n:=by
  unfold sz at h
  rw [W.add_n,W.conv_n,de,de];omega
 refine bQ ?_
 rw [W.le_n,e1,Sl.len_n,decide_eq_true_eq]
theorem SL (m:Sl 1 (W .u8)) (a:W .u32) (s:W .i64):sX m a s=some (if nR m a s=true then W.of .i64 0 else W.of .i64 9):=by
 unfold sX Eu nR
 simp only [ak,ae,W.ne_eq]
 by_cases hs:sz s
 ·rw [Yq hs]
  have:=zD.2 hs
  have h2:decide (sz s∧a.n+s.n≤m.l.length)=decide (a.n+s.n≤m.l.length):=decide_eq_decide.2 ⟨fun h=>h.2,fun h=>⟨hs,h⟩⟩
  rw [h2]
  revert this
  cases W.eq s (W.of .i64 1)<;>cases W.eq s (W.of .i64 2)<;>cases W.eq s (W.of .i64 4)<;>cases decide (a.n+s.n≤m.l.length)<;>intro this<;>first | rfl | simp at this
 ·have:=mt zD.1 hs
  have h2:decide (sz s∧a.n+s.n≤m.l.length)=false:=decide_eq_false fun h=>hs h.1
  rw [h2]
  revert this
  cases W.eq s (W.of .i64 1)<;>cases W.eq s (W.of .i64 2)<;>cases W.eq s (W.of .i64 4)<;>intro this<;>first | rfl | simp at this
theorem SK (m:Sl 1 (W .u8)) (a:W .u32) (s:W .i64):kc m a s=some (if nR m a s=true then W.of .i64 0 else W.of .i64 9):=by
 unfold kc EK nR
 simp only [ak,ae]
 by_cases hs:sz s
 ·rw [Z9 hs]
  have:=zD.2 hs
  have h2:decide (sz s∧a.n+s.n≤m.l.length)=decide (a.n+s.n≤m.l.length):=decide_eq_decide.2 ⟨fun h=>h.2,fun h=>⟨hs,h⟩⟩
  rw [h2]
  revert this
  cases W.eq s (W.of .i64 1)<;>cases W.eq s (W.of .i64 2)<;>cases W.eq s (W.of .i64 4)<;>cases decide (a.n+s.n≤m.l.length)<;>intro this<;>first | rfl | simp at this
 ·have:=mt zD.1 hs
  have h2:decide (sz s∧a.n+s.n≤m.l.length)=false:=decide_eq_false fun h=>hs h.1
  rw [h2]
  revert this
  cases W.eq s (W.of .i64 1)<;>cases W.eq s (W.of .i64 2)<;>cases W.eq s (W.of .i64 4)<;>intro this<;>first | rfl | simp at this
theorem RV {a m:W .u32} {k:Nat} (hm:m.v=2 ^ k - 1):(W.and a m).v=a.v % 2 ^ k:=by rw [W.and_v,hm,Nat.and_two_pow_sub_one_eq_mod]
theorem RT (a:W .u32) (s:W .i64):(W.ne s (W.of .i64 1)=true∧W.ne s (W.of .i64 2)=true∧W.ne s (W.of .i64 4)=true∧lX a s=some false) ∨
  (¬ (W.ne s (W.of .i64 1)=true∧W.ne s (W.of .i64 2)=true∧W.ne s (W.of .i64 4)=true)∧∃ z,W.rem? a (W.conv .u32 s)=some z∧lX a s=some (W.eq z (W.of .u32 0))):=by
 have one:∀ {n k:Nat},(n=1∧k=0∨n=2∧k=1∨n=4∧k=2)→s=wi n→∃ z,W.rem? a (W.conv .u32 s)=some z∧W.eq (W.and a (W.conv .u32 (W.sub s (W.of .i64 1)))) (W.of .u32 0)=W.eq z (W.of .u32 0):=fun {n k} hn hs=>by
  have h1:(W.conv .u32 s).v=2 ^ k∧(W.conv .u32 (W.sub s (W.of .i64 1))).v=2 ^ k - 1∧(W.conv .u32 s).n ≠ 0:=by
   rw [hs]
   rcases hn with ⟨rfl,rfl⟩ | ⟨rfl,rfl⟩ | ⟨rfl,rfl⟩<;>exact ⟨by rfl,by rfl,by decide⟩
  refine ⟨W.rem a (W.conv .u32 s),by unfold W.rem?;rw [if_neg h1.2.2],?_⟩
  congr 1
  exact W.ext_v (by rw [RV h1.2.1,W.rem_v,h1.1])
 unfold lX DK
 simp only [ak,ae]
 by_cases h1:s=wi 1
 ·obtain ⟨z,z1,z2⟩:=one (.inl ⟨rfl,rfl⟩) h1
  have e1:W.eq s (W.of .i64 1)=true:=W.eq_iff.2 h1
  refine .inr ⟨fun hh=>?_,z,z1,?_⟩
  ·rw [W.ne_eq,e1] at hh;cases hh.1
  ·rw [if_pos e1,z2]
 ·have e1:¬ W.eq s (W.of .i64 1)=true:=fun hh=>h1 (W.eq_iff.1 hh)
  by_cases h2:s=wi 2
  ·obtain ⟨z,z1,z2⟩:=one (.inr (.inl ⟨rfl,rfl⟩)) h2
   have e2:W.eq s (W.of .i64 2)=true:=W.eq_iff.2 h2
   refine .inr ⟨fun hh=>?_,z,z1,?_⟩
   ·rw [W.ne_eq s (W.of .i64 2),e2] at hh;cases hh.2.1
   ·rw [if_neg e1,if_pos e2,z2]
  ·have e2:¬ W.eq s (W.of .i64 2)=true:=fun hh=>h2 (W.eq_iff.1 hh)
   by_cases h4:s=wi 4
   ·obtain ⟨z,z1,z2⟩:=one (.inr (.inr ⟨rfl,rfl⟩)) h4
    have e4:W.eq s (W.of .i64 4)=true:=W.eq_iff.2 h4
    refine .inr ⟨fun hh=>?_,z,z1,?_⟩
    ·rw [W.ne_eq s (W.of .i64 4),e4] at hh;cases hh.2.2
    ·rw [if_neg e1,if_neg e2,if_pos e4,z2]
   ·have e4:¬ W.eq s (W.of .i64 4)=true:=fun hh=>h4 (W.eq_iff.1 hh)
    refine .inl ⟨?_,?_,?_,by rw [if_neg e1,if_neg e2,if_neg e4]⟩
    ·rw [W.ne_eq,Bool.eq_false_iff.2 e1];rfl
    ·rw [W.ne_eq,Bool.eq_false_iff.2 e2];rfl
    ·rw [W.ne_eq,Bool.eq_false_iff.2 e4];rfl
theorem agn (l:Sl 16 TSb) (m:Sl 1 (W .u8)):∃ b,tI l m=some b∧iL l m=some b:=by
 have hfu:l.l.length < 281474976710656:=by have:=l.h.2;unfold aw at this;omega
 have key:∃ o o',u7 (m,l,Sl.len l,W.of .i64 0,())=some o∧uA (l,m,W.of .i64 0,())=some o'∧((o=.inl (false,())∧o'=.inl (false,()))∨(o=.inr ((),())∧o'=.inr ((),()))):=by
  unfold u7 uA
  refine GZ (fun i s s'=>s=(m,l,Sl.len l,wi i,())∧s'=(l,m,wi i,())) l.l.length _ ?_ ?_ ⟨rfl,rfl⟩ hfu
  ·rintro i s s' hi ⟨rfl,rfl⟩
   simp only [sj,ry,ak,an,ae,aK l hi,Sl.get_wi l hi,if_true,aj,aN l hi,SL,SK]
   rcases RT (nth l.l i).Addr (nth l.l i).Size with ⟨h1,h2,h4,h⟩ | ⟨hn,z,hz,h⟩
   ·simp only [h,aj,Bool.not_false,if_true,if_pos h1,if_pos h2,if_pos h4]
    exact .inr ⟨_,_,rfl,rfl,.inl ⟨rfl,rfl⟩⟩
   ·have all:∀ {x y:Option (Rnd (Sl 16 TSb×Sl 1 (W .u8)×W .i64×Unit) ((Bool×Unit)⊕(Unit×Unit)))},(if W.ne (nth l.l i).Size (W.of .i64 1)=true then if W.ne (nth l.l i).Size (W.of .i64 2)=true then if W.ne (nth l.l i).Size (W.of .i64 4)=true then x else y else y else y)=y:=fun {x y}=>by
     by_cases h1:W.ne (nth l.l i).Size (W.of .i64 1)=true
     ·by_cases h2:W.ne (nth l.l i).Size (W.of .i64 2)=true
      ·by_cases h4:W.ne (nth l.l i).Size (W.of .i64 4)=true
       ·exact absurd ⟨h1,h2,h4⟩ hn
       ·rw [if_pos h1,if_pos h2,if_neg h4]
      ·rw [if_pos h1,if_neg h2]
     ·rw [if_neg h1]
    have hne:W.eq z (W.of .u32 0)=!(W.ne z (W.of .u32 0)):=by rw [W.ne_eq,Bool.not_not]
    simp only [h,hne,Bool.not_not,hz,aj,all]
    by_cases c1:W.ne z (W.of .u32 0)=true
    ·simp only [if_pos c1]
     exact .inr ⟨_,_,rfl,rfl,.inl ⟨rfl,rfl⟩⟩
    ·by_cases c2:W.ne (if nR m (nth l.l i).Addr (nth l.l i).Size=true then W.of .i64 0 else W.of .i64 9) (W.of .i64 0)=true
     ·simp only [if_neg c1,if_pos c2]
      exact .inr ⟨_,_,rfl,rfl,.inl ⟨rfl,rfl⟩⟩
     ·simp only [if_neg c1,if_neg c2]
      exact .inl ⟨_,_,rfl,rfl,rfl,rfl⟩
  ·rintro s s' ⟨rfl,rfl⟩
   simp only [sj,ry,ak,ae,aO l,Bool.false_eq_true,if_false]
   exact ⟨_,_,rfl,rfl,.inr ⟨rfl,rfl⟩⟩
 obtain ⟨o,o',k1,k2,k3⟩:=key
 unfold tI FI iL E3
 simp only [ak,an,k1,k2,aj,aM,ae]
 split
 ·exact ⟨_,rfl,rfl⟩
 ·rcases k3 with ⟨rfl,rfl⟩ | ⟨rfl,rfl⟩
  ·exact ⟨_,rfl,rfl⟩
  ·exact ⟨_,rfl,rfl⟩
end Go.Proofs.YtnpgljilkkipkaaGreat
