/- YtedhidchlfhegaaGreatDoorKind: machines that may be, and what a step leaves. No statement of the seat is proved here. -/
import Derived.Test.YtedhidchlfhegaaGreatDoorStep
import Derived.Test.YtedhidchlfhegaaGreatDoorSame
set_option linter.unusedSimpArgs false
set_option linter.unusedVariables false
set_option maxRecDepth 100000
namespace Go.Proofs.YtedhidchlfhegaaGreatDoor
open Go Go.A2
theorem right10 (m:Sl 1 (W .u8)):∃ b,F_ref10_Right m=some b∧(b=true ↔ m.l.length % 64=0∧64≤m.l.length∧m.l.length≤16384):=by
 have hr:=m.h.2
 unfold F_ref10_Right T_ref10_Right
 have e1:W.eq (W.rem (Sl.len m) (W.of .i64 64)) (W.of .i64 0)=decide (m.l.length % 64=0):=by
  refine iff_bool ?_
  rw [W.eq_n,W.rem_n,Sl.len_n,show (W.of .i64 64).n=64 from rfl,show (W.of .i64 0).n=0 from rfl,decide_eq_true_eq,show ((64:Int))=((64:Nat):Int) from rfl,←Int.ofNat_tmod,wrap_i64]
  have:=Nat.mod_lt m.l.length (show 0 < 64 by decide)
  omega
 have e2:W.ge (Sl.len m) (W.of .i64 64)=decide (64≤m.l.length):=by
  refine iff_bool ?_
  rw [W.ge_n,Sl.len_n,show (W.of .i64 64).n=64 from rfl,decide_eq_true_eq];omega
 have e3:W.le (Sl.len m) (W.of .i64 16384)=decide (m.l.length≤16384):=len_le (n:=16384) (by unfold room;omega)
 simp only [ev_ite,ev_ret,e1,e2,e3]
 by_cases h1:m.l.length % 64=0
 ·by_cases h2:64≤m.l.length
  ·simp [h1,h2]
  ·simp [h1,h2]
 ·simp [h1]
structure RightM (m:TMach):Prop where
 mem1:m.Mem.l.length % 64=0
 mem2:64≤m.Mem.l.length
 mem3:m.Mem.l.length≤16384
 sh:m.Shadow.l.length=m.Mem.l.length
 r0:m.A.R.get 0=W.of .u32 0
 c:∀ i,i < 12→∀ k,F_ref11_Masked (wi i)=some k→W.and (m.A.C.get i) k=m.A.C.get i
theorem masks {i:Nat} (h:i < 12):∃ k,F_ref11_Masked (wi i)=some k:=by
 obtain ⟨k,_,h2⟩:=masked_eq (wi i) ⟨by rw [wi_n (sm (by omega))];omega,by rw [wi_n (sm (by omega))];omega⟩
 exact ⟨k,h2⟩
theorem right15 (m:TMach):∃ b,F_ref15_Right m=some b∧(b=true ↔ RightM m):=by
 obtain ⟨b,h1,h2⟩:=right10 m.Mem
 have key:∃ o,L_ref15_Right_11 (m,wi 0,())=some o∧(((∀ i,i < 12→∀ k,F_ref11_Masked (wi i)=some k→W.and (m.A.C.get i) k=m.A.C.get i)∧o=.inr ((),()))∨((¬ ∀ i,i < 12→∀ k,F_ref11_Masked (wi i)=some k→W.and (m.A.C.get i) k=m.A.C.get i)∧o=.inl (false,()))):=by
  unfold L_ref15_Right_11
  refine iter_check (fun i s=>s=(m,wi i,())) 12 (fun i=>∀ k,F_ref11_Masked (wi i)=some k→W.and (m.A.C.get i) k=m.A.C.get i) (fun o=>o=Sum.inl (false,())) (fun o=>o=Sum.inr ((),())) ?_ ?_ rfl (by decide)
  ·rintro i s hi rfl hP
   obtain ⟨k,hk⟩:=masks hi
   have hlt:W.lt (wi i) (W.of .i64 12)=true:=(lt_small (m:=12) (by omega) (by omega)).trans (by simpa using hi)
   simp only [B_ref15_Right_11,ev_ite,ev_opt,ev_ret,hlt,if_true,wi_idx (sm (show i≤1000 by omega)),hi,bind_some',hk,add_small (show i < 1000 by omega),W.ne_eq,W.eq_dec]
   by_cases hc:W.and (m.A.C.get i) k=m.A.C.get i
   ·simp only [hc,decide_true,Bool.not_true,Bool.false_eq_true,if_false]
    exact .inl ⟨fun k' hk'=>by cases hk';exact hc,_,rfl,rfl⟩
   ·simp only [hc,decide_false,Bool.not_false,if_true]
    exact .inr ⟨fun h=>hc (h k rfl),_,rfl,rfl⟩
  ·rintro s rfl hP
   exact ⟨_,rfl,rfl⟩
 obtain ⟨o,k1,k2⟩:=key
 unfold F_ref15_Right T_ref15_Right
 have hSL:(Sl.len m.Shadow=Sl.len m.Mem)=(m.Shadow.l.length=m.Mem.l.length):=propext (by rw [W.eq_ext,len_n',len_n'];omega)
 simp only [ev_opt,ev_ite,ev_ret,ev_sum,h1,bind_some',hSL,show L_ref15_Right_11 (m,W.of .i64 0,())=_ from k1,W.ne_eq,W.eq_dec]
 cases b with
 | false=>exact ⟨false,rfl,fun h=>(by cases h),fun h=>(by have:=h2.2 ⟨h.mem1,h.mem2,h.mem3⟩;cases this)⟩
 | true=>
  obtain ⟨m1,m2,m3⟩:=h2.1 rfl
  by_cases c1:m.Shadow.l.length=m.Mem.l.length
  ·by_cases c2:m.A.R.get 0=W.of .u32 0
   ·simp only [c1,c2,decide_true,Bool.not_true,Bool.false_eq_true,if_false]
    rcases k2 with ⟨k3,rfl⟩ | ⟨k3,rfl⟩
    ·exact ⟨true,rfl,fun _=>⟨m1,m2,m3,c1,c2,k3⟩,fun _=>rfl⟩
    ·exact ⟨false,rfl,fun h=>(by cases h),fun h=>(k3 h.c).elim⟩
   ·simp only [c1,c2,decide_true,decide_false,Bool.not_true,Bool.not_false,Bool.false_eq_true,if_false,if_true]
    exact ⟨false,rfl,fun h=>(by cases h),fun h=>(c2 h.r0).elim⟩
  ·simp only [c1,decide_false,Bool.not_true,Bool.not_false,Bool.false_eq_true,if_false,if_true]
   exact ⟨false,rfl,fun h=>(by cases h),fun h=>(c1 h.sh).elim⟩
structure LightM (m:TMach):Prop where
 mem:m.Mem.l.length≤2048
 out:m.Out.l.length≤60
 right:RightM m
theorem light15 (m:TMach):∃ b,F_law15_Light m=some b∧(b=true ↔ LightM m):=by
 obtain ⟨b,h1,h2⟩:=right15 m
 have e1:W.le (Sl.len m.Mem) (W.of .i64 2048)=decide (m.Mem.l.length≤2048):=len_le (n:=2048) (by unfold room;omega)
 have e2:W.le (Sl.len m.Out) (W.of .i64 60)=decide (m.Out.l.length≤60):=len_le (n:=60) (by unfold room;omega)
 unfold F_law15_Light T_law15_Light
 simp only [ev_opt,ev_ite,ev_ret,h1,bind_some',e1,e2,decide_eq_true_eq]
 by_cases c1:m.Mem.l.length≤2048
 ·by_cases c2:m.Out.l.length≤60
  ·rw [if_pos c1,if_pos c2];exact ⟨b,rfl,fun h=>⟨c1,c2,h2.1 h⟩,fun h=>h2.2 h.right⟩
  ·rw [if_pos c1,if_neg c2];exact ⟨false,rfl,fun h=>(by cases h),fun h=>(c2 h.out).elim⟩
 ·rw [if_neg c1];exact ⟨false,rfl,fun h=>(by cases h),fun h=>(c1 h.mem).elim⟩
theorem kind_lens {m:TMach} {r:TMach×TEvent×Bool} (h:Kind m r) (hs:m.Shadow.l.length=m.Mem.l.length):r.1.Mem.l.length=m.Mem.l.length∧r.1.Shadow.l.length=m.Mem.l.length∧r.1.Out.l.length≤m.Out.l.length+1:=by
 have eff:∀ {word:W .u32} {w:TWork},Eff m word w→w.m.Mem.l.length=m.Mem.l.length∧w.m.Shadow.l.length=m.Mem.l.length∧w.m.Out.l.length≤m.Out.l.length+1:=fun {word w} he=>by
  refine ⟨?_,?_,?_⟩
  ·rcases he.mem with ⟨_,h⟩ | ⟨_,h⟩
   ·rw [h]
   ·rw [h,cpL_length]
  ·rcases he.shadow with h | h<;>rw [h]
   exact hs
  ·rcases he.out with h | ⟨x,h⟩<;>rw [h]
   ·omega
   ·rw [List.length_append];simp
 cases h with
 | halted _=>exact ⟨rfl,hs,Nat.le_succ _⟩
 | trap _ _=>exact ⟨rfl,hs,Nat.le_succ _⟩
 | done _ he _=>exact eff he
 | single _ he _ _=>exact eff he
theorem same_mach (a:TMach) (h1:a.Mem.l.length < fuel) (h2:a.Shadow.l.length < fuel) (h3:a.Out.l.length < fuel):F_same_Mach a a=some true:=by
 have e1:Tab.eq tab (.named .TArch) a.A a.A=true:=(eq_iff (X:=tab) tabOk (by rfl)).2 rfl
 unfold F_same_Mach T_same_Mach
 simp only [ev_opt,ev_ite,ev_ret,e1,self_same_Bytes _ h1,self_same_Bytes _ h2,self_same_Words _ h3,bind_some',if_true]
end Go.Proofs.YtedhidchlfhegaaGreatDoor
