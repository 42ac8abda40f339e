/- YtnpgljilkkipkaaGreatConf: validity of configurations. No statement of the seat is proved here. -/
import Derived.Test.YtnpgljilkkipkaaGreatTrees
import Derived.Test.YtnpgljilkkipkaaGreatA2F
set_option linter.unusedSimpArgs false
set_option linter.unusedVariables false
set_option maxRecDepth 100000
namespace Go.Proofs.YtnpgljilkkipkaaGreat
open Go Go.A2
def fB (b:TBound):Bool:=W.lt b.n_ b.least || W.gt b.n_ b.most
theorem SS (b:TBound):sB b=some (fB b):=by
 unfold sB DS fB
 rw [ak]
 cases W.lt b.n_ b.least<;>simp [ae]
theorem SU (s:Sl 24 TBound) (hs:s.l.length < aa):tA s=some (s.l.any fB):=by
 have key:∃ r,uU ((s,((),()),Sl.len s,W.of .i64 0,()))=some r∧((s.l.any fB=true∧∃ k,r=.inl (wi k,())∧0≤k∧k < 0+s.l.length)∨(s.l.any fB=false∧r=.inr ((),()))):=by
  unfold uU
  have hroom:=s.h.2
  have:=yu (f:=fun a:Sl 24 (TBound)×((Unit)×(Unit))×W .i64×W .i64×Unit=>(lO a.1 a.2.2.1 a.2.2.2.1).eval) (l:=s.l) (n:=0) (N:=aa) (s:=()) (fun n (_:Unit)=>(s,((),()),Sl.len s,wi n,()))
   (fun n x (_:Unit)=>some (if fB x then .inr (.inl (wi n,())) else .inl ())) (fun _=>some (.inr ((),()))) (fun i x _ hi=>?_) (fun _=>?_) hs
  ·obtain ⟨r,h1,h2⟩:=Qz fB (fun n=>Sum.inl (wi n,())) (Sum.inr ((),()):(W .i64×Unit)⊕(Unit×Unit)) s.l 0
   exact ⟨r,this.trans h1,h2⟩
  ·have hil:=(List.getElem?_eq_some_iff.1 hi).1
   simp only [Nat.zero_add]
   simp only [lO,ak,an,ae,Sl.len_wi]
   rw [br (by omega) hroom,if_pos (by simpa using hil),jQ s (by omega),hi]
   simp only [aj,SS,dc (show i < aw by omega)]
   cases fB x<;>rfl
  ·simp only [Nat.zero_add]
   simp only [lO,ak,ae,Sl.len_wi]
   rw [br hroom hroom,if_neg (by simp)]
   rfl
 obtain ⟨r,h1,h2⟩:=key
 have hroom:=s.h.2
 unfold tA FB AS FM
 simp only [an,h1,aj,aL,ae]
 rcases h2 with ⟨h3,k,rfl,_,hk⟩ | ⟨h3,rfl⟩
 ·simp only [Sum.elim_inl,aj,h3]
  congr 1
  rw [W.ge_n,aP (by omega)]
  show (0:Int)≤k
  omega
 ·simp only [Sum.elim_inr,aj,h3]
  rfl
def inB (n a b:W .i64):Bool:=W.ge n a&&W.le n b
theorem yp (n a b:W .i64):bW n a b=some (inB n a b):=by
 unfold bW Fe inB
 rw [ak]
 cases W.ge n a<;>simp [ae]
theorem Sg (n a b:W .i64):fB ⟨n,a,b⟩=!inB n a b:=by
 unfold fB inB W.lt W.gt W.ge W.le
 by_cases h:n.n < a.n<;>by_cases h':n.n > b.n
 all_goals simp [h,h']
 all_goals omega
theorem St (t:Bool):ku (t,())=some (if t then .inl (W.of .i64 0,()) else .inr ((),())):=by cases t<;>rfl
theorem Su:kv ()=some (W.of .i64 3,()):=rfl
theorem c9 (w r g t:Bool):gG (w,r,g,t,())=some (if w&&r&&g&&t then W.of .i64 0 else W.of .i64 3,()):=by
 unfold gG Af
 simp only [an,ak,ae,St,Su,aj,aL]
 cases w<;>cases r<;>cases g<;>cases t<;>rfl
theorem c7 (c:TConf) (w r g:Bool):gF (c,w,r,g,())=some (if w&&r&&g&&(inB c.MulLat (W.of .i64 1) (W.of .i64 32)&&inB c.DivLat (W.of .i64 1) (W.of .i64 32)&&inB c.MemLat (W.of .i64 1) (W.of .i64 32)&&inB c.Sets (W.of .i64 1) (W.of .i64 8)&&inB c.Ways (W.of .i64 1) (W.of .i64 4)) then W.of .i64 0 else W.of .i64 3,()):=by
 unfold gF Ae
 simp only [an,ak,ae,yp,aj,c9]
 generalize inB c.MulLat (W.of .i64 1) (W.of .i64 32)=a1
 generalize inB c.DivLat (W.of .i64 1) (W.of .i64 32)=a2
 generalize inB c.MemLat (W.of .i64 1) (W.of .i64 32)=a3
 generalize inB c.Sets (W.of .i64 1) (W.of .i64 8)=a4
 cases a1<;>cases a2<;>cases a3<;>cases a4<;>simp
theorem c5 (c:TConf) (w r:Bool):fq (c,w,r,())=some (if w&&r&&(inB c.Hist (W.of .i64 0) (W.of .i64 8)&&inB c.Btb (W.of .i64 0) (W.of .i64 16)&&inB c.Ras (W.of .i64 0) (W.of .i64 16)&&inB c.Dep (W.of .i64 0) (W.of .i64 16)&&inB c.Tlb (W.of .i64 0) (W.of .i64 8))&&(inB c.MulLat (W.of .i64 1) (W.of .i64 32)&&inB c.DivLat (W.of .i64 1) (W.of .i64 32)&&inB c.MemLat (W.of .i64 1) (W.of .i64 32)&&inB c.Sets (W.of .i64 1) (W.of .i64 8)&&inB c.Ways (W.of .i64 1) (W.of .i64 4)) then W.of .i64 0 else W.of .i64 3,()):=by
 unfold fq Ad
 simp only [an,ak,ae,yp,aj,c7]
 generalize inB c.Hist (W.of .i64 0) (W.of .i64 8)=a1
 generalize inB c.Btb (W.of .i64 0) (W.of .i64 16)=a2
 generalize inB c.Ras (W.of .i64 0) (W.of .i64 16)=a3
 generalize inB c.Dep (W.of .i64 0) (W.of .i64 16)=a4
 cases a1<;>cases a2<;>cases a3<;>cases a4<;>simp
def qa (c:TConf):Bool:=inB c.Queue (W.of .i64 1) (W.of .i64 16)&&inB c.Rob (W.of .i64 2) (W.of .i64 64)&&inB c.Iq (W.of .i64 2) (W.of .i64 32)&&inB c.Lq (W.of .i64 1) (W.of .i64 16)&&inB c.Sq (W.of .i64 1) (W.of .i64 16)&&inB c.Sb (W.of .i64 1) (W.of .i64 8)&&inB c.Phys (W.of .i64 18) (W.of .i64 96)
def pF (c:TConf):Bool:=inB c.Hist (W.of .i64 0) (W.of .i64 8)&&inB c.Btb (W.of .i64 0) (W.of .i64 16)&&inB c.Ras (W.of .i64 0) (W.of .i64 16)&&inB c.Dep (W.of .i64 0) (W.of .i64 16)&&inB c.Tlb (W.of .i64 0) (W.of .i64 8)
def zC (c:TConf):Bool:=inB c.MulLat (W.of .i64 1) (W.of .i64 32)&&inB c.DivLat (W.of .i64 1) (W.of .i64 32)&&inB c.MemLat (W.of .i64 1) (W.of .i64 32)&&inB c.Sets (W.of .i64 1) (W.of .i64 8)&&inB c.Ways (W.of .i64 1) (W.of .i64 4)
def IP (c:TConf):Bool:=inB c.Fetch (W.of .i64 1) (W.of .i64 4)&&inB c.Wide (W.of .i64 1) (W.of .i64 4)&&inB c.Issue (W.of .i64 1) (W.of .i64 4)&&inB c.Retire (W.of .i64 1) (W.of .i64 4)
def eK (c:TConf):Bool:=IP c&&qa c&&pF c&&zC c
theorem c3 (c:TConf) (w:Bool):iP (c,w,())=some (if w&&qa c&&pF c&&zC c then W.of .i64 0 else W.of .i64 3,()):=by
 unfold iP Ab
 simp only [an,ak,ae,yp,aj,c5]
 unfold qa pF zC
 generalize inB c.Queue (W.of .i64 1) (W.of .i64 16)=a1
 generalize inB c.Rob (W.of .i64 2) (W.of .i64 64)=a2
 generalize inB c.Iq (W.of .i64 2) (W.of .i64 32)=a3
 generalize inB c.Lq (W.of .i64 1) (W.of .i64 16)=a4
 generalize inB c.Sq (W.of .i64 1) (W.of .i64 16)=a5
 generalize inB c.Sb (W.of .i64 1) (W.of .i64 8)=a6
 cases a1<;>cases a2<;>cases a3<;>cases a4<;>cases a5<;>cases a6<;>simp
theorem adm (c:TConf):mE c=some (if eK c then W.of .i64 0 else W.of .i64 3):=by
 unfold mE E9
 simp only [an,ak,ae,yp,aj,c3]
 unfold eK IP
 generalize inB c.Fetch (W.of .i64 1) (W.of .i64 4)=a1
 generalize inB c.Wide (W.of .i64 1) (W.of .i64 4)=a2
 generalize inB c.Issue (W.of .i64 1) (W.of .i64 4)=a3
 cases a1<;>cases a2<;>cases a3<;>simp
theorem SX (c:TConf):sA c=some (if eK c then W.of .i64 0 else W.of .i64 3):=by
 unfold sA DR Ax DV
 simp only [an,ak,ae,aj]
 rw [SU _ (by show 21 < aa;decide)]
 simp only [aj,Sl.lit,List.any_cons,List.any_nil,Sg,Bool.or_false]
 have:eK c=!(!inB c.Fetch (W.of .i64 1) (W.of .i64 4) || (!inB c.Wide (W.of .i64 1) (W.of .i64 4) || (!inB c.Issue (W.of .i64 1) (W.of .i64 4) || (!inB c.Retire (W.of .i64 1) (W.of .i64 4) || (!inB c.Queue (W.of .i64 1) (W.of .i64 16) || (!inB c.Rob (W.of .i64 2) (W.of .i64 64) ||
   (!inB c.Iq (W.of .i64 2) (W.of .i64 32) || (!inB c.Lq (W.of .i64 1) (W.of .i64 16) || (!inB c.Sq (W.of .i64 1) (W.of .i64 16) || (!inB c.Sb (W.of .i64 1) (W.of .i64 8) || (!inB c.Phys (W.of .i64 18) (W.of .i64 96) || (!inB c.Hist (W.of .i64 0) (W.of .i64 8) ||
   (!inB c.Btb (W.of .i64 0) (W.of .i64 16) || (!inB c.Ras (W.of .i64 0) (W.of .i64 16) || (!inB c.Dep (W.of .i64 0) (W.of .i64 16) || (!inB c.Tlb (W.of .i64 0) (W.of .i64 8) || (!inB c.MulLat (W.of .i64 1) (W.of .i64 32) || (!inB c.DivLat (W.of .i64 1) (W.of .i64 32) ||
   (!inB c.MemLat (W.of .i64 1) (W.of .i64 32) || (!inB c.Sets (W.of .i64 1) (W.of .i64 8) || !inB c.Ways (W.of .i64 1) (W.of .i64 4))))))))))))))))))))):=by
  unfold eK IP qa pF zC
  simp only [Bool.not_or,Bool.not_not,Bool.and_assoc]
 rw [this]
 generalize (!inB c.Fetch (W.of .i64 1) (W.of .i64 4) || _)=z
 cases z<;>rfl
end Go.Proofs.YtnpgljilkkipkaaGreat
