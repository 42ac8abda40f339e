/- YtnpgljilkkipkaaGreatConf: validity of configurations. No statement of the seat is proved here. -/
import Derived.Test.YtnpgljilkkipkaaGreatTrees
import Derived.Test.YtnpgljilkkipkaaGreatA2F
set_option linter.unusedSimpArgs false
set_option linter.unusedVariables false
set_option maxRecDepth 100000
namespace Go.Proofs.YtnpgljilkkipkaaGreat
open Go Go.A2
def fB (b:TBound):Bool:=W.lt b.n_ b.least || W.gt b.n_ b.most
theorem SZ (b:TBound):sN b=some (fB b):=by
 unfold sN D5 fB
 rw [ak]
 cases W.lt b.n_ b.least<;>simp [ae]
theorem S4 (s:Sl 24 TBound) (hs:s.l.length < aa):tN s=some (s.l.any fB):=by
 have key:∃ r,vf ((s,((),()),Sl.len s,W.of .i64 0,()))=some r∧((s.l.any fB=true∧∃ k,r=.inl (wi k,())∧0≤k∧k < 0+s.l.length)∨(s.l.any fB=false∧r=.inr ((),()))):=by
  unfold vf
  have hroom:=s.h.2
  have:=yF (f:=fun a:Sl 24 (TBound)×((Unit)×(Unit))×W .i64×W .i64×Unit=>(lS a.1 a.2.2.1 a.2.2.2.1).eval) (l:=s.l) (n:=0) (N:=aa) (s:=()) (fun n (_:Unit)=>(s,((),()),Sl.len s,wi n,()))
   (fun n x (_:Unit)=>some (if fB x then .inr (.inl (wi n,())) else .inl ())) (fun _=>some (.inr ((),()))) (fun i x _ hi=>?_) (fun _=>?_) hs
  ·obtain ⟨r,h1,h2⟩:=QE fB (fun n=>Sum.inl (wi n,())) (Sum.inr ((),()):(W .i64×Unit)⊕(Unit×Unit)) s.l 0
   exact ⟨r,this.trans h1,h2⟩
  ·have hil:=(List.getElem?_eq_some_iff.1 hi).1
   simp only [Nat.zero_add]
   simp only [lS,ak,an,ae,Sl.len_wi]
   rw [br (by omega) hroom,if_pos (by simpa using hil),jR s (by omega),hi]
   simp only [aj,SZ,dc (show i < aw by omega)]
   cases fB x<;>rfl
  ·simp only [Nat.zero_add]
   simp only [lS,ak,ae,Sl.len_wi]
   rw [br hroom hroom,if_neg (by simp)]
   rfl
 obtain ⟨r,h1,h2⟩:=key
 have hroom:=s.h.2
 unfold tN FN A7 FZ
 simp only [an,h1,aj,aM,ae]
 rcases h2 with ⟨h3,k,rfl,_,hk⟩ | ⟨h3,rfl⟩
 ·simp only [Sum.elim_inl,aj,h3]
  congr 1
  rw [W.ge_n,aQ (by omega)]
  show (0:Int)≤k
  omega
 ·simp only [Sum.elim_inr,aj,h3]
  rfl
def inB (n a b:W .i64):Bool:=W.ge n a&&W.le n b
theorem yB (n a b:W .i64):bW n a b=some (inB n a b):=by
 unfold bW Fq inB
 rw [ak]
 cases W.ge n a<;>simp [ae]
theorem St (n a b:W .i64):fB ⟨n,a,b⟩=!inB n a b:=by
 unfold fB inB W.lt W.gt W.ge W.le
 by_cases h:n.n < a.n<;>by_cases h':n.n > b.n
 all_goals simp [h,h']
 all_goals omega
theorem SB (t:Bool):kv (t,())=some (if t then .inl (W.of .i64 0,()) else .inr ((),())):=by cases t<;>rfl
theorem SC:ky ()=some (W.of .i64 3,()):=rfl
theorem c9 (w r g t:Bool):gI (w,r,g,t,())=some (if w&&r&&g&&t then W.of .i64 0 else W.of .i64 3,()):=by
 unfold gI Aq
 simp only [an,ak,ae,SB,SC,aj,aM]
 cases w<;>cases r<;>cases g<;>cases t<;>rfl
theorem c7 (c:TConf) (w r g:Bool):gH (c,w,r,g,())=some (if w&&r&&g&&(inB c.MulLat (W.of .i64 1) (W.of .i64 32)&&inB c.DivLat (W.of .i64 1) (W.of .i64 32)&&inB c.MemLat (W.of .i64 1) (W.of .i64 32)&&inB c.Sets (W.of .i64 1) (W.of .i64 8)&&inB c.Ways (W.of .i64 1) (W.of .i64 4)) then W.of .i64 0 else W.of .i64 3,()):=by
 unfold gH Ap
 simp only [an,ak,ae,yB,aj,c9]
 generalize inB c.MulLat (W.of .i64 1) (W.of .i64 32)=a1
 generalize inB c.DivLat (W.of .i64 1) (W.of .i64 32)=a2
 generalize inB c.MemLat (W.of .i64 1) (W.of .i64 32)=a3
 generalize inB c.Sets (W.of .i64 1) (W.of .i64 8)=a4
 cases a1<;>cases a2<;>cases a3<;>cases a4<;>simp
theorem c5 (c:TConf) (w r:Bool):fq (c,w,r,())=some (if w&&r&&(inB c.Hist (W.of .i64 0) (W.of .i64 8)&&inB c.Btb (W.of .i64 0) (W.of .i64 16)&&inB c.Ras (W.of .i64 0) (W.of .i64 16)&&inB c.Dep (W.of .i64 0) (W.of .i64 16)&&inB c.Tlb (W.of .i64 0) (W.of .i64 8))&&(inB c.MulLat (W.of .i64 1) (W.of .i64 32)&&inB c.DivLat (W.of .i64 1) (W.of .i64 32)&&inB c.MemLat (W.of .i64 1) (W.of .i64 32)&&inB c.Sets (W.of .i64 1) (W.of .i64 8)&&inB c.Ways (W.of .i64 1) (W.of .i64 4)) then W.of .i64 0 else W.of .i64 3,()):=by
 unfold fq Ao
 simp only [an,ak,ae,yB,aj,c7]
 generalize inB c.Hist (W.of .i64 0) (W.of .i64 8)=a1
 generalize inB c.Btb (W.of .i64 0) (W.of .i64 16)=a2
 generalize inB c.Ras (W.of .i64 0) (W.of .i64 16)=a3
 generalize inB c.Dep (W.of .i64 0) (W.of .i64 16)=a4
 cases a1<;>cases a2<;>cases a3<;>cases a4<;>simp
def qi (c:TConf):Bool:=inB c.Queue (W.of .i64 1) (W.of .i64 16)&&inB c.Rob (W.of .i64 2) (W.of .i64 64)&&inB c.Iq (W.of .i64 2) (W.of .i64 32)&&inB c.Lq (W.of .i64 1) (W.of .i64 16)&&inB c.Sq (W.of .i64 1) (W.of .i64 16)&&inB c.Sb (W.of .i64 1) (W.of .i64 8)&&inB c.Phys (W.of .i64 18) (W.of .i64 96)
def pN (c:TConf):Bool:=inB c.Hist (W.of .i64 0) (W.of .i64 8)&&inB c.Btb (W.of .i64 0) (W.of .i64 16)&&inB c.Ras (W.of .i64 0) (W.of .i64 16)&&inB c.Dep (W.of .i64 0) (W.of .i64 16)&&inB c.Tlb (W.of .i64 0) (W.of .i64 8)
def zN (c:TConf):Bool:=inB c.MulLat (W.of .i64 1) (W.of .i64 32)&&inB c.DivLat (W.of .i64 1) (W.of .i64 32)&&inB c.MemLat (W.of .i64 1) (W.of .i64 32)&&inB c.Sets (W.of .i64 1) (W.of .i64 8)&&inB c.Ways (W.of .i64 1) (W.of .i64 4)
def I4 (c:TConf):Bool:=inB c.Fetch (W.of .i64 1) (W.of .i64 4)&&inB c.Wide (W.of .i64 1) (W.of .i64 4)&&inB c.Issue (W.of .i64 1) (W.of .i64 4)&&inB c.Retire (W.of .i64 1) (W.of .i64 4)
def eK (c:TConf):Bool:=I4 c&&qi c&&pN c&&zN c
theorem c3 (c:TConf) (w:Bool):iR (c,w,())=some (if w&&qi c&&pN c&&zN c then W.of .i64 0 else W.of .i64 3,()):=by
 unfold iR An
 simp only [an,ak,ae,yB,aj,c5]
 unfold qi pN zN
 generalize inB c.Queue (W.of .i64 1) (W.of .i64 16)=a1
 generalize inB c.Rob (W.of .i64 2) (W.of .i64 64)=a2
 generalize inB c.Iq (W.of .i64 2) (W.of .i64 32)=a3
 generalize inB c.Lq (W.of .i64 1) (W.of .i64 16)=a4
 generalize inB c.Sq (W.of .i64 1) (W.of .i64 16)=a5
 generalize inB c.Sb (W.of .i64 1) (W.of .i64 8)=a6
 cases a1<;>cases a2<;>cases a3<;>cases a4<;>cases a5<;>cases a6<;>simp
theorem adt (c:TConf):mI c=some (if eK c then W.of .i64 0 else W.of .i64 3):=by
 unfold mI Fm
 simp only [an,ak,ae,yB,aj,c3]
 unfold eK I4
 generalize inB c.Fetch (W.of .i64 1) (W.of .i64 4)=a1
 generalize inB c.Wide (W.of .i64 1) (W.of .i64 4)=a2
 generalize inB c.Issue (W.of .i64 1) (W.of .i64 4)=a3
 cases a1<;>cases a2<;>cases a3<;>simp
theorem S7 (c:TConf):sM c=some (if eK c then W.of .i64 0 else W.of .i64 3):=by
 unfold sM D4 AJ D8
 simp only [an,ak,ae,aj]
 rw [S4 _ (by show 21 < aa;decide)]
 simp only [aj,Sl.lit,List.any_cons,List.any_nil,St,Bool.or_false]
 have:eK c=!(!inB c.Fetch (W.of .i64 1) (W.of .i64 4) || (!inB c.Wide (W.of .i64 1) (W.of .i64 4) || (!inB c.Issue (W.of .i64 1) (W.of .i64 4) || (!inB c.Retire (W.of .i64 1) (W.of .i64 4) || (!inB c.Queue (W.of .i64 1) (W.of .i64 16) || (!inB c.Rob (W.of .i64 2) (W.of .i64 64) ||
   (!inB c.Iq (W.of .i64 2) (W.of .i64 32) || (!inB c.Lq (W.of .i64 1) (W.of .i64 16) || (!inB c.Sq (W.of .i64 1) (W.of .i64 16) || (!inB c.Sb (W.of .i64 1) (W.of .i64 8) || (!inB c.Phys (W.of .i64 18) (W.of .i64 96) || (!inB c.Hist (W.of .i64 0) (W.of .i64 8) ||
   (!inB c.Btb (W.of .i64 0) (W.of .i64 16) || (!inB c.Ras (W.of .i64 0) (W.of .i64 16) || (!inB c.Dep (W.of .i64 0) (W.of .i64 16) || (!inB c.Tlb (W.of .i64 0) (W.of .i64 8) || (!inB c.MulLat (W.of .i64 1) (W.of .i64 32) || (!inB c.DivLat (W.of .i64 1) (W.of .i64 32) ||
   (!inB c.MemLat (W.of .i64 1) (W.of .i64 32) || (!inB c.Sets (W.of .i64 1) (W.of .i64 8) || !inB c.Ways (W.of .i64 1) (W.of .i64 4))))))))))))))))))))):=by
  unfold eK I4 qi pN zN
  simp only [Bool.not_or,Bool.not_not,Bool.and_assoc]
 rw [this]
 generalize (!inB c.Fetch (W.of .i64 1) (W.of .i64 4) || _)=z
 cases z<;>rfl
end Go.Proofs.YtnpgljilkkipkaaGreat
