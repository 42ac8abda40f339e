/- YtnpgljilkkipkaaGreatSame: slices compared with themselves. No statement of the seat is proved here. -/
import Derived.Test.YtnpgljilkkipkaaGreatTrees
import Derived.Test.YtnpgljilkkipkaaGreatA2F
set_option linter.unusedSimpArgs false
set_option linter.unusedVariables false
set_option maxRecDepth 100000
namespace Go.Proofs.YtnpgljilkkipkaaGreat
open Go Go.A2
theorem aaJ {n:Nat} (h:n≤aw):W.lt (wi n) (wi n)=false:=by rw [br h h];simp
theorem ago (a:Sl 8 (W .i64)) (h:a.l.length < aa):mM a a=some true:=by
 have hr:=a.h.2
 have key:u6 (a,a,W.of .i64 0,())=some (.inr ((),())):=by
  unfold u6
  refine G0 (fun i=>(a,a,wi i,())) _ (n:=a.l.length) (fun i hi=>?_) ?_ (k:=0) (Nat.zero_le _) (by omega)
  ·simp only [si,ak,an,ae,Sl.len_wi]
   obtain ⟨y,hy⟩:∃ y,a.l[i]?=some y:=⟨_,List.getElem?_eq_getElem hi⟩
   rw [br (by omega) hr,jR a (by omega),hy,dc (by omega)]
   simp only [hi,decide_true,if_true,aj,W.ne_self]
   rfl
  ·simp only [si,ak,ae,Sl.len_wi,aaJ hr]
   rfl
 unfold mM FH
 rw [ak,W.ne_self]
 simp only [an,key,aj,aM,ae]
 rfl
end Go.Proofs.YtnpgljilkkipkaaGreat
