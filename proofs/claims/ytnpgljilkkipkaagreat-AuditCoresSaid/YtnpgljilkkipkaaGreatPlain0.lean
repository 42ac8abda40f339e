/- YtnpgljilkkipkaaGreatPureAuditCores: every core's audit. No statement of the seat is proved here. -/
import Derived.Test.YtnpgljilkkipkaaGreatAud9
import Derived.Test.YtnpgljilkkipkaaGreatAwake
set_option linter.unusedSimpArgs false
set_option linter.unusedVariables false
namespace Go.Proofs.YtnpgljilkkipkaaGreat
open Go Go.A2
theorem auditCores (c:TCore) (m:TCoh):Ay c m=some true:=by
 obtain ⟨b,b1,b2⟩:=Z9 c m
 unfold Ay Ef
 simp only [ak,an,ae,b1,aj,Sf]
 cases b with
 | false=>rfl
 | true=>
  obtain ⟨r,r1,r2,_⟩:=Tf c m (b2 rfl)
  simp only [Bool.not_true,Bool.false_eq_true,if_false,r1,r2,aj,agh r (bA r),if_true]
end Go.Proofs.YtnpgljilkkipkaaGreat
