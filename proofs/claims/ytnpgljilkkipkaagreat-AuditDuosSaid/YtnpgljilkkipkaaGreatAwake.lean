/- YtnpgljilkkipkaaGreatAwake: the law's own fixed run. No statement of the seat is proved here. -/
import Derived.Test.YtnpgljilkkipkaaGreatTrees
import Derived.KernelRfl
set_option linter.unusedSimpArgs false
set_option linter.unusedVariables false
namespace Go.Proofs.YtnpgljilkkipkaaGreat
open Go Go.A2
theorem Ow:iK=some true:=by kernel_rfl
end Go.Proofs.YtnpgljilkkipkaaGreat
