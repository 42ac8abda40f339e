/- YtchpjkadpdajkaaGreatDoorAwake: the law's own fixed run. No statement of the seat is proved here. -/
import Derived.Test.YtchpjkadpdajkaaGreatDoorTrees
import Derived.KernelRfl
set_option linter.unusedSimpArgs false
set_option linter.unusedVariables false
namespace Go.Proofs.YtchpjkadpdajkaaGreatDoor
open Go Go.A2
theorem awake48:F_law48_awake=some true:=by kernel_rfl
end Go.Proofs.YtchpjkadpdajkaaGreatDoor
