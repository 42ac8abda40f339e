/- YtedhidchlfhegaaGreatDoorSame: slices compared with themselves. No statement of the seat is proved here. -/
import Derived.Test.YtedhidchlfhegaaGreatDoorTrees2
import Derived.Test.YtedhidchlfhegaaGreatDoorA2F
set_option linter.unusedSimpArgs false
set_option linter.unusedVariables false
set_option maxRecDepth 100000
namespace Go.Proofs.YtedhidchlfhegaaGreatDoor
open Go Go.A2
end Go.Proofs.YtedhidchlfhegaaGreatDoor
