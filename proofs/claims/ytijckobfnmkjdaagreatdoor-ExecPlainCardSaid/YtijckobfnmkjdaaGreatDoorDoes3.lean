/- YtijckobfnmkjdaaGreatDoorDoes3: jumps, atomic and other instructions. No statement of the seat is proved here. -/
import Derived.Test.YtijckobfnmkjdaaGreatDoorDoes2
set_option linter.unusedSimpArgs false
set_option linter.unusedVariables false
set_option maxRecDepth 100000
set_option maxHeartbeats 1000000
namespace Go.Proofs.YtijckobfnmkjdaaGreatDoor
open Go Go.A2
end Go.Proofs.YtijckobfnmkjdaaGreatDoor
