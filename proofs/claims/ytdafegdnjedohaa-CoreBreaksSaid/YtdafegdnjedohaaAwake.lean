/- YtdafegdnjedohaaAwake: the closed run answers true. No statement of the seat is proved here. -/
import Derived.Test.YtdafegdnjedohaaTrees
import Derived.Test.YtdafegdnjedohaaA2E
set_option maxRecDepth 100000
namespace Go.Proofs.Ytdafegdnjedohaa
open Go Go.A2
theorem awake42 : F_law42_awake = some true := by kernel_rfl
end Go.Proofs.Ytdafegdnjedohaa
