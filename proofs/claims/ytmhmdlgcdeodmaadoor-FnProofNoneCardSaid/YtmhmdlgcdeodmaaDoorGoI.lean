/- The program's search, walked. -/
import Derived.Test.YtmhmdlgcdeodmaaDoorGoS2
import Derived.Test.YtmhmdlgcdeodmaaDoorGoInv
import Derived.Test.YtmhmdlgcdeodmaaDoorMapI
import Derived.Test.YtmhmdlgcdeodmaaDoorPlan2
import Derived.Test.YtmhmdlgcdeodmaaDoorAimT
namespace Go.Proofs.YtmhmdlgcdeodmaaDoor
set_option maxRecDepth 100000
set_option linter.unusedSimpArgs false
set_option linter.unusedVariables false
open Go Go.RowKit

end Go.Proofs.YtmhmdlgcdeodmaaDoor
