/- Grids that a function of cells makes; all grids of two letters. -/
import Derived.Test.YtmhmdlgcdeodmaaDoorEach
namespace Go.Proofs.YtmhmdlgcdeodmaaDoor
set_option maxRecDepth 100000
set_option linter.unusedSimpArgs false
set_option linter.unusedVariables false
open Go Go.RowKit

end Go.Proofs.YtmhmdlgcdeodmaaDoor
