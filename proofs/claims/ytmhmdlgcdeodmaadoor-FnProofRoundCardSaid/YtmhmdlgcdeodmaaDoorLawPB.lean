/- The law: ProofBeam is the reference's. -/
import Derived.Test.YtmhmdlgcdeodmaaDoorPort
namespace Go.Proofs.YtmhmdlgcdeodmaaDoor
set_option maxRecDepth 100000
set_option linter.unusedSimpArgs false
set_option linter.unusedVariables false
open Go Go.RowKit

end Go.Proofs.YtmhmdlgcdeodmaaDoor
