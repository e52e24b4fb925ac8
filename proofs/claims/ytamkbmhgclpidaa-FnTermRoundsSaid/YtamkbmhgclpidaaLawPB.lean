/- The law: ProofBeam is the reference's. -/
import Derived.Test.YtamkbmhgclpidaaPort
namespace Go.Proofs.Ytamkbmhgclpidaa
set_option maxRecDepth 100000
set_option linter.unusedSimpArgs false
set_option linter.unusedVariables false
open Go Go.RowKit

end Go.Proofs.Ytamkbmhgclpidaa
