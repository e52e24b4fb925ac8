/- The law: ProofBeam is the reference's. -/
import Derived.Test.YtmlkabddhdkpaaaPort
namespace Go.Proofs.Ytmlkabddhdkpaaa
set_option maxRecDepth 100000
set_option linter.unusedSimpArgs false
set_option linter.unusedVariables false
open Go Go.RowKit

end Go.Proofs.Ytmlkabddhdkpaaa
