/- The laws on reading terms. -/
import Derived.Test.YtamkbmhgclpidaaTmC
import Derived.Test.YtamkbmhgclpidaaAimT
import Derived.Test.YtamkbmhgclpidaaTexts
import Derived.Test.YtamkbmhgclpidaaBound
namespace Go.Proofs.Ytamkbmhgclpidaa
set_option maxRecDepth 100000
set_option linter.unusedSimpArgs false
set_option linter.unusedVariables false
open Go Go.RowKit

end Go.Proofs.Ytamkbmhgclpidaa
