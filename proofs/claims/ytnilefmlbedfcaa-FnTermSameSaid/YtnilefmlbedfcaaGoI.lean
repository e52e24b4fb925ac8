/- The program's search, walked. -/
import Derived.Test.YtnilefmlbedfcaaGoS2
import Derived.Test.YtnilefmlbedfcaaGoInv
import Derived.Test.YtnilefmlbedfcaaMapI
import Derived.Test.YtnilefmlbedfcaaPlan2
import Derived.Test.YtnilefmlbedfcaaAimT
namespace Go.Proofs.Ytnilefmlbedfcaa
set_option maxRecDepth 100000
set_option linter.unusedSimpArgs false
set_option linter.unusedVariables false
open Go Go.RowKit

end Go.Proofs.Ytnilefmlbedfcaa
