/- The law: AimGrid is the reference's, in memory of its own. -/
import Derived.Test.YtjejdebmlgjdeaaAimU
import Derived.Test.YtjejdebmlgjdeaaTexts
namespace Go.Proofs.Ytjejdebmlgjdeaa
set_option maxRecDepth 100000
set_option linter.unusedSimpArgs false
set_option linter.unusedVariables false
open Go Go.RowKit
theorem aimRes_len (g : Grid) (p q : Int) (hs : g.length ≤ 1048576) : (aimRes g p q).1.length ≤ 1048576 := by
  unfold aimRes
  split
  · split
    · simp
    · rw [show (numG (nR g) (nC g) _).length = nR g from gridOf_nR _ _ _]; exact hs
  · simp

end Go.Proofs.Ytjejdebmlgjdeaa
