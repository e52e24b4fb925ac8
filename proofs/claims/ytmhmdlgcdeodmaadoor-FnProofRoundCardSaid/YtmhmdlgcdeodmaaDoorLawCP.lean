/- The laws on the first port's partners. -/
import Derived.Test.YtmhmdlgcdeodmaaDoorCP
import Derived.Test.YtmhmdlgcdeodmaaDoorDraw
namespace Go.Proofs.YtmhmdlgcdeodmaaDoor
set_option maxRecDepth 100000
set_option linter.unusedSimpArgs false
set_option linter.unusedVariables false
open Go Go.RowKit
theorem countPorts_len (n m : Int) : (countPorts n m).1.length ≤ 1000 := by
  unfold countPorts
  split
  · next h =>
    obtain ⟨n, m, rfl, rfl, h1, h2, h3, h4, h9⟩ := fewB_ex h
    show (cntBy _ _ _).length ≤ 1000
    rw [cntBy_len, Int.toNat_natCast, Int.toNat_natCast]; omega
  · simp


theorem countPorts_ok (n m : Int) : (countPorts n m).2 = fewB n m 9 := by
  unfold countPorts
  split
  · next h => exact h.symm
  · next h => simpa using h

end Go.Proofs.YtmhmdlgcdeodmaaDoor
