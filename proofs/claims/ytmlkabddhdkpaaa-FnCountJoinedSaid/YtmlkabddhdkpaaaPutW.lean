/- Grids with another letter in a cell. -/
import Derived.Test.YtmlkabddhdkpaaaFull
import Derived.Test.YtmlkabddhdkpaaaBound
import Derived.Test.YtmlkabddhdkpaaaAim
import Derived.Test.YtmlkabddhdkpaaaPBIs
namespace Go.Proofs.Ytmlkabddhdkpaaa
set_option maxRecDepth 100000
set_option linter.unusedSimpArgs false
set_option linter.unusedVariables false
open Go Go.RowKit
theorem GridOk.short {g : Grid} (h : GridOk g) : Short g := fun i => by
  by_cases hi : i < g.length
  · have h1 := h.row i hi
    have h2 := h.m5
    omega
  · have e : g.getD i [] = [] := by simp [List.getD_eq_getElem?_getD, List.getElem?_eq_none (Nat.le_of_not_lt hi)]
    rw [e]; simp
theorem GridOk.portIn {g : Grid} (hG : GridOk g) {p : Nat} (hp : p < ports g) : portIn g (p : Int) = true := by
  rw [Go.Proofs.Ytmlkabddhdkpaaa.portIn, gridIn_true hG, decide_eq_true (show (0 : Int) ≤ p ∧ (p : Int) < ports g by omega)]; rfl
theorem beamEnd_of {g : Grid} (hG : GridOk g) {p : Nat} (hp : p < ports g) : beamEnd g (p : Int) = ((((way g p).2 : Nat) : Int), true) := by
  rw [beamEnd, if_pos (hG.portIn hp)]; rfl
def gridPut (g : Grid) (cell : Int) (t : Str) : Grid × Bool := if gridIn g = true ∧ (0 ≤ cell ∧ cell < (nR g * nC g : Nat)) ∧ t.length = 1 ∧ okL (t.getD 0 0) = true then (putG g cell.toNat (t.getD 0 0), true) else ([], false)

end Go.Proofs.Ytmlkabddhdkpaaa
