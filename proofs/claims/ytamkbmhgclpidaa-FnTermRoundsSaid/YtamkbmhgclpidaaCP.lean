/- How often the first port's beam ends at each port, over all full grids. -/
import Derived.Test.YtamkbmhgclpidaaFull
import Derived.Test.YtamkbmhgclpidaaJnCn
namespace Go.Proofs.Ytamkbmhgclpidaa
set_option maxRecDepth 100000
set_option linter.unusedSimpArgs false
set_option linter.unusedVariables false
open Go Go.RowKit

def fewB (n m k : Int) : Bool := decide (1 ≤ n ∧ n ≤ 5 ∧ 1 ≤ m ∧ m ≤ 5 ∧ n * m ≤ k)
theorem fewB_ex {n m k : Int} (h : fewB n m k = true) : ∃ n' m' : Nat, n = n' ∧ m = m' ∧ 1 ≤ n' ∧ n' ≤ 5 ∧ 1 ≤ m' ∧ m' ≤ 5 ∧ ((n' * m' : Nat) : Int) ≤ k := by
  unfold fewB at h
  have h := of_decide_eq_true h
  refine ⟨n.toNat, m.toNat, by omega, by omega, by omega, by omega, by omega, by omega, ?_⟩
  rw [Int.natCast_mul, Int.toNat_of_nonneg (by omega), Int.toNat_of_nonneg (by omega)]
  exact h.2.2.2.2
def endF (n m i : Nat) : Nat := (way (full n m i) 0).2
theorem endF_lt {n m : Nat} (i : Nat) (h1 : 1 ≤ n) (h2 : n ≤ 5) (h3 : 1 ≤ m) (h4 : m ≤ 5) : endF n m i < 2 * n + 2 * m := by
  have hG := full_ok i h1 h2 h3 h4
  have hp : ports (full n m i) = 2 * n + 2 * m := gridOf_ports m _ h1
  have := way_end hG.sz (p := 0) (by rw [hp]; omega)
  rw [hp] at this; exact this
def countPorts (n m : Int) : List Int × Bool := if fewB n m 9 = true then (cntBy (endF n.toNat m.toNat) (2 * n.toNat + 2 * m.toNat) (2 ^ (n.toNat * m.toNat)), true) else ([], false)
theorem countPorts_at {n m : Nat} (h : fewB n m 9 = true) : countPorts n m = (cntBy (endF n m) (2 * n + 2 * m) (2 ^ (n * m)), true) := by
  rw [countPorts, if_pos h]; rfl
theorem pow9 {n m : Nat} (h : ((n * m : Nat) : Int) ≤ 9) : 2 ^ (n * m) ≤ 512 := Nat.pow_le_pow_right (by decide) (show n * m ≤ 9 by omega)

end Go.Proofs.Ytamkbmhgclpidaa
