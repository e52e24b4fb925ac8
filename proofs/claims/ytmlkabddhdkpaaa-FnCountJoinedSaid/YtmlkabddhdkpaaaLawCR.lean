/- The laws: full grids of one letter have no rounds; rounds of four. -/
import Derived.Test.YtmlkabddhdkpaaaRnd4
namespace Go.Proofs.Ytmlkabddhdkpaaa
set_option maxRecDepth 100000
set_option linter.unusedSimpArgs false
set_option linter.unusedVariables false
open Go Go.RowKit
theorem full_same (n m : Nat) : full n m 0 = List.replicate n (List.replicate m 114) := by
  have h : mirror m 0 = fun _ _ => 114 := by
    funext i k
    unfold mirror
    rw [Nat.zero_div]; rfl
  unfold full gridOf
  rw [h]
  simp [List.map_const']
theorem wtot {n m : Nat} (hf : Few n m) (h : fewB n m 9 = true) : ∃ T : Nat, countTotal n m = ((T : Int), true) ∧ T ≤ 3072 ∧ 2 ^ (n * m) * ((n - 1) * (m - 1)) ≤ 16 * T ∧ decide (T = 0) = decide (n = 1 ∨ m = 1) := by
  have hw := rCnt_wsum hf
  refine ⟨_, by unfold countTotal; rw [countRounds_at h, hw], by omega, ?_, ?_⟩
  · exact tab_low n (by have := hf.n5; omega) m (by have := hf.m5; omega) hf.n1 hf.m1 hf.nm
  · exact tab_none n (by have := hf.n5; omega) m (by have := hf.m5; omega) hf.n1 hf.m1 hf.nm

end Go.Proofs.Ytmlkabddhdkpaaa
