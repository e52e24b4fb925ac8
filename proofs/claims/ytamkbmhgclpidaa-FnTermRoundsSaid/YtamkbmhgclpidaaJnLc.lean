/- The laws on the first port's partners. -/
import Derived.Test.YtamkbmhgclpidaaCP
import Derived.Test.YtamkbmhgclpidaaDraw
import Derived.Test.YtamkbmhgclpidaaAim
import Derived.Test.YtamkbmhgclpidaaAimP
namespace Go.Proofs.Ytamkbmhgclpidaa
set_option maxRecDepth 100000
set_option linter.unusedSimpArgs false
set_option linter.unusedVariables false
open Go Go.RowKit
theorem countPorts_len (n m : Int) : (countPorts n m).1.length ≤ 1000 := by
  unfold countPorts
  split
  · next h =>
    obtain ⟨n, m, rfl, rfl, h1, h2, h3, h4, h9⟩ := fewB_ex h
    show (cntBy _ _ _).length ≤ 1000
    rw [cntBy_len, Int.toNat_natCast, Int.toNat_natCast]; omega
  · simp


theorem countPorts_ok (n m : Int) : (countPorts n m).2 = fewB n m 9 := by
  unfold countPorts
  split
  · next h => exact h.symm
  · next h => simpa using h

end Go.Proofs.Ytamkbmhgclpidaa

/- The draw of a grid and two ports; grids lead each beam somewhere. -/
namespace Go.Proofs.Ytamkbmhgclpidaa
set_option maxRecDepth 100000
set_option linter.unusedSimpArgs false
set_option linter.unusedVariables false
open Go Go.RowKit


theorem aimMany_ok (g : Grid) (p q : Int) : (aimMany g p q).2 = aimB g p q 6 := by
  unfold aimMany
  split
  · next h => exact h.symm
  · next h => simpa using h
theorem aimB_of {g : Grid} {p q : Nat} {k : Int} (hG : GridOk g) (hp : p < ports g) (hq : q < ports g) (hpq : p ≠ q) (hk : ((nR g * nC g : Nat) : Int) ≤ k) : aimB g p q k = true := by
  have hI := gridIn_true hG
  have hP : ∀ p : Nat, p < ports g → portIn g (p : Int) = true := fun p hp => by
    rw [portIn, hI, decide_eq_true (show (0 : Int) ≤ p ∧ (p : Int) < ports g by omega)]; rfl
  rw [aimB, hP p hp, hP q hq, decide_eq_true (show (p : Int) ≠ q by omega), decide_eq_true hk]; rfl
theorem endN_lt {n m p : Nat} (k : Nat) (h1 : 1 ≤ n) (h2 : n ≤ 5) (h3 : 1 ≤ m) (h4 : m ≤ 5) (hp : p < 2 * n + 2 * m) : endN n m p k < 2 * n + 2 * m := by
  have hG := numG_ok k h1 h2 h3 h4
  have hq := numG_ports m k h1
  have := way_end hG.sz (p := p) (by rw [hq]; exact hp)
  rw [hq] at this; exact this
theorem endN_ne {n m p : Nat} (k : Nat) (h1 : 1 ≤ n) (h2 : n ≤ 5) (h3 : 1 ≤ m) (h4 : m ≤ 5) (hp : p < 2 * n + 2 * m) : endN n m p k ≠ p := by
  have hG := numG_ok k h1 h2 h3 h4
  have hq := numG_ports m k h1
  exact way_ne hG.sz (by rw [hq]; exact hp)
theorem endN_swap {n m p q : Nat} (h1 : 1 ≤ n) (h2 : n ≤ 5) (h3 : 1 ≤ m) (h4 : m ≤ 5) (hp : p < 2 * n + 2 * m) (hq : q < 2 * n + 2 * m) (N : Nat) : tally (endN n m q) p N = tally (endN n m p) q N :=
  tally_congr _ _ _ _ N fun k _ => by
    have hG := numG_ok k h1 h2 h3 h4
    have hP := numG_ports m k h1
    exact way_swap hG.sz (by rw [hP]; exact hq) (by rw [hP]; exact hp)
/-- what one more port adds -/
theorem aim_add {g : Grid} {p x : Nat} (hG : GridOk g) (hp : p < ports g) (hx : x < ports g) (h6 : ((nR g * nC g : Nat) : Int) ≤ 6) :
    ((aimMany g p x).2 = true → (aimMany g p x).1 = ((tally (endN (nR g) (nC g) p) x (3 ^ (nR g * nC g)) : Nat) : Int)) ∧ ((aimMany g p x).2 = false → tally (endN (nR g) (nC g) p) x (3 ^ (nR g * nC g)) = 0) := by
  have hpe : ports g = 2 * nR g + 2 * nC g := rfl
  refine ⟨fun h => ?_, fun h => ?_⟩
  · rw [aimMany_ok] at h; rw [aimMany_at h]
  · rw [aimMany_ok] at h
    by_cases e : p = x
    · subst e
      exact tally_zero _ _ _ fun k _ => endN_ne k hG.n1 hG.n5 hG.m1 hG.m5 (by rw [← hpe]; exact hp)
    · rw [aimB_of hG hp hx e h6] at h; cases h

end Go.Proofs.Ytamkbmhgclpidaa
