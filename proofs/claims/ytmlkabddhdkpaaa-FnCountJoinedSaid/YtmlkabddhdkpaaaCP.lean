/- How often the first port's beam ends at each port, over all full grids. -/
import Derived.Test.YtmlkabddhdkpaaaFull
import Derived.Test.YtmlkabddhdkpaaaJnCn
namespace Go.Proofs.Ytmlkabddhdkpaaa
set_option maxRecDepth 100000
set_option linter.unusedSimpArgs false
set_option linter.unusedVariables false
open Go Go.RowKit

def fewB (n m k : Int) : Bool := decide (1 ≤ n ∧ n ≤ 5 ∧ 1 ≤ m ∧ m ≤ 5 ∧ n * m ≤ k)
theorem fewB_ex {n m k : Int} (h : fewB n m k = true) : ∃ n' m' : Nat, n = n' ∧ m = m' ∧ 1 ≤ n' ∧ n' ≤ 5 ∧ 1 ≤ m' ∧ m' ≤ 5 ∧ ((n' * m' : Nat) : Int) ≤ k := by
  unfold fewB at h
  have h := of_decide_eq_true h
  refine ⟨n.toNat, m.toNat, by omega, by omega, by omega, by omega, by omega, by omega, ?_⟩
  rw [Int.natCast_mul, Int.toNat_of_nonneg (by omega), Int.toNat_of_nonneg (by omega)]
  exact h.2.2.2.2
def endF (n m i : Nat) : Nat := (way (full n m i) 0).2
theorem endF_lt {n m : Nat} (i : Nat) (h1 : 1 ≤ n) (h2 : n ≤ 5) (h3 : 1 ≤ m) (h4 : m ≤ 5) : endF n m i < 2 * n + 2 * m := by
  have hG := full_ok i h1 h2 h3 h4
  have hp : ports (full n m i) = 2 * n + 2 * m := gridOf_ports m _ h1
  have := way_end hG.sz (p := 0) (by rw [hp]; omega)
  rw [hp] at this; exact this
def countPorts (n m : Int) : List Int × Bool := if fewB n m 9 = true then (cntBy (endF n.toNat m.toNat) (2 * n.toNat + 2 * m.toNat) (2 ^ (n.toNat * m.toNat)), true) else ([], false)
theorem countPorts_at {n m : Nat} (h : fewB n m 9 = true) : countPorts n m = (cntBy (endF n m) (2 * n + 2 * m) (2 ^ (n * m)), true) := by
  rw [countPorts, if_pos h]; rfl
theorem pow9 {n m : Nat} (h : ((n * m : Nat) : Int) ≤ 9) : 2 ^ (n * m) ≤ 512 := Nat.pow_le_pow_right (by decide) (show n * m ≤ 9 by omega)

theorem isidesOk (n m : Int) (w : World) : Fn Try.prog 31 [vint n, vint m] w (fun v w1 => v = .bool (decide (1 ≤ n ∧ n ≤ 5 ∧ 1 ≤ m ∧ m ≤ 5)) ∧ w1 = w) := by
  refine Fn.enter (n := 11) Try.func31 rfl rfl rfl ?_
  show WC _ _ _ _ [(0, vint n), (1, vint m)] _
  refine WC.seq ?_
  refine WC.region ?_
  refine WL.u rfl rfl (Wt.plain rfl) (Ex.assign rfl) ?_
  refine WL.next ?_
  refine WC.seq ?_
  refine WC.region ?_
  refine WL.u rfl rfl (Wt.plain rfl) (Ex.move rfl) ?_
  refine WL.call callable46 rfl (Wt.plain rfl) rfl rfl (iwithin n 1 5 _) ?_
  rintro _ _ ⟨rfl, hw⟩; obtain rfl := hw.symm
  refine WL.u rfl rfl (Wt.plain rfl) (Ex.move rfl) ?_
  refine WL.split (t := 7) rfl (fun hg1_2 => ?_) (fun hg1_2 => ?_)
  · have hg1_2' := hg1_2; try simp only [decide_eq_true_eq, decide_eq_false_iff_not, Bool.not_eq_true', Bool.not_eq_false', Bool.not_eq_true, Bool.not_eq_false] at hg1_2'
    refine WL.u rfl rfl (Wt.guard' rfl rfl rfl hg1_2 rfl) (Ex.move rfl) ?_
    refine WL.call callable46 rfl (Wt.guard' rfl rfl rfl hg1_2 rfl) rfl rfl (iwithin m 1 5 _) ?_
    rintro _ _ ⟨rfl, hw⟩; obtain rfl := hw.symm
    refine WL.u rfl rfl (Wt.plain rfl) (Ex.pickT rfl hg1_2 rfl) ?_
    refine WL.u rfl rfl (Wt.plain rfl) (Ex.assign rfl) ?_
    refine WL.next ?_
    refine WC.ret ?_
    refine WN.body1 rfl rfl ?_
    exact ⟨congrArg Value.bool (decide_eq_decide.2 (by omega)), rfl⟩
  have hg1_2' := hg1_2; try simp only [decide_eq_true_eq, decide_eq_false_iff_not, Bool.not_eq_true', Bool.not_eq_false', Bool.not_eq_true, Bool.not_eq_false] at hg1_2'
  refine WL.pass rfl rfl (Wt.guard' rfl rfl rfl hg1_2 rfl) ?_
  refine WL.pass rfl rfl (Wt.guard' rfl rfl rfl hg1_2 rfl) ?_
  refine WL.u rfl rfl (Wt.plain rfl) (Ex.pickF rfl hg1_2 rfl) ?_
  refine WL.u rfl rfl (Wt.plain rfl) (Ex.assign rfl) ?_
  refine WL.next ?_
  refine WC.ret ?_
  refine WN.body1 rfl rfl ?_
  refine ⟨congrArg Value.bool (decide_eq_false (by omega)).symm, rfl⟩

theorem ifewOk (n m k : Int) (w : World) : Fn Try.prog 19 [vint n, vint m, vint k] w (fun v w1 => v = .bool (fewB n m k) ∧ w1 = w) := by
  refine Fn.enter (n := 17) Try.func19 rfl rfl rfl ?_
  show WC _ _ _ _ [(0, vint n), (1, vint m), (2, vint k)] _
  refine WC.seq ?_
  refine WC.region ?_
  refine WL.u rfl rfl (Wt.plain rfl) (Ex.assign rfl) ?_
  refine WL.next ?_
  refine WC.seq ?_
  refine WC.region ?_
  refine WL.u rfl rfl (Wt.plain rfl) (Ex.move rfl) ?_
  refine WL.u rfl rfl (Wt.plain rfl) (Ex.move rfl) ?_
  refine WL.call callable31 rfl (Wt.plain rfl) rfl rfl (isidesOk _ _ _) ?_
  rintro _ _ ⟨rfl, hw⟩; obtain rfl := hw.symm
  refine WL.u rfl rfl (Wt.plain rfl) (Ex.move rfl) ?_
  refine WL.split (t := 10) rfl (fun hg1_3 => ?_) (fun hg1_3 => ?_)
  · have hg1_3' := hg1_3; try simp only [decide_eq_true_eq, decide_eq_false_iff_not, Bool.not_eq_true', Bool.not_eq_false', Bool.not_eq_true, Bool.not_eq_false] at hg1_3'
    have hmb := mulB n m (by omega) (by omega)
    refine WL.u rfl rfl (Wt.guard' rfl rfl rfl hg1_3 rfl) (Ex.move rfl) ?_
    refine WL.u rfl rfl (Wt.guard' rfl rfl rfl hg1_3 rfl) (Ex.move rfl) ?_
    refine WL.u rfl rfl (Wt.guard' rfl rfl rfl hg1_3 rfl) (Ex.mul rfl rfl (by omega)) ?_
    refine WL.u rfl rfl (Wt.guard' rfl rfl rfl hg1_3 rfl) (Ex.move rfl) ?_
    refine WL.u rfl rfl (Wt.guard' rfl rfl rfl hg1_3 rfl) (Ex.leq rfl rfl) ?_
    refine WL.u rfl rfl (Wt.plain rfl) (Ex.pickT rfl hg1_3 rfl) ?_
    refine WL.u rfl rfl (Wt.plain rfl) (Ex.assign rfl) ?_
    refine WL.next ?_
    refine WC.ret ?_
    refine WN.body1 rfl rfl ?_
    exact ⟨congrArg Value.bool (decide_eq_decide.2 (by omega)), rfl⟩
  have hg1_3' := hg1_3; try simp only [decide_eq_true_eq, decide_eq_false_iff_not, Bool.not_eq_true', Bool.not_eq_false', Bool.not_eq_true, Bool.not_eq_false] at hg1_3'
  refine WL.pass rfl rfl (Wt.guard' rfl rfl rfl hg1_3 rfl) ?_
  refine WL.pass rfl rfl (Wt.guard' rfl rfl rfl hg1_3 rfl) ?_
  refine WL.pass rfl rfl (Wt.guard' rfl rfl rfl hg1_3 rfl) ?_
  refine WL.pass rfl rfl (Wt.guard' rfl rfl rfl hg1_3 rfl) ?_
  refine WL.pass rfl rfl (Wt.guard' rfl rfl rfl hg1_3 rfl) ?_
  refine WL.u rfl rfl (Wt.plain rfl) (Ex.pickF rfl hg1_3 rfl) ?_
  refine WL.u rfl rfl (Wt.plain rfl) (Ex.assign rfl) ?_
  refine WL.next ?_
  refine WC.ret ?_
  refine WN.body1 rfl rfl ?_
  refine ⟨congrArg Value.bool (decide_eq_false (by omega)).symm, rfl⟩

theorem sl10Given (n m : Int) (w : World) : Fn Try.prog 13 [vint n, vint m] w (fun v w1 => v = .bool (fewB n m 9) ∧ w1 = w) := by
  refine Fn.enter (n := 17) Try.func13 rfl rfl rfl ?_
  show WC _ _ _ _ [(0, vint n), (1, vint m)] _
  refine WC.seq ?_
  refine WC.region ?_
  refine WL.u rfl rfl (Wt.plain rfl) (Ex.assign rfl) ?_
  refine WL.next ?_
  refine WC.seq ?_
  refine WC.region ?_
  refine WL.u rfl rfl (Wt.plain rfl) (Ex.move rfl) ?_
  refine WL.call callable27 rfl (Wt.plain rfl) rfl rfl (sl6In n 1 5 _) ?_
  rintro _ _ ⟨rfl, hw⟩; obtain rfl := hw.symm
  refine WL.u rfl rfl (Wt.plain rfl) (Ex.move rfl) ?_
  refine WL.split (t := 7) rfl (fun hg1_2 => ?_) (fun hg1_2 => ?_)
  · have hg1_2' := hg1_2; try simp only [decide_eq_true_eq, decide_eq_false_iff_not, Bool.not_eq_true', Bool.not_eq_false', Bool.not_eq_true, Bool.not_eq_false] at hg1_2'
    refine WL.u rfl rfl (Wt.guard' rfl rfl rfl hg1_2 rfl) (Ex.move rfl) ?_
    refine WL.call callable27 rfl (Wt.guard' rfl rfl rfl hg1_2 rfl) rfl rfl (sl6In m 1 5 _) ?_
    rintro _ _ ⟨rfl, hw⟩; obtain rfl := hw.symm
    refine WL.u rfl rfl (Wt.plain rfl) (Ex.pickT rfl hg1_2 rfl) ?_
    refine WL.u rfl rfl (Wt.plain rfl) (Ex.move rfl) ?_
    refine WL.split (t := 11) rfl (fun hg1_6 => ?_) (fun hg1_6 => ?_)
    · have hg1_6' := hg1_6; try simp only [decide_eq_true_eq, decide_eq_false_iff_not, Bool.not_eq_true', Bool.not_eq_false', Bool.not_eq_true, Bool.not_eq_false] at hg1_6'
      have hmb := mulB n m (by omega) (by omega)
      refine WL.u rfl rfl (Wt.guard' rfl rfl rfl hg1_6 rfl) (Ex.move rfl) ?_
      refine WL.u rfl rfl (Wt.guard' rfl rfl rfl hg1_6 rfl) (Ex.move rfl) ?_
      refine WL.u rfl rfl (Wt.guard' rfl rfl rfl hg1_6 rfl) (Ex.mul rfl rfl (by omega)) ?_
      refine WL.u rfl rfl (Wt.guard' rfl rfl rfl hg1_6 rfl) (Ex.leq rfl rfl) ?_
      refine WL.u rfl rfl (Wt.plain rfl) (Ex.pickT rfl hg1_6 rfl) ?_
      refine WL.u rfl rfl (Wt.plain rfl) (Ex.assign rfl) ?_
      refine WL.next ?_
      refine WC.ret ?_
      refine WN.body1 rfl rfl ?_
      exact ⟨congrArg Value.bool (decide_eq_decide.2 (by omega)), rfl⟩
    have hg1_6' := hg1_6; try simp only [decide_eq_true_eq, decide_eq_false_iff_not, Bool.not_eq_true', Bool.not_eq_false', Bool.not_eq_true, Bool.not_eq_false] at hg1_6'
    refine WL.pass rfl rfl (Wt.guard' rfl rfl rfl hg1_6 rfl) ?_
    refine WL.pass rfl rfl (Wt.guard' rfl rfl rfl hg1_6 rfl) ?_
    refine WL.pass rfl rfl (Wt.guard' rfl rfl rfl hg1_6 rfl) ?_
    refine WL.pass rfl rfl (Wt.guard' rfl rfl rfl hg1_6 rfl) ?_
    refine WL.u rfl rfl (Wt.plain rfl) (Ex.pickF rfl hg1_6 rfl) ?_
    refine WL.u rfl rfl (Wt.plain rfl) (Ex.assign rfl) ?_
    refine WL.next ?_
    refine WC.ret ?_
    refine WN.body1 rfl rfl ?_
    refine ⟨congrArg Value.bool (decide_eq_false (by omega)).symm, rfl⟩
  have hg1_2' := hg1_2; try simp only [decide_eq_true_eq, decide_eq_false_iff_not, Bool.not_eq_true', Bool.not_eq_false', Bool.not_eq_true, Bool.not_eq_false] at hg1_2'
  refine WL.pass rfl rfl (Wt.guard' rfl rfl rfl hg1_2 rfl) ?_
  refine WL.pass rfl rfl (Wt.guard' rfl rfl rfl hg1_2 rfl) ?_
  refine WL.u rfl rfl (Wt.plain rfl) (Ex.pickF rfl hg1_2 rfl) ?_
  refine WL.u rfl rfl (Wt.plain rfl) (Ex.move rfl) ?_
  refine WL.pass rfl rfl (Wt.guard' rfl rfl rfl rfl rfl) ?_
  refine WL.pass rfl rfl (Wt.guard' rfl rfl rfl rfl rfl) ?_
  refine WL.pass rfl rfl (Wt.guard' rfl rfl rfl rfl rfl) ?_
  refine WL.pass rfl rfl (Wt.guard' rfl rfl rfl rfl rfl) ?_
  refine WL.u rfl rfl (Wt.plain rfl) (Ex.pickF rfl rfl rfl) ?_
  refine WL.u rfl rfl (Wt.plain rfl) (Ex.assign rfl) ?_
  refine WL.next ?_
  refine WC.ret ?_
  refine WN.body1 rfl rfl ?_
  refine ⟨congrArg Value.bool (decide_eq_false (by omega)).symm, rfl⟩

end Go.Proofs.Ytmlkabddhdkpaaa
