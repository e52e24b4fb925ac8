/- The partners in empty grids. -/
import Derived.Test.YtlcihpleljhdpaaAll
import Derived.Test.YtlcihpleljhdpaaPort
import Derived.Test.YtlcihpleljhdpaaCnt
import Derived.Test.YtlcihpleljhdpaaTexts
namespace Go.Proofs.Ytlcihpleljhdpaa
set_option maxRecDepth 100000
set_option linter.unusedSimpArgs false
set_option linter.unusedVariables false
open Go Go.RowKit
theorem digit_zero (m : Nat) : digit m 0 = fun _ _ => 46 := by
  funext i k
  unfold digit
  rw [Nat.zero_div]; rfl
def opp (n m p : Nat) : Nat := if p < m then 2 * m + n - 1 - p else if p < m + n then 3 * m + 2 * n - 1 - p else if p < 2 * m + n then 2 * m + n - 1 - p else 3 * m + 2 * n - 1 - p
def placeN (n m p : Nat) : Nat × Nat := if p < m then (0, p) else if p < m + n then (1, p - m) else if p < 2 * m + n then (2, m - 1 - (p - m - n)) else (3, n - 1 - (p - 2 * m - n))
def portI (n m : Nat) (s x : Int) : Int := if s = 0 then x else if s = 1 then m + x else if s = 2 then 2 * m + n - 1 - x else 2 * m + 2 * n - 1 - x
theorem place_opp {n m p : Nat} (h1 : 1 ≤ n) (h3 : 1 ≤ m) (hp : p < 2 * n + 2 * m) : portI n m ((((placeN n m p).1 + 2) % 4 : Nat) : Int) (((placeN n m p).2 : Nat) : Int) = ((opp n m p : Nat) : Int) := by
  unfold portI placeN opp
  by_cases a : p < m
  · rw [if_pos a, if_pos a]; simp; omega
  · by_cases b : p < m + n
    · rw [if_neg a, if_pos b, if_neg a, if_pos b]; simp; omega
    · by_cases c : p < 2 * m + n
      · rw [if_neg a, if_neg b, if_pos c, if_neg a, if_neg b, if_pos c]; simp; omega
      · rw [if_neg a, if_neg b, if_neg c, if_neg a, if_neg b, if_neg c]; simp; omega
theorem place_bd {n m p : Nat} (h1 : 1 ≤ n) (h3 : 1 ≤ m) (hp : p < 2 * n + 2 * m) : (placeN n m p).1 < 4 ∧ (placeN n m p).2 < n + m := by
  unfold placeN
  split
  · exact ⟨by dsimp only; omega, by dsimp only; omega⟩
  · split
    · exact ⟨by dsimp only; omega, by dsimp only; omega⟩
    · split
      · exact ⟨by dsimp only; omega, by dsimp only; omega⟩
      · exact ⟨by dsimp only; omega, by dsimp only; omega⟩
theorem empty_way : ∀ n < 6, ∀ m < 6, 1 ≤ n → 1 ≤ m → ∀ p < 2 * n + 2 * m, (way (numG n m 0) p).2 = opp n m p := by decide +kernel

theorem iplaceOf (n m p : Nat) (w : World) (h1 : 1 ≤ n) (h2 : n ≤ 5) (h3 : 1 ≤ m) (h4 : m ≤ 5) (hp : p < 2 * n + 2 * m) : Fn Try.prog 19 [vint n, vint m, vint p] w (fun v w1 => v = .agg #[vint (placeN n m p).1, vint (placeN n m p).2] ∧ Keep [] w w1) := by
  refine Fn.enter (n := 49) Try.func19 rfl rfl rfl ?_
  show WC _ _ _ _ [(0, vint n), (1, vint m), (2, vint p)] _
  have hH := Hp.start [] w
  refine WC.seq ?_
  refine WC.region ?_
  refine WL.alloc ty44 rfl rfl (Wt.plain rfl) hH (fun b6 wn hb6 hk6 hH => ?_)
  refine WL.next ?_
  refine WC.seq ?_
  refine WC.block ?_
  refine WC.seq ?_
  refine WC.region ?_
  refine WL.u rfl rfl (Wt.plain rfl) (Ex.move rfl) ?_
  refine WL.u rfl rfl (Wt.plain rfl) (Ex.move rfl) ?_
  refine WL.u rfl rfl (Wt.plain rfl) (Ex.lss rfl rfl) ?_
  refine WL.u rfl rfl (Wt.plain rfl) (Ex.assign rfl) ?_
  refine WL.next ?_
  refine WC.cond rfl (fun hc1 => ?_) (fun hc1 => ?_)
  · have hc1' := hc1; try simp only [decide_eq_true_eq, decide_eq_false_iff_not, Bool.not_eq_true', Bool.not_eq_false', Bool.not_eq_true, Bool.not_eq_false] at hc1'
    refine WC.seq ?_
    refine WC.region ?_
    refine WL.u rfl rfl (Wt.plain rfl) (Ex.move rfl) ?_
    refine WL.u rfl rfl (Wt.plain rfl) (Ex.buildS bd44 rfl rfl rfl rfl rfl) ?_
    refine WL.store2 ty44 rfl rfl rfl rfl (Wt.plain rfl) hH (fun wn hk hH => ?_)
    refine WL.next ?_
    refine WC.ret ?_
    refine WN.retBlock ?_
    refine WN.retThen ?_
    refine WN.cell1 rfl rfl Try.underlying44 ty44 hH ?_
    exact ⟨by unfold placeN; rw [if_pos (by omega)] <;> rfl, hH.keep⟩
  have hc1' := hc1; try simp only [decide_eq_true_eq, decide_eq_false_iff_not, Bool.not_eq_true', Bool.not_eq_false', Bool.not_eq_true, Bool.not_eq_false] at hc1'
  refine WC.seq ?_
  refine WC.region ?_
  refine WL.u rfl rfl (Wt.plain rfl) (Ex.move rfl) ?_
  refine WL.u rfl rfl (Wt.plain rfl) (Ex.move rfl) ?_
  refine WL.u rfl rfl (Wt.plain rfl) (Ex.move rfl) ?_
  refine WL.u rfl rfl (Wt.plain rfl) (Ex.add rfl rfl (by omega)) ?_
  refine WL.u rfl rfl (Wt.plain rfl) (Ex.lss rfl rfl) ?_
  refine WL.u rfl rfl (Wt.plain rfl) (Ex.assign rfl) ?_
  refine WL.next ?_
  refine WC.cond rfl (fun hc2 => ?_) (fun hc2 => ?_)
  · have hc2' := hc2; try simp only [decide_eq_true_eq, decide_eq_false_iff_not, Bool.not_eq_true', Bool.not_eq_false', Bool.not_eq_true, Bool.not_eq_false] at hc2'
    refine WC.seq ?_
    refine WC.region ?_
    refine WL.u rfl rfl (Wt.plain rfl) (Ex.move rfl) ?_
    refine WL.u rfl rfl (Wt.plain rfl) (Ex.move rfl) ?_
    refine WL.u rfl rfl (Wt.plain rfl) (Ex.sub rfl rfl (by omega)) ?_
    refine WL.u rfl rfl (Wt.plain rfl) (Ex.buildS bd44 rfl rfl rfl rfl rfl) ?_
    refine WL.store2 ty44 rfl rfl rfl rfl (Wt.plain rfl) hH (fun wn hk hH => ?_)
    refine WL.next ?_
    refine WC.ret ?_
    refine WN.retBlock ?_
    refine WN.retThen ?_
    refine WN.cell1 rfl rfl Try.underlying44 ty44 hH ?_
    refine ⟨?_, hH.keep⟩
    unfold placeN; rw [if_neg (by omega), if_pos (by omega)]
    exact congrArg (fun x : Int => Value.agg #[vint 1, vint x]) (show (p : Int) - (m : Int) = ((p - m : Nat) : Int) by omega)
  have hc2' := hc2; try simp only [decide_eq_true_eq, decide_eq_false_iff_not, Bool.not_eq_true', Bool.not_eq_false', Bool.not_eq_true, Bool.not_eq_false] at hc2'
  refine WC.seq ?_
  refine WC.region ?_
  refine WL.u rfl rfl (Wt.plain rfl) (Ex.move rfl) ?_
  refine WL.u rfl rfl (Wt.plain rfl) (Ex.move rfl) ?_
  refine WL.u rfl rfl (Wt.plain rfl) (Ex.mul rfl rfl (by omega)) ?_
  refine WL.u rfl rfl (Wt.plain rfl) (Ex.move rfl) ?_
  refine WL.u rfl rfl (Wt.plain rfl) (Ex.add rfl rfl (by omega)) ?_
  refine WL.u rfl rfl (Wt.plain rfl) (Ex.lss rfl rfl) ?_
  refine WL.u rfl rfl (Wt.plain rfl) (Ex.assign rfl) ?_
  refine WL.next ?_
  refine WC.cond rfl (fun hc3 => ?_) (fun hc3 => ?_)
  · have hc3' := hc3; try simp only [decide_eq_true_eq, decide_eq_false_iff_not, Bool.not_eq_true', Bool.not_eq_false', Bool.not_eq_true, Bool.not_eq_false] at hc3'
    refine WC.seq ?_
    refine WC.region ?_
    refine WL.u rfl rfl (Wt.plain rfl) (Ex.move rfl) ?_
    refine WL.u rfl rfl (Wt.plain rfl) (Ex.sub rfl rfl (by omega)) ?_
    refine WL.u rfl rfl (Wt.plain rfl) (Ex.move rfl) ?_
    refine WL.u rfl rfl (Wt.plain rfl) (Ex.move rfl) ?_
    refine WL.u rfl rfl (Wt.plain rfl) (Ex.sub rfl rfl (by omega)) ?_
    refine WL.u rfl rfl (Wt.plain rfl) (Ex.move rfl) ?_
    refine WL.u rfl rfl (Wt.plain rfl) (Ex.sub rfl rfl (by omega)) ?_
    refine WL.u rfl rfl (Wt.plain rfl) (Ex.sub rfl rfl (by omega)) ?_
    refine WL.u rfl rfl (Wt.plain rfl) (Ex.buildS bd44 rfl rfl rfl rfl rfl) ?_
    refine WL.store2 ty44 rfl rfl rfl rfl (Wt.plain rfl) hH (fun wn hk hH => ?_)
    refine WL.next ?_
    refine WC.ret ?_
    refine WN.retBlock ?_
    refine WN.retThen ?_
    refine WN.cell1 rfl rfl Try.underlying44 ty44 hH ?_
    refine ⟨?_, hH.keep⟩
    unfold placeN; rw [if_neg (by omega), if_neg (by omega), if_pos (by omega)]
    exact congrArg (fun x : Int => Value.agg #[vint 2, vint x]) (show (m : Int) - 1 - ((p : Int) - (m : Int) - (n : Int)) = ((m - 1 - (p - m - n) : Nat) : Int) by omega)
  have hc3' := hc3; try simp only [decide_eq_true_eq, decide_eq_false_iff_not, Bool.not_eq_true', Bool.not_eq_false', Bool.not_eq_true, Bool.not_eq_false] at hc3'
  refine WC.skip ?_
  refine WN.normalBlock ?_
  refine WN.next ?_
  refine WC.seq ?_
  refine WC.region ?_
  refine WL.u rfl rfl (Wt.plain rfl) (Ex.move rfl) ?_
  refine WL.u rfl rfl (Wt.plain rfl) (Ex.sub rfl rfl (by omega)) ?_
  refine WL.u rfl rfl (Wt.plain rfl) (Ex.move rfl) ?_
  refine WL.u rfl rfl (Wt.plain rfl) (Ex.move rfl) ?_
  refine WL.u rfl rfl (Wt.plain rfl) (Ex.mul rfl rfl (by omega)) ?_
  refine WL.u rfl rfl (Wt.plain rfl) (Ex.sub rfl rfl (by omega)) ?_
  refine WL.u rfl rfl (Wt.plain rfl) (Ex.move rfl) ?_
  refine WL.u rfl rfl (Wt.plain rfl) (Ex.sub rfl rfl (by omega)) ?_
  refine WL.u rfl rfl (Wt.plain rfl) (Ex.sub rfl rfl (by omega)) ?_
  refine WL.u rfl rfl (Wt.plain rfl) (Ex.buildS bd44 rfl rfl rfl rfl rfl) ?_
  refine WL.store2 ty44 rfl rfl rfl rfl (Wt.plain rfl) hH (fun wn hk hH => ?_)
  refine WL.next ?_
  refine WC.ret ?_
  refine WN.cell1 rfl rfl Try.underlying44 ty44 hH ?_
  refine ⟨?_, hH.keep⟩
  unfold placeN; rw [if_neg (by omega), if_neg (by omega), if_neg (by omega)]
  exact congrArg (fun x : Int => Value.agg #[vint 3, vint x]) (show (n : Int) - 1 - ((p : Int) - 2 * (m : Int) - (n : Int)) = ((n - 1 - (p - 2 * m - n) : Nat) : Int) by omega)

theorem iportOf (n m : Nat) (s x : Int) (w : World) (h2 : n ≤ 5) (h4 : m ≤ 5) (hx : -1000 ≤ x ∧ x ≤ 1000) : Fn Try.prog 20 [vint n, vint m, .agg #[vint s, vint x]] w (fun v w1 => v = vint (portI n m s x) ∧ Keep [] w w1) := by
  refine Fn.enter (n := 40) Try.func20 rfl rfl rfl ?_
  show WC _ _ _ _ [(0, vint n), (1, vint m), (2, .agg #[vint s, vint x])] _
  have hH := Hp.start [] w
  refine WC.seq ?_
  refine WC.region ?_
  refine WL.box rfl rfl rfl (Wt.plain rfl) hH (fun b5 wn hb5 hk5 hH => ?_)
  refine WL.u rfl rfl (Wt.plain rfl) (Ex.assign rfl) ?_
  refine WL.next ?_
  refine WC.seq ?_
  refine WC.seq ?_
  refine WC.region ?_
  refine WL.u rfl rfl (Wt.plain rfl) (Ex.fieldAddr fd44_0 rfl) ?_
  refine WL.u rfl rfl (Wt.plain rfl) (Ex.loadHp flat3 rfl hH rfl) ?_
  refine WL.next ?_
  refine WC.block ?_
  refine WC.seq ?_
  refine WC.region ?_
  refine WL.u rfl rfl (Wt.plain rfl) (Ex.eql rfl rfl) ?_
  refine WL.u rfl rfl (Wt.plain rfl) (Ex.assign rfl) ?_
  refine WL.next ?_
  refine WC.cond rfl (fun hc1 => ?_) (fun hc1 => ?_)
  · have hc1' := hc1; try simp only [decide_eq_true_eq, decide_eq_false_iff_not, Bool.not_eq_true', Bool.not_eq_false', Bool.not_eq_true, Bool.not_eq_false] at hc1'
    refine WC.seq ?_
    refine WC.region ?_
    refine WL.u rfl rfl (Wt.plain rfl) (Ex.fieldAddr fd44_1 rfl) ?_
    refine WL.u rfl rfl (Wt.plain rfl) (Ex.loadHp flat3 rfl hH rfl) ?_
    refine WL.u rfl rfl (Wt.plain rfl) (Ex.assign rfl) ?_
    refine WL.next ?_
    refine WC.ret ?_
    refine WN.retBlock ?_
    refine WN.retThen ?_
    refine WN.body1 rfl rfl ?_
    exact ⟨by unfold portI; rw [if_pos (by omega)] <;> rfl, hH.keep⟩
  have hc1' := hc1; try simp only [decide_eq_true_eq, decide_eq_false_iff_not, Bool.not_eq_true', Bool.not_eq_false', Bool.not_eq_true, Bool.not_eq_false] at hc1'
  refine WC.seq ?_
  refine WC.region ?_
  refine WL.u rfl rfl (Wt.plain rfl) (Ex.eql rfl rfl) ?_
  refine WL.u rfl rfl (Wt.plain rfl) (Ex.assign rfl) ?_
  refine WL.next ?_
  refine WC.cond rfl (fun hc2 => ?_) (fun hc2 => ?_)
  · have hc2' := hc2; try simp only [decide_eq_true_eq, decide_eq_false_iff_not, Bool.not_eq_true', Bool.not_eq_false', Bool.not_eq_true, Bool.not_eq_false] at hc2'
    refine WC.seq ?_
    refine WC.region ?_
    refine WL.u rfl rfl (Wt.plain rfl) (Ex.move rfl) ?_
    refine WL.u rfl rfl (Wt.plain rfl) (Ex.fieldAddr fd44_1 rfl) ?_
    refine WL.u rfl rfl (Wt.plain rfl) (Ex.loadHp flat3 rfl hH rfl) ?_
    refine WL.u rfl rfl (Wt.plain rfl) (Ex.add rfl rfl (by omega)) ?_
    refine WL.u rfl rfl (Wt.plain rfl) (Ex.assign rfl) ?_
    refine WL.next ?_
    refine WC.ret ?_
    refine WN.retBlock ?_
    refine WN.retThen ?_
    refine WN.body1 rfl rfl ?_
    exact ⟨by unfold portI; rw [if_neg (by omega), if_pos (by omega)] <;> rfl, hH.keep⟩
  have hc2' := hc2; try simp only [decide_eq_true_eq, decide_eq_false_iff_not, Bool.not_eq_true', Bool.not_eq_false', Bool.not_eq_true, Bool.not_eq_false] at hc2'
  refine WC.seq ?_
  refine WC.region ?_
  refine WL.u rfl rfl (Wt.plain rfl) (Ex.eql rfl rfl) ?_
  refine WL.u rfl rfl (Wt.plain rfl) (Ex.assign rfl) ?_
  refine WL.next ?_
  refine WC.cond rfl (fun hc3 => ?_) (fun hc3 => ?_)
  · have hc3' := hc3; try simp only [decide_eq_true_eq, decide_eq_false_iff_not, Bool.not_eq_true', Bool.not_eq_false', Bool.not_eq_true, Bool.not_eq_false] at hc3'
    refine WC.seq ?_
    refine WC.region ?_
    refine WL.u rfl rfl (Wt.plain rfl) (Ex.move rfl) ?_
    refine WL.u rfl rfl (Wt.plain rfl) (Ex.move rfl) ?_
    refine WL.u rfl rfl (Wt.plain rfl) (Ex.add rfl rfl (by omega)) ?_
    refine WL.u rfl rfl (Wt.plain rfl) (Ex.move rfl) ?_
    refine WL.u rfl rfl (Wt.plain rfl) (Ex.add rfl rfl (by omega)) ?_
    refine WL.u rfl rfl (Wt.plain rfl) (Ex.sub rfl rfl (by omega)) ?_
    refine WL.u rfl rfl (Wt.plain rfl) (Ex.fieldAddr fd44_1 rfl) ?_
    refine WL.u rfl rfl (Wt.plain rfl) (Ex.loadHp flat3 rfl hH rfl) ?_
    refine WL.u rfl rfl (Wt.plain rfl) (Ex.sub rfl rfl (by omega)) ?_
    refine WL.u rfl rfl (Wt.plain rfl) (Ex.assign rfl) ?_
    refine WL.next ?_
    refine WC.ret ?_
    refine WN.retBlock ?_
    refine WN.retThen ?_
    refine WN.body1 rfl rfl ?_
    refine ⟨?_, hH.keep⟩
    unfold portI; rw [if_neg (by omega), if_neg (by omega), if_pos (by omega)]
    exact congrArg (Value.int IntKind.i64) (by omega)
  have hc3' := hc3; try simp only [decide_eq_true_eq, decide_eq_false_iff_not, Bool.not_eq_true', Bool.not_eq_false', Bool.not_eq_true, Bool.not_eq_false] at hc3'
  refine WC.skip ?_
  refine WN.normalBlock ?_
  refine WN.next ?_
  refine WC.seq ?_
  refine WC.region ?_
  refine WL.u rfl rfl (Wt.plain rfl) (Ex.move rfl) ?_
  refine WL.u rfl rfl (Wt.plain rfl) (Ex.mul rfl rfl (by omega)) ?_
  refine WL.u rfl rfl (Wt.plain rfl) (Ex.move rfl) ?_
  refine WL.u rfl rfl (Wt.plain rfl) (Ex.add rfl rfl (by omega)) ?_
  refine WL.u rfl rfl (Wt.plain rfl) (Ex.move rfl) ?_
  refine WL.u rfl rfl (Wt.plain rfl) (Ex.add rfl rfl (by omega)) ?_
  refine WL.u rfl rfl (Wt.plain rfl) (Ex.sub rfl rfl (by omega)) ?_
  refine WL.u rfl rfl (Wt.plain rfl) (Ex.fieldAddr fd44_1 rfl) ?_
  refine WL.u rfl rfl (Wt.plain rfl) (Ex.loadHp flat3 rfl hH rfl) ?_
  refine WL.u rfl rfl (Wt.plain rfl) (Ex.sub rfl rfl (by omega)) ?_
  refine WL.u rfl rfl (Wt.plain rfl) (Ex.assign rfl) ?_
  refine WL.next ?_
  refine WC.ret ?_
  refine WN.body1 rfl rfl ?_
  refine ⟨?_, hH.keep⟩
  unfold portI; rw [if_neg (by omega), if_neg (by omega), if_neg (by omega)]
  exact congrArg (Value.int IntKind.i64) (by omega)

theorem iJoinUnit (n m : Nat) (w : World) (h1 : 1 ≤ n) (h2 : n ≤ 5) (h3 : 1 ≤ m) (h4 : m ≤ 5) : Fn Try.prog 7 [vint n, vint m] w (fun v w1 => ∃ x l, v = .tuple #[x, .bool true] ∧ Keep [] w w1 ∧ New rInt 3 w w1 x l ∧ l.length = 2 * n + 2 * m ∧ ∀ p, p < 2 * n + 2 * m → l.getD p 0 = ((opp n m p : Nat) : Int)) := by
  refine Fn.enter (n := 44) Try.func7 rfl rfl rfl ?_
  show WC _ _ _ _ [(0, vint n), (1, vint m)] _
  have hH := Hp.start [] w
  refine WC.seq ?_
  refine WC.region ?_
  refine WL.u rfl rfl (Wt.plain rfl) (Ex.assign rfl) ?_
  refine WL.u rfl rfl (Wt.plain rfl) (Ex.assign rfl) ?_
  refine WL.next ?_
  refine WC.seq ?_
  refine WC.seq ?_
  refine WC.region ?_
  refine WL.u rfl rfl (Wt.plain rfl) (Ex.move rfl) ?_
  refine WL.u rfl rfl (Wt.plain rfl) (Ex.move rfl) ?_
  refine WL.call callable18 rfl (Wt.plain rfl) rfl rfl (isidesOk n m _) ?_
  rintro _ _ ⟨rfl, hw⟩; obtain rfl := hw.symm
  refine WL.u rfl rfl (Wt.plain rfl) (Ex.not rfl) ?_
  refine WL.next ?_
  refine WC.condF rfl (by rw [decide_eq_true (show (1 : Int) ≤ n ∧ (n : Int) ≤ 5 ∧ (1 : Int) ≤ m ∧ (m : Int) ≤ 5 by omega)] <;> rfl) ?_
  refine WC.skip ?_
  refine WN.next ?_
  refine WC.seq ?_
  refine WC.region ?_
  refine WL.u rfl rfl (Wt.plain rfl) (Ex.move rfl) ?_
  refine WL.u rfl rfl (Wt.plain rfl) (Ex.mul rfl rfl (by omega)) ?_
  refine WL.u rfl rfl (Wt.plain rfl) (Ex.move rfl) ?_
  refine WL.u rfl rfl (Wt.plain rfl) (Ex.mul rfl rfl (by omega)) ?_
  refine WL.u rfl rfl (Wt.plain rfl) ((Ex.add rfl rfl (by omega)).to (congrArg (Value.int IntKind.i64) (show _ = ((2 * n + 2 * m : Nat) : Int) by omega))) ?_
  refine WL.makeSlice Try.underlying23 ty3 rfl rfl (by omega) (by omega) rfl (Wt.plain rfl) hH (fun b19 wn hb19 hk19 hH => ?_)
  have ho19 := Own.made rInt (z := vint 0) 0 rfl rfl (k := 2 * n + 2 * m) (by omega)
  refine WL.u rfl rfl (Wt.plain rfl) (Ex.assign rfl) ?_
  refine WL.next ?_
  refine WC.seq ?_
  refine WC.seq ?_
  refine WC.region ?_
  refine WL.u rfl rfl (Wt.plain rfl) (Ex.move rfl) ?_
  refine WL.u rfl rfl (Wt.plain rfl) (Ex.lenSl Try.underlying23 rfl) ?_
  refine WL.u rfl rfl (Wt.plain rfl) (Ex.move rfl) ?_
  refine WL.next ?_
  refine WC.block ?_
  refine WC.loop (ι := Nat × (Array Value) × (List Int)) (fun (i, cur19, l) => [(0, vint n), (1, vint m), (6, vsl b19 (2 * n + 2 * m) (2 * n + 2 * m)), (21, vint (2 * n + 2 * m : Nat)), (22, vint i)]) (fun (i, cur19, l) wn => Hp [] w wn [(b19, .cells cur19 3 (0, 0))] ∧ Own rInt cur19 (2 * n + 2 * m) l ∧ l.length = 2 * n + 2 * m ∧ (∀ p, p < i → l.getD p 0 = ((opp n m p : Nat) : Int)) ∧ i ≤ 2 * n + 2 * m) (fun (i, cur19, l) => 2 * n + 2 * m - i) ((0, madeCells (vint 0).cells ((2 * n + 2 * m) * 1), List.replicate (2 * n + 2 * m) 0)) (by exact ⟨rfl, rfl, rfl, rfl, rfl, trivial⟩) ?_ ?_
  · exact ⟨hH, ho19, by simp, fun p hp => by omega, Nat.zero_le _⟩
  rintro ⟨i, cur19, l⟩ wn ⟨hH, ho19, hll, hl, hi⟩
  intro mu0 hmu; try dsimp only at hmu
  show WC _ _ _ _ [(0, vint n), (1, vint m), (6, vsl b19 (2 * n + 2 * m) (2 * n + 2 * m)), (21, vint (2 * n + 2 * m : Nat)), (22, vint i)] _
  refine WC.seq ?_
  refine WC.region ?_
  refine WL.u rfl rfl (Wt.plain rfl) (Ex.lss rfl rfl) ?_
  refine WL.next ?_
  refine WC.seq ?_
  refine WC.cond rfl (fun hc2 => ?_) (fun hc2 => ?_)
  · have hc2' := hc2; try simp only [decide_eq_true_eq, decide_eq_false_iff_not, Bool.not_eq_true', Bool.not_eq_false', Bool.not_eq_true, Bool.not_eq_false] at hc2'
    have hlt : i < 2 * n + 2 * m := by omega
    have hpb := place_bd h1 h3 hlt
    have hpo := place_opp h1 h3 hlt
    refine WC.skip ?_
    refine WN.next ?_
    refine WC.seq ?_
    refine WC.block ?_
    refine WC.seq ?_
    refine WC.region ?_
    refine WL.u rfl rfl (Wt.plain rfl) (Ex.move rfl) ?_
    refine WL.u rfl rfl (Wt.plain rfl) (Ex.assign rfl) ?_
    refine WL.next ?_
    refine WC.seq ?_
    refine WC.region ?_
    refine WL.u rfl rfl (Wt.plain rfl) (Ex.move rfl) ?_
    refine WL.u rfl rfl (Wt.plain rfl) (Ex.move rfl) ?_
    refine WL.u rfl rfl (Wt.plain rfl) (Ex.move rfl) ?_
    refine WL.call callable19 rfl (Wt.plain rfl) rfl rfl (iplaceOf n m i _ h1 h2 h3 h4 hlt) ?_
    rintro _ wn ⟨rfl, hC⟩; replace hH := hH.call hC; clear hC
    refine WL.alloc ty44 rfl rfl (Wt.plain rfl) hH (fun b8 wn hb8 hk8 hH => ?_)
    refine WL.store2 ty44 rfl rfl rfl rfl (Wt.plain rfl) hH (fun wn hk hH => ?_)
    refine WL.next ?_
    refine WC.region ?_
    refine WL.u rfl rfl (Wt.plain rfl) (Ex.move rfl) ?_
    refine WL.u rfl rfl (Wt.plain rfl) (Ex.move rfl) ?_
    refine WL.u rfl rfl (Wt.plain rfl) (Ex.move rfl) ?_
    refine WL.u rfl rfl (Wt.plain rfl) (Ex.move rfl) ?_
    refine WL.u rfl rfl (Wt.plain rfl) (Ex.fieldAddr fd44_0 rfl) ?_
    refine WL.u rfl rfl (Wt.plain rfl) (Ex.loadHp flat3 rfl hH rfl) ?_
    refine WL.u rfl rfl (Wt.plain rfl) (Ex.add rfl rfl (by omega)) ?_
    refine WL.u rfl rfl (Wt.plain rfl) ((Ex.rem rfl rfl (by omega) (by omega)).to (congrArg (Value.int IntKind.i64) (show _ = ((((placeN n m i).1 + 2) % 4 : Nat) : Int) by omega))) ?_
    refine WL.u rfl rfl (Wt.plain rfl) (Ex.fieldAddr fd44_1 rfl) ?_
    refine WL.u rfl rfl (Wt.plain rfl) (Ex.loadHp flat3 rfl hH rfl) ?_
    refine WL.u rfl rfl (Wt.plain rfl) (Ex.buildS bd44 rfl rfl rfl rfl rfl) ?_
    refine WL.call callable20 rfl (Wt.plain rfl) rfl rfl (iportOf n m ((((placeN n m i).1 + 2) % 4 : Nat) : Int) (((placeN n m i).2 : Nat) : Int) _ h2 h4 (by omega)) ?_
    rintro _ wn ⟨rfl, hC⟩; replace hH := hH.call hC; clear hC
    rw [hpo]
    refine WL.u rfl rfl (Wt.plain rfl) (Ex.indexAddr Try.underlying23 ty3 rfl rfl (by omega)) ?_
    replace hH := hH.f1
    refine WL.store1 ty3 rfl rfl rfl (Wt.plain rfl) hH (ho19.idx rfl (by omega)) (by simp) (fun wn hk hH => ?_)
    replace ho19 := ho19.set rfl i ((opp n m i : Nat) : Int)
    refine WL.last ?_
    refine WN.normalBlock ?_
    refine WN.next ?_
    refine WC.region ?_
    refine WL.u rfl rfl (Wt.plain rfl) (Ex.add rfl rfl (by omega)) ?_
    refine WL.u rfl rfl (Wt.plain rfl) (Ex.move rfl) ?_
    refine WL.last ?_
    replace hH := hH.first1
    refine WN.round (i + 1, cur19.setIfInBounds (0 + (i : Int).toNat * 1) (rInt.val ((opp n m i : Nat) : Int)), l.set i ((opp n m i : Nat) : Int)) (by exact ⟨rfl, rfl, rfl, rfl, rfl, trivial⟩) ?_ ?_
    · refine ⟨hH, ho19, by simp [hll], fun p hp => ?_, by omega⟩
      rw [List.getD_eq_getElem?_getD, List.getElem?_set]
      by_cases e : i = p
      · subst e; rw [if_pos rfl, if_pos (by omega)]; rfl
      · rw [if_neg e, ← List.getD_eq_getElem?_getD]; exact hl p (by omega)
    · (try dsimp only); omega
  have hc2' := hc2; try simp only [decide_eq_true_eq, decide_eq_false_iff_not, Bool.not_eq_true', Bool.not_eq_false', Bool.not_eq_true, Bool.not_eq_false] at hc2'
  refine WC.exit ?_
  refine WN.exitThen ?_
  refine WN.exitThen ?_
  refine WN.exitHere ?_
  refine WN.next ?_
  refine WC.seq ?_
  refine WC.region ?_
  refine WL.u rfl rfl (Wt.plain rfl) (Ex.move rfl) ?_
  refine WL.u rfl rfl (Wt.plain rfl) (Ex.assign rfl) ?_
  refine WL.u rfl rfl (Wt.plain rfl) (Ex.assign rfl) ?_
  refine WL.next ?_
  refine WC.ret ?_
  refine WN.body2 rfl rfl rfl ?_
  have hiN : i = 2 * n + 2 * m := by omega
  rw [hiN] at hl
  have hN := New.of hH ho19 (hH.base 0 rfl)
  rw [hll] at hN
  exact ⟨_, l, rfl, hH.keep, hN, hll, hl⟩

end Go.Proofs.Ytlcihpleljhdpaa
