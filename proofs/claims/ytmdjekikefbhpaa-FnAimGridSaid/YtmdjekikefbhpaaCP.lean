/- How often the first port's beam ends at each port, over all full grids. -/
import Derived.Test.YtmdjekikefbhpaaFull
import Derived.Test.YtmdjekikefbhpaaCnt
namespace Go.Proofs.Ytmdjekikefbhpaa
set_option maxRecDepth 100000
set_option linter.unusedSimpArgs false
set_option linter.unusedVariables false
open Go Go.RowKit

def fewB (n m k : Int) : Bool := decide (1 ≤ n ∧ n ≤ 5 ∧ 1 ≤ m ∧ m ≤ 5 ∧ n * m ≤ k)
theorem fewB_ex {n m k : Int} (h : fewB n m k = true) : ∃ n' m' : Nat, n = n' ∧ m = m' ∧ 1 ≤ n' ∧ n' ≤ 5 ∧ 1 ≤ m' ∧ m' ≤ 5 ∧ ((n' * m' : Nat) : Int) ≤ k := by
  unfold fewB at h
  have h := of_decide_eq_true h
  refine ⟨n.toNat, m.toNat, by omega, by omega, by omega, by omega, by omega, by omega, ?_⟩
  rw [Int.natCast_mul, Int.toNat_of_nonneg (by omega), Int.toNat_of_nonneg (by omega)]
  exact h.2.2.2.2
def endF (n m i : Nat) : Nat := (way (full n m i) 0).2
theorem endF_lt {n m : Nat} (i : Nat) (h1 : 1 ≤ n) (h2 : n ≤ 5) (h3 : 1 ≤ m) (h4 : m ≤ 5) : endF n m i < 2 * n + 2 * m := by
  have hG := full_ok i h1 h2 h3 h4
  have hp : ports (full n m i) = 2 * n + 2 * m := gridOf_ports m _ h1
  have := way_end hG.sz (p := 0) (by rw [hp]; omega)
  rw [hp] at this; exact this
def countPorts (n m : Int) : List Int × Bool := if fewB n m 9 = true then (cntBy (endF n.toNat m.toNat) (2 * n.toNat + 2 * m.toNat) (2 ^ (n.toNat * m.toNat)), true) else ([], false)
theorem countPorts_at {n m : Nat} (h : fewB n m 9 = true) : countPorts n m = (cntBy (endF n m) (2 * n + 2 * m) (2 ^ (n * m)), true) := by
  rw [countPorts, if_pos h]; rfl
theorem pow9 {n m : Nat} (h : ((n * m : Nat) : Int) ≤ 9) : 2 ^ (n * m) ≤ 512 := Nat.pow_le_pow_right (by decide) (show n * m ≤ 9 by omega)

theorem isidesOk (n m : Int) (w : World) : Fn Try.prog 99 [vint n, vint m] w (fun v w1 => v = .bool (decide (1 ≤ n ∧ n ≤ 5 ∧ 1 ≤ m ∧ m ≤ 5)) ∧ w1 = w) := by
  refine Fn.enter (n := 11) Try.func99 rfl rfl rfl ?_
  show WC _ _ _ _ [(0, vint n), (1, vint m)] _
  refine WC.seq ?_
  refine WC.region ?_
  refine WL.u rfl rfl (Wt.plain rfl) (Ex.assign rfl) ?_
  refine WL.next ?_
  refine WC.seq ?_
  refine WC.region ?_
  refine WL.u rfl rfl (Wt.plain rfl) (Ex.move rfl) ?_
  refine WL.call callable105 rfl (Wt.plain rfl) rfl rfl (iwithin n 1 5 _) ?_
  rintro _ _ ⟨rfl, hw⟩; obtain rfl := hw.symm
  refine WL.u rfl rfl (Wt.plain rfl) (Ex.move rfl) ?_
  refine WL.split (t := 7) rfl (fun hg1_2 => ?_) (fun hg1_2 => ?_)
  · have hg1_2' := hg1_2; try simp only [decide_eq_true_eq, decide_eq_false_iff_not, Bool.not_eq_true', Bool.not_eq_false', Bool.not_eq_true, Bool.not_eq_false] at hg1_2'
    refine WL.u rfl rfl (Wt.guard' rfl rfl rfl hg1_2 rfl) (Ex.move rfl) ?_
    refine WL.call callable105 rfl (Wt.guard' rfl rfl rfl hg1_2 rfl) rfl rfl (iwithin m 1 5 _) ?_
    rintro _ _ ⟨rfl, hw⟩; obtain rfl := hw.symm
    refine WL.u rfl rfl (Wt.plain rfl) (Ex.pickT rfl hg1_2 rfl) ?_
    refine WL.u rfl rfl (Wt.plain rfl) (Ex.assign rfl) ?_
    refine WL.next ?_
    refine WC.ret ?_
    refine WN.body1 rfl rfl ?_
    exact ⟨congrArg Value.bool (decide_eq_decide.2 (by omega)), rfl⟩
  have hg1_2' := hg1_2; try simp only [decide_eq_true_eq, decide_eq_false_iff_not, Bool.not_eq_true', Bool.not_eq_false', Bool.not_eq_true, Bool.not_eq_false] at hg1_2'
  refine WL.pass rfl rfl (Wt.guard' rfl rfl rfl hg1_2 rfl) ?_
  refine WL.pass rfl rfl (Wt.guard' rfl rfl rfl hg1_2 rfl) ?_
  refine WL.u rfl rfl (Wt.plain rfl) (Ex.pickF rfl hg1_2 rfl) ?_
  refine WL.u rfl rfl (Wt.plain rfl) (Ex.assign rfl) ?_
  refine WL.next ?_
  refine WC.ret ?_
  refine WN.body1 rfl rfl ?_
  refine ⟨congrArg Value.bool (decide_eq_false (by omega)).symm, rfl⟩

theorem ifewOk (n m k : Int) (w : World) : Fn Try.prog 71 [vint n, vint m, vint k] w (fun v w1 => v = .bool (fewB n m k) ∧ w1 = w) := by
  refine Fn.enter (n := 17) Try.func71 rfl rfl rfl ?_
  show WC _ _ _ _ [(0, vint n), (1, vint m), (2, vint k)] _
  refine WC.seq ?_
  refine WC.region ?_
  refine WL.u rfl rfl (Wt.plain rfl) (Ex.assign rfl) ?_
  refine WL.next ?_
  refine WC.seq ?_
  refine WC.region ?_
  refine WL.u rfl rfl (Wt.plain rfl) (Ex.move rfl) ?_
  refine WL.u rfl rfl (Wt.plain rfl) (Ex.move rfl) ?_
  refine WL.call callable99 rfl (Wt.plain rfl) rfl rfl (isidesOk _ _ _) ?_
  rintro _ _ ⟨rfl, hw⟩; obtain rfl := hw.symm
  refine WL.u rfl rfl (Wt.plain rfl) (Ex.move rfl) ?_
  refine WL.split (t := 10) rfl (fun hg1_3 => ?_) (fun hg1_3 => ?_)
  · have hg1_3' := hg1_3; try simp only [decide_eq_true_eq, decide_eq_false_iff_not, Bool.not_eq_true', Bool.not_eq_false', Bool.not_eq_true, Bool.not_eq_false] at hg1_3'
    have hmb := mulB n m (by omega) (by omega)
    refine WL.u rfl rfl (Wt.guard' rfl rfl rfl hg1_3 rfl) (Ex.move rfl) ?_
    refine WL.u rfl rfl (Wt.guard' rfl rfl rfl hg1_3 rfl) (Ex.move rfl) ?_
    refine WL.u rfl rfl (Wt.guard' rfl rfl rfl hg1_3 rfl) (Ex.mul rfl rfl (by omega)) ?_
    refine WL.u rfl rfl (Wt.guard' rfl rfl rfl hg1_3 rfl) (Ex.move rfl) ?_
    refine WL.u rfl rfl (Wt.guard' rfl rfl rfl hg1_3 rfl) (Ex.leq rfl rfl) ?_
    refine WL.u rfl rfl (Wt.plain rfl) (Ex.pickT rfl hg1_3 rfl) ?_
    refine WL.u rfl rfl (Wt.plain rfl) (Ex.assign rfl) ?_
    refine WL.next ?_
    refine WC.ret ?_
    refine WN.body1 rfl rfl ?_
    exact ⟨congrArg Value.bool (decide_eq_decide.2 (by omega)), rfl⟩
  have hg1_3' := hg1_3; try simp only [decide_eq_true_eq, decide_eq_false_iff_not, Bool.not_eq_true', Bool.not_eq_false', Bool.not_eq_true, Bool.not_eq_false] at hg1_3'
  refine WL.pass rfl rfl (Wt.guard' rfl rfl rfl hg1_3 rfl) ?_
  refine WL.pass rfl rfl (Wt.guard' rfl rfl rfl hg1_3 rfl) ?_
  refine WL.pass rfl rfl (Wt.guard' rfl rfl rfl hg1_3 rfl) ?_
  refine WL.pass rfl rfl (Wt.guard' rfl rfl rfl hg1_3 rfl) ?_
  refine WL.pass rfl rfl (Wt.guard' rfl rfl rfl hg1_3 rfl) ?_
  refine WL.u rfl rfl (Wt.plain rfl) (Ex.pickF rfl hg1_3 rfl) ?_
  refine WL.u rfl rfl (Wt.plain rfl) (Ex.assign rfl) ?_
  refine WL.next ?_
  refine WC.ret ?_
  refine WN.body1 rfl rfl ?_
  refine ⟨congrArg Value.bool (decide_eq_false (by omega)).symm, rfl⟩

theorem sl10Given (n m : Int) (w : World) : Fn Try.prog 67 [vint n, vint m] w (fun v w1 => v = .bool (fewB n m 9) ∧ w1 = w) := by
  refine Fn.enter (n := 17) Try.func67 rfl rfl rfl ?_
  show WC _ _ _ _ [(0, vint n), (1, vint m)] _
  refine WC.seq ?_
  refine WC.region ?_
  refine WL.u rfl rfl (Wt.plain rfl) (Ex.assign rfl) ?_
  refine WL.next ?_
  refine WC.seq ?_
  refine WC.region ?_
  refine WL.u rfl rfl (Wt.plain rfl) (Ex.move rfl) ?_
  refine WL.call callable76 rfl (Wt.plain rfl) rfl rfl (sl6In n 1 5 _) ?_
  rintro _ _ ⟨rfl, hw⟩; obtain rfl := hw.symm
  refine WL.u rfl rfl (Wt.plain rfl) (Ex.move rfl) ?_
  refine WL.split (t := 7) rfl (fun hg1_2 => ?_) (fun hg1_2 => ?_)
  · have hg1_2' := hg1_2; try simp only [decide_eq_true_eq, decide_eq_false_iff_not, Bool.not_eq_true', Bool.not_eq_false', Bool.not_eq_true, Bool.not_eq_false] at hg1_2'
    refine WL.u rfl rfl (Wt.guard' rfl rfl rfl hg1_2 rfl) (Ex.move rfl) ?_
    refine WL.call callable76 rfl (Wt.guard' rfl rfl rfl hg1_2 rfl) rfl rfl (sl6In m 1 5 _) ?_
    rintro _ _ ⟨rfl, hw⟩; obtain rfl := hw.symm
    refine WL.u rfl rfl (Wt.plain rfl) (Ex.pickT rfl hg1_2 rfl) ?_
    refine WL.u rfl rfl (Wt.plain rfl) (Ex.move rfl) ?_
    refine WL.split (t := 11) rfl (fun hg1_6 => ?_) (fun hg1_6 => ?_)
    · have hg1_6' := hg1_6; try simp only [decide_eq_true_eq, decide_eq_false_iff_not, Bool.not_eq_true', Bool.not_eq_false', Bool.not_eq_true, Bool.not_eq_false] at hg1_6'
      have hmb := mulB n m (by omega) (by omega)
      refine WL.u rfl rfl (Wt.guard' rfl rfl rfl hg1_6 rfl) (Ex.move rfl) ?_
      refine WL.u rfl rfl (Wt.guard' rfl rfl rfl hg1_6 rfl) (Ex.move rfl) ?_
      refine WL.u rfl rfl (Wt.guard' rfl rfl rfl hg1_6 rfl) (Ex.mul rfl rfl (by omega)) ?_
      refine WL.u rfl rfl (Wt.guard' rfl rfl rfl hg1_6 rfl) (Ex.leq rfl rfl) ?_
      refine WL.u rfl rfl (Wt.plain rfl) (Ex.pickT rfl hg1_6 rfl) ?_
      refine WL.u rfl rfl (Wt.plain rfl) (Ex.assign rfl) ?_
      refine WL.next ?_
      refine WC.ret ?_
      refine WN.body1 rfl rfl ?_
      exact ⟨congrArg Value.bool (decide_eq_decide.2 (by omega)), rfl⟩
    have hg1_6' := hg1_6; try simp only [decide_eq_true_eq, decide_eq_false_iff_not, Bool.not_eq_true', Bool.not_eq_false', Bool.not_eq_true, Bool.not_eq_false] at hg1_6'
    refine WL.pass rfl rfl (Wt.guard' rfl rfl rfl hg1_6 rfl) ?_
    refine WL.pass rfl rfl (Wt.guard' rfl rfl rfl hg1_6 rfl) ?_
    refine WL.pass rfl rfl (Wt.guard' rfl rfl rfl hg1_6 rfl) ?_
    refine WL.pass rfl rfl (Wt.guard' rfl rfl rfl hg1_6 rfl) ?_
    refine WL.u rfl rfl (Wt.plain rfl) (Ex.pickF rfl hg1_6 rfl) ?_
    refine WL.u rfl rfl (Wt.plain rfl) (Ex.assign rfl) ?_
    refine WL.next ?_
    refine WC.ret ?_
    refine WN.body1 rfl rfl ?_
    refine ⟨congrArg Value.bool (decide_eq_false (by omega)).symm, rfl⟩
  have hg1_2' := hg1_2; try simp only [decide_eq_true_eq, decide_eq_false_iff_not, Bool.not_eq_true', Bool.not_eq_false', Bool.not_eq_true, Bool.not_eq_false] at hg1_2'
  refine WL.pass rfl rfl (Wt.guard' rfl rfl rfl hg1_2 rfl) ?_
  refine WL.pass rfl rfl (Wt.guard' rfl rfl rfl hg1_2 rfl) ?_
  refine WL.u rfl rfl (Wt.plain rfl) (Ex.pickF rfl hg1_2 rfl) ?_
  refine WL.u rfl rfl (Wt.plain rfl) (Ex.move rfl) ?_
  refine WL.pass rfl rfl (Wt.guard' rfl rfl rfl rfl rfl) ?_
  refine WL.pass rfl rfl (Wt.guard' rfl rfl rfl rfl rfl) ?_
  refine WL.pass rfl rfl (Wt.guard' rfl rfl rfl rfl rfl) ?_
  refine WL.pass rfl rfl (Wt.guard' rfl rfl rfl rfl rfl) ?_
  refine WL.u rfl rfl (Wt.plain rfl) (Ex.pickF rfl rfl rfl) ?_
  refine WL.u rfl rfl (Wt.plain rfl) (Ex.assign rfl) ?_
  refine WL.next ?_
  refine WC.ret ?_
  refine WN.body1 rfl rfl ?_
  refine ⟨congrArg Value.bool (decide_eq_false (by omega)).symm, rfl⟩

theorem sCountPorts (n m : Int) (w : World) : Fn Try.prog 23 [vint n, vint m] w (fun v w1 => ∃ x, v = .tuple #[x, .bool (countPorts n m).2] ∧ Keep [] w w1 ∧ New rInt 3 w w1 x (countPorts n m).1) := by
  refine Fn.enter (n := 46) Try.func23 rfl rfl rfl ?_
  show WC _ _ _ _ [(0, vint n), (1, vint m)] _
  have hH := Hp.start [] w
  refine WC.seq ?_
  refine WC.region ?_
  refine WL.u rfl rfl (Wt.plain rfl) (Ex.assign rfl) ?_
  refine WL.u rfl rfl (Wt.plain rfl) (Ex.assign rfl) ?_
  refine WL.next ?_
  refine WC.seq ?_
  refine WC.seq ?_
  refine WC.region ?_
  refine WL.u rfl rfl (Wt.plain rfl) (Ex.move rfl) ?_
  refine WL.u rfl rfl (Wt.plain rfl) (Ex.move rfl) ?_
  refine WL.call callable67 rfl (Wt.plain rfl) rfl rfl (sl10Given _ _ _) ?_
  rintro _ _ ⟨rfl, hw⟩; obtain rfl := hw.symm
  refine WL.u rfl rfl (Wt.plain rfl) (Ex.not rfl) ?_
  refine WL.next ?_
  refine WC.cond rfl (fun hc1 => ?_) (fun hc1 => ?_)
  · have hc1' := hc1; try simp only [decide_eq_true_eq, decide_eq_false_iff_not, Bool.not_eq_true', Bool.not_eq_false', Bool.not_eq_true, Bool.not_eq_false] at hc1'
    have hfw : fewB n m 9 = false := by simpa using hc1
    refine WC.seq ?_
    refine WC.region ?_
    refine WL.lit0 Try.underlying22 ty3 rfl (Wt.plain rfl) hH (fun b15 wn hb15 hk15 hH => ?_)
    have ho15 := Own.nil rInt
    refine WL.u rfl rfl (Wt.plain rfl) (Ex.assign rfl) ?_
    refine WL.u rfl rfl (Wt.plain rfl) (Ex.assign rfl) ?_
    refine WL.next ?_
    refine WC.ret ?_
    refine WN.retThen ?_
    refine WN.body2 rfl rfl rfl ?_
    have e : countPorts n m = ([], false) := by rw [countPorts, hfw]; rfl
    exact ⟨_, by rw [e], hH.keep, by rw [e]; exact New.of hH ho15 (hH.base 0 rfl)⟩
  have hc1' := hc1; try simp only [decide_eq_true_eq, decide_eq_false_iff_not, Bool.not_eq_true', Bool.not_eq_false', Bool.not_eq_true, Bool.not_eq_false] at hc1'
  have hfw : fewB n m 9 = true := by simpa using hc1
  obtain ⟨n, m, rfl, rfl, h1, h2, h3, h4, h9⟩ := fewB_ex hfw
  have hp9 := pow9 h9
  have hmI : (n : Int) * (m : Int) = ((n * m : Nat) : Int) := (Int.natCast_mul n m).symm
  refine WC.skip ?_
  refine WN.next ?_
  refine WC.seq ?_
  refine WC.region ?_
  refine WL.u rfl rfl (Wt.plain rfl) (Ex.move rfl) ?_
  refine WL.u rfl rfl (Wt.plain rfl) (Ex.move rfl) ?_
  refine WL.call callable68 rfl (Wt.plain rfl) rfl rfl (sl2Ports n m _ (by omega) (by omega)) ?_
  rintro _ _ ⟨hv, hw⟩; obtain rfl := hw.symm; obtain rfl := hv.trans (congrArg (Value.int IntKind.i64) (show _ = ((2 * (n + m) : Nat) : Int) by omega))
  refine WL.makeSlice Try.underlying22 ty3 rfl rfl (by omega) (by omega) rfl (Wt.plain rfl) hH (fun b19 wn hb19 hk19 hH => ?_)
  have ho19 := Own.made rInt (z := vint 0) 0 rfl rfl (k := 2 * (n + m)) (by omega)
  refine WL.u rfl rfl (Wt.plain rfl) (Ex.assign rfl) ?_
  refine WL.next ?_
  refine WC.seq ?_
  refine WC.seq ?_
  refine WC.region ?_
  refine WL.u rfl rfl (Wt.plain rfl) (Ex.assign rfl) ?_
  refine WL.next ?_
  refine WC.block ?_
  refine WC.loop (ι := Nat × (Array Value) × (List Int)) (fun (i, cur19, l) => [(0, vint n), (1, vint m), (6, vsl b19 (2 * (n + m)) (2 * (n + m))), (7, vint i)]) (fun (i, cur19, l) wn => Hp [] w wn [(b19, .cells cur19 3 (0, 0))] ∧ Own rInt cur19 (2 * (n + m)) l ∧ l = cntBy (endF n m) (2 * n + 2 * m) i ∧ i ≤ 2 ^ (n * m)) (fun (i, cur19, l) => 2 ^ (n * m) - i) ((0, madeCells (vint 0).cells (2 * (n + m) * 1), List.replicate (2 * (n + m)) 0)) (by exact ⟨rfl, rfl, rfl, rfl, trivial⟩) ?_ ?_
  · exact ⟨hH, ho19, by rw [cntBy, Nat.mul_add], Nat.zero_le _⟩
  rintro ⟨i, cur19, l⟩ wn ⟨hH, ho19, hl, hi⟩
  intro mu0 hmu; try dsimp only at hmu
  show WC _ _ _ _ [(0, vint n), (1, vint m), (6, vsl b19 (2 * (n + m)) (2 * (n + m))), (7, vint i)] _
  refine WC.seq ?_
  refine WC.seq ?_
  refine WC.region ?_
  refine WL.u rfl rfl (Wt.plain rfl) (Ex.move rfl) ?_
  refine WL.u rfl rfl (Wt.plain rfl) (Ex.move rfl) ?_
  refine WL.u rfl rfl (Wt.plain rfl) (Ex.move rfl) ?_
  refine WL.u rfl rfl (Wt.plain rfl) ((Ex.mul rfl rfl (by omega)).to (congrArg (Value.int IntKind.i64) hmI)) ?_
  refine WL.u rfl rfl (Wt.plain rfl) ((Ex.shl1 rfl (by omega))) ?_
  refine WL.u rfl rfl (Wt.plain rfl) (Ex.lss rfl rfl) ?_
  refine WL.next ?_
  refine WC.cond rfl (fun hc2 => ?_) (fun hc2 => ?_)
  · have hc2' := hc2; try simp only [decide_eq_true_eq, decide_eq_false_iff_not, Bool.not_eq_true', Bool.not_eq_false', Bool.not_eq_true, Bool.not_eq_false] at hc2'
    have hlt : i < 2 ^ (n * m) := by omega
    have he := endF_lt i h1 h2 h3 h4
    have hcl := cntBy_len (endF n m) (2 * n + 2 * m) i
    have hcb := cntBy_bound (endF n m) (2 * n + 2 * m) i (fun j _ => endF_lt j h1 h2 h3 h4) (endF n m i)
    rw [← hl] at hcl hcb
    refine WC.skip ?_
    refine WN.next ?_
    refine WC.seq ?_
    refine WC.block ?_
    refine WC.seq ?_
    refine WC.region ?_
    refine WL.u rfl rfl (Wt.plain rfl) (Ex.move rfl) ?_
    refine WL.u rfl rfl (Wt.plain rfl) (Ex.move rfl) ?_
    refine WL.u rfl rfl (Wt.plain rfl) (Ex.move rfl) ?_
    refine WL.call callable70 rfl (Wt.plain rfl) rfl rfl (sl3Mirrors n m i _ (by omega) (by omega) (by omega)) ?_
    rintro _ wn ⟨hC, hN⟩; obtain ⟨b32, cap32, cur32, rfl, hge32, hbb32, ho32⟩ := hN.own; replace hH := hH.push hC hge32 hbb32; clear hC hN
    refine WL.call callable69 rfl (Wt.plain rfl) rfl rfl (sl2Way (full n m i) _ _ 0 _ (ho32.slAt hH 0 rfl) (full_ok i h1 h2 h3 h4) (by rw [show ports (full n m i) = 2 * n + 2 * m from gridOf_ports m _ h1]; omega)) ?_
    rintro _ wn ⟨x, y, rfl, hC, hN1, hN2⟩; replace hH := hH.call hC
    refine WL.u rfl rfl (Wt.plain rfl) (Ex.move rfl) ?_
    refine WL.u rfl rfl (Wt.plain rfl) (Ex.extract rfl rfl) ?_
    refine WL.u rfl rfl (Wt.plain rfl) (Ex.extract rfl rfl) ?_
    refine WL.u rfl rfl (Wt.plain rfl) (Ex.extract rfl rfl) ?_
    refine WL.u rfl rfl (Wt.plain rfl) (Ex.assign rfl) ?_
    refine WL.u rfl rfl (Wt.plain rfl) (Ex.assign rfl) ?_
    refine WL.u rfl rfl (Wt.plain rfl) (Ex.assign rfl) ?_
    refine WL.next ?_
    have hee : (way (full n m i) 0).2 = endF n m i := rfl
    rw [hee]
    refine WC.region ?_
    refine WL.u rfl rfl (Wt.plain rfl) (Ex.move rfl) ?_
    refine WL.u rfl rfl (Wt.plain rfl) (Ex.move rfl) ?_
    refine WL.u rfl rfl (Wt.plain rfl) (Ex.move rfl) ?_
    refine WL.u rfl rfl (Wt.plain rfl) (Ex.move rfl) ?_
    refine WL.u rfl rfl (Wt.plain rfl) (Ex.indexAddr Try.underlying22 ty3 rfl rfl (by omega)) ?_
    replace hH := hH.f1
    refine WL.u rfl rfl (Wt.plain rfl) (Ex.loadHp flat3 rfl hH (ho19.get rfl (getD_get l (endF n m i) 0 (by omega)))) ?_
    refine WL.u rfl rfl (Wt.plain rfl) (Ex.add rfl rfl (by omega)) ?_
    refine WL.u rfl rfl (Wt.plain rfl) (Ex.indexAddr Try.underlying22 ty3 rfl rfl (by omega)) ?_
    refine WL.store1 ty3 rfl rfl rfl (Wt.plain rfl) hH (ho19.idx rfl (by omega)) (by simp) (fun wn hk hH => ?_)
    replace ho19 := ho19.set rfl (endF n m i) (l.getD (endF n m i) 0 + 1)
    refine WL.last ?_
    refine WN.normalBlock ?_
    refine WN.next ?_
    refine WC.region ?_
    refine WL.u rfl rfl (Wt.plain rfl) (Ex.move rfl) ?_
    refine WL.u rfl rfl (Wt.plain rfl) (Ex.add rfl rfl (by omega)) ?_
    refine WL.u rfl rfl (Wt.plain rfl) (Ex.assign rfl) ?_
    refine WL.last ?_
    replace hH := hH.first1
    refine WN.round (i + 1, cur19.setIfInBounds (0 + (endF n m i : Int).toNat * 1) (rInt.val (l.getD (endF n m i) 0 + 1)), l.set (endF n m i) (l.getD (endF n m i) 0 + 1)) (by exact ⟨rfl, rfl, rfl, rfl, trivial⟩) ?_ ?_
    · exact ⟨hH, ho19, by rw [cntBy, ← hl]; rfl, by omega⟩
    · (try dsimp only); omega
  have hc2' := hc2; try simp only [decide_eq_true_eq, decide_eq_false_iff_not, Bool.not_eq_true', Bool.not_eq_false', Bool.not_eq_true, Bool.not_eq_false] at hc2'
  refine WC.exit ?_
  refine WN.exitThen ?_
  refine WN.exitThen ?_
  refine WN.exitHere ?_
  refine WN.next ?_
  refine WC.seq ?_
  refine WC.region ?_
  refine WL.u rfl rfl (Wt.plain rfl) (Ex.move rfl) ?_
  refine WL.u rfl rfl (Wt.plain rfl) (Ex.assign rfl) ?_
  refine WL.u rfl rfl (Wt.plain rfl) (Ex.assign rfl) ?_
  refine WL.next ?_
  refine WC.ret ?_
  refine WN.body2 rfl rfl rfl ?_
  have hiN : i = 2 ^ (n * m) := by omega
  rw [hiN] at hl
  have hll : l.length = 2 * (n + m) := by rw [hl, cntBy_len]; omega
  have e := countPorts_at hfw
  exact ⟨_, by rw [e], hH.keep, by rw [e, ← hl]; have := New.of hH ho19 (hH.base 0 rfl); rw [hll] at this; exact this⟩

theorem iCountPorts1 (g : Grid) (a : Option Addr) (cap b17 b6 P : Nat) (cur : Array Value) (l : List Int) (w : World) (hg : Sl rStr w a g) (hG : GridOk g) (hpl : ports g = l.length) (hb : w.heap[b17]? = some (.cells cur 3 (0, 0))) (ho17 : Own rInt cur P l) (h6 : w.cell? ⟨b6, 0, none⟩ = some (vsl b17 l.length P)) (hne : b6 ∉ [b17]) (hbd : ∀ j, 0 ≤ l.getD j 0 ∧ l.getD j 0 ≤ 1000000) : Fn Try.prog 73 [.slice a g.length cap, vptr b6 0] w (fun v w1 => ∃ cur1, Keep [b17] w w1 ∧ w1.heap[b17]? = some (.cells cur1 3 (0, 0)) ∧ Own rInt cur1 P (bump l (way g 0).2)) := by
  refine Fn.enter (n := 16) Try.func73 rfl rfl rfl ?_
  show WC _ _ _ _ [(0, .slice a g.length cap), (1, vptr b6 0)] _
  have hH := Hp.at1 hb
  have hga : Sl rStr w a g := hg
  have hp0 : 0 < ports g := by have := hG.n1; unfold ports; dsimp only [nR]; omega
  have hwe := way_end hG.sz hp0
  refine WC.seq ?_
  refine WC.region ?_
  refine WL.u rfl rfl (Wt.plain rfl) (Ex.move rfl) ?_
  refine WL.call callable74 rfl (Wt.plain rfl) rfl rfl (ibeam _ _ _ 0 _ hg hG hp0) ?_
  rintro _ wn ⟨x, rfl, hC, hN⟩; replace hH := hH.call hC
  refine WL.u rfl rfl (Wt.plain rfl) (Ex.move rfl) ?_
  refine WL.u rfl rfl (Wt.plain rfl) (Ex.extract rfl rfl) ?_
  refine WL.u rfl rfl (Wt.plain rfl) (Ex.extract rfl rfl) ?_
  refine WL.u rfl rfl (Wt.plain rfl) (Ex.assign rfl) ?_
  refine WL.u rfl rfl (Wt.plain rfl) (Ex.assign rfl) ?_
  refine WL.next ?_
  refine WC.region ?_
  refine WL.u rfl rfl (Wt.plain rfl) (Ex.load flat22 rfl (hH.keep.cell h6 hne)) ?_
  refine WL.u rfl rfl (Wt.plain rfl) (Ex.move rfl) ?_
  refine WL.u rfl rfl (Wt.plain rfl) (Ex.indexAddr Try.underlying22 ty3 rfl rfl (by omega)) ?_
  refine WL.u rfl rfl (Wt.plain rfl) (Ex.loadHp flat3 rfl hH (ho17.get rfl (getD_get l (way g 0).2 0 (by omega)))) ?_
  have hbe := hbd (way g 0).2
  refine WL.u rfl rfl (Wt.plain rfl) (Ex.add rfl rfl (by omega)) ?_
  refine WL.u rfl rfl (Wt.plain rfl) (Ex.indexAddr Try.underlying22 ty3 rfl rfl (by omega)) ?_
  refine WL.store1 ty3 rfl rfl rfl (Wt.plain rfl) hH (ho17.idx rfl (by omega)) (by simp) (fun wn hk hH => ?_)
  replace ho17 := ho17.set rfl (way g 0).2 (l.getD (way g 0).2 0 + 1)
  refine WL.last ?_
  refine WN.body0n rfl ?_
  exact ⟨_, hH.keep, hH.at 0 rfl, ho17⟩


def CJ (n m b17 b6 : Nat) (i : Nat) (U : List Nat) (w : World) : Prop := U = [b17] ∧ ∃ cur, w.heap[b17]? = some (.cells cur 3 (0, 0)) ∧ Own rInt cur (2 * n + 2 * m) (cntBy (endF n m) (2 * n + 2 * m) i) ∧ w.cell? ⟨b6, 0, none⟩ = some (vsl b17 (2 * n + 2 * m) (2 * n + 2 * m))
theorem eachCP {n m b17 b6 : Nat} {w : World} (h1 : 1 ≤ n) (h2 : n ≤ 5) (h3 : 1 ≤ m) (h4 : m ≤ 5) (h9 : 2 ^ (n * m) ≤ 512) (hlt : b17 < w.heap.size) (hne : b6 ∉ [b17]) (h0 : CJ n m b17 b6 0 [b17] w) : Each Try.prog 73 [vptr b6 0] (full n m) (2 ^ (n * m)) [b17] (CJ n m b17 b6) w where
  fn := callable73
  lt := fun k hk => by rw [List.mem_singleton.1 hk]; exact hlt
  keep := fun i U w2 w3 ⟨hU, cur, hb, ho, hc⟩ hk => ⟨hU, cur, hk.heap hb (by simp), ho, hk.cell hc (by simp)⟩
  start := h0
  call := fun w2 i b cap cur2 U hK hi ⟨hU, cur, hb, ho, hc⟩ hl hbU _ hbg hog => by
    have hg := hog.sl0 hbg
    subst hU
    have hp : ports (full n m i) = 2 * n + 2 * m := gridOf_ports m _ h1
    have hcl := cntBy_len (endF n m) (2 * n + 2 * m) i
    refine (iCountPorts1 (full n m i) _ cap b17 b6 (2 * n + 2 * m) cur _ w2 hg (full_ok i h1 h2 h3 h4) (by rw [hp, hcl]) hb ho (by rw [hcl]; exact hc) hne (fun j => by
      have := cntBy_bound (endF n m) (2 * n + 2 * m) i (fun j _ => endF_lt j h1 h2 h3 h4) j; omega)).mono fun v w3 ⟨cur1, hk, hb1, ho1⟩ => ⟨[b17], ⟨rfl, cur1, hb1, ho1, hk.cell hc hne⟩, hk, fun k hk => .inl hk⟩

theorem iCountPorts (n m : Int) (w : World) : Fn Try.prog 24 [vint n, vint m] w (fun v w1 => ∃ x, v = .tuple #[x, .bool (countPorts n m).2] ∧ Keep [] w w1 ∧ New rInt 3 w w1 x (countPorts n m).1) := by
  refine Fn.enter (n := 23) Try.func24 rfl rfl rfl ?_
  show WC _ _ _ _ [(0, vint n), (1, vint m)] _
  have hH := Hp.start [] w
  refine WC.seq ?_
  refine WC.region ?_
  refine WL.u rfl rfl (Wt.plain rfl) (Ex.assign rfl) ?_
  refine WL.u rfl rfl (Wt.plain rfl) (Ex.assign rfl) ?_
  refine WL.next ?_
  refine WC.seq ?_
  refine WC.seq ?_
  refine WC.region ?_
  refine WL.u rfl rfl (Wt.plain rfl) (Ex.move rfl) ?_
  refine WL.u rfl rfl (Wt.plain rfl) (Ex.move rfl) ?_
  refine WL.call callable71 rfl (Wt.plain rfl) rfl rfl (ifewOk _ _ _ _) ?_
  rintro _ _ ⟨rfl, hw⟩; obtain rfl := hw.symm
  refine WL.u rfl rfl (Wt.plain rfl) (Ex.not rfl) ?_
  refine WL.next ?_
  refine WC.cond rfl (fun hc1 => ?_) (fun hc1 => ?_)
  · have hc1' := hc1; try simp only [decide_eq_true_eq, decide_eq_false_iff_not, Bool.not_eq_true', Bool.not_eq_false', Bool.not_eq_true, Bool.not_eq_false] at hc1'
    have hfw : fewB n m 9 = false := by simpa using hc1
    refine WC.seq ?_
    refine WC.region ?_
    refine WL.lit0 Try.underlying22 ty3 rfl (Wt.plain rfl) hH (fun b11 wn hb11 hk11 hH => ?_)
    have ho11 := Own.nil rInt
    refine WL.u rfl rfl (Wt.plain rfl) (Ex.assign rfl) ?_
    refine WL.u rfl rfl (Wt.plain rfl) (Ex.assign rfl) ?_
    refine WL.next ?_
    refine WC.ret ?_
    refine WN.retThen ?_
    refine WN.body2 rfl rfl rfl ?_
    have e : countPorts n m = ([], false) := by rw [countPorts, hfw]; rfl
    exact ⟨_, by rw [e], hH.keep, by rw [e]; exact New.of hH ho11 (hH.base 0 rfl)⟩
  have hc1' := hc1; try simp only [decide_eq_true_eq, decide_eq_false_iff_not, Bool.not_eq_true', Bool.not_eq_false', Bool.not_eq_true, Bool.not_eq_false] at hc1'
  have hfw : fewB n m 9 = true := by simpa using hc1
  obtain ⟨n, m, rfl, rfl, h1, h2, h3, h4, h9⟩ := fewB_ex hfw
  have hp9 := pow9 h9
  refine WC.skip ?_
  refine WN.next ?_
  refine WC.seq ?_
  refine WC.region ?_
  refine WL.u rfl rfl (Wt.plain rfl) (Ex.move rfl) ?_
  refine WL.u rfl rfl (Wt.plain rfl) (Ex.mul rfl rfl (by omega)) ?_
  refine WL.u rfl rfl (Wt.plain rfl) (Ex.move rfl) ?_
  refine WL.u rfl rfl (Wt.plain rfl) (Ex.mul rfl rfl (by omega)) ?_
  refine WL.u rfl rfl (Wt.plain rfl) ((Ex.add rfl rfl (by omega)).to (congrArg (Value.int IntKind.i64) (show _ = ((2 * n + 2 * m : Nat) : Int) by omega))) ?_
  refine WL.makeSlice Try.underlying22 ty3 rfl rfl (by omega) (by omega) rfl (Wt.plain rfl) hH (fun b17 wn hb17 hk17 hH => ?_)
  have ho17 := Own.made rInt (z := vint 0) 0 rfl rfl (k := 2 * n + 2 * m) (by omega)
  refine WL.alloc ty22 rfl rfl (Wt.plain rfl) hH (fun b6 wn hb6 hk6 hH => ?_)
  refine WL.store1 ty22 rfl rfl rfl (Wt.plain rfl) hH (by first | decide | simp) rfl (fun wn hk hH => ?_)
  refine WL.next ?_
  refine WC.seq ?_
  replace hH := hH.f1
  refine WC.region ?_
  refine WL.u rfl rfl (Wt.plain rfl) (Ex.move rfl) ?_
  refine WL.u rfl rfl (Wt.plain rfl) (Ex.move rfl) ?_
  refine WL.u rfl rfl (Wt.plain rfl) (Ex.makeFunc rfl) ?_
  refine WL.call callable72 rfl (Wt.plain rfl) rfl rfl (ifullGrids n m 73 _ [vptr b6 0] [b17] (CJ n m b17 b6) _ rfl h1 h2 h4 (eachCP h1 h2 h3 h4 hp9 (hH.lt 0 rfl) (by have := hH.nin 1 0 rfl rfl rfl; exact this) ⟨rfl, _, hH.at 0 rfl, ho17, hH.cellAt 1 rfl 0 rfl⟩)) ?_
  rintro _ wn ⟨U, ⟨hUe, cur2, hb2, ho2, hc6⟩, hK, hU⟩; replace hH := hH.turn hK hb2
  refine WL.next ?_
  refine WC.seq ?_
  refine WC.region ?_
  refine WL.u rfl rfl (Wt.plain rfl) (Ex.load flat22 rfl hc6) ?_
  refine WL.u rfl rfl (Wt.plain rfl) (Ex.assign rfl) ?_
  refine WL.u rfl rfl (Wt.plain rfl) (Ex.assign rfl) ?_
  refine WL.next ?_
  refine WC.ret ?_
  refine WN.body2 rfl rfl rfl ?_
  have e := countPorts_at hfw
  have hll := cntBy_len (endF n m) (2 * n + 2 * m) (2 ^ (n * m))
  exact ⟨_, by rw [e], hH.keep, by rw [e]; have := New.of hH ho2 (hH.base 0 rfl); rw [hll] at this; exact this⟩

end Go.Proofs.Ytmdjekikefbhpaa
