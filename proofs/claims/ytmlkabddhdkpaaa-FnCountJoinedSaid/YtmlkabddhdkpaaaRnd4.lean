/- Counts of full grids by their rounds: the reference's; the laws. -/
import Derived.Test.YtmlkabddhdkpaaaRnd3
import Derived.Test.YtmlkabddhdkpaaaJnLc
namespace Go.Proofs.Ytmlkabddhdkpaaa
set_option maxRecDepth 100000
set_option linter.unusedSimpArgs false
set_option linter.unusedVariables false
open Go Go.RowKit
theorem pad_done {l q : List Int} {e : Nat} (h : q = l ++ List.replicate (q.length - l.length) 0) (h1 : e < q.length) (h2 : q.length ≤ Max.max l.length (e + 1)) (h3 : l.length ≤ q.length) : q = padL l (e + 1) := by
  rw [h]
  unfold padL
  congr 2
  omega
theorem growL_bd (f : Nat → Nat) (k : Nat) (j : Nat) : 0 ≤ (growL f k).getD j 0 ∧ (growL f k).getD j 0 ≤ (k : Int) := by
  have := tally_le f j k
  rw [growL_get]; omega
theorem countRounds_len (n m : Int) : (countRounds n m).1.length ≤ 1000 := by
  unfold countRounds
  split
  · next h =>
    obtain ⟨n, m, rfl, rfl, h1, h2, h3, h4, h9⟩ := fewB_ex h
    show (rCnt _ _).length ≤ 1000
    rw [rCnt_len, Int.toNat_natCast, Int.toNat_natCast]
    have := mxN_lt (f := rF n m) (B := 101) (by decide) (2 ^ (n * m)) (fun i _ => rF_lt (few_of h1 h2 h3 h4 h9) i)
    omega
  · simp
theorem countRounds_bd (n m : Int) (j : Nat) : 0 ≤ (countRounds n m).1.getD j 0 ∧ (countRounds n m).1.getD j 0 ≤ 1000 := by
  unfold countRounds
  split
  · next h =>
    obtain ⟨n, m, rfl, rfl, h1, h2, h3, h4, h9⟩ := fewB_ex h
    show 0 ≤ (rCnt _ _).getD j 0 ∧ (rCnt _ _).getD j 0 ≤ 1000
    rw [rCnt_get, Int.toNat_natCast, Int.toNat_natCast]
    have := tally_le (rF n m) j (2 ^ (n * m))
    have := pow9 h9
    omega
  · simp
theorem countRounds_ok (n m : Int) : (countRounds n m).2 = fewB n m 9 := by
  unfold countRounds
  split
  · next h => exact h.symm
  · next h => simpa using h
def countTotal (n m : Int) : Int × Bool := (wsum (countRounds n m).1 (countRounds n m).1.length, (countRounds n m).2)
theorem fewB_swap {n m : Nat} (h : fewB n m 9 = true) : fewB m n 9 = true := by
  obtain ⟨n2, m2, e1, e2, h1, h2, h3, h4, h9⟩ := fewB_ex h
  obtain rfl : n = n2 := by omega
  obtain rfl : m = m2 := by omega
  rw [Nat.mul_comm] at h9
  have hmI : (m : Int) * (n : Int) = ((m * n : Nat) : Int) := (Int.natCast_mul m n).symm
  unfold fewB
  exact decide_eq_true (by omega)

theorem sl10Add (l : List Int) (b2 off2 cap e : Nat) (x : Int) (w : World) (hl : Sl rInt w (some ⟨b2, off2, none⟩) l) (hlen : l.length ≤ 1000) (he : e ≤ 1000) (hx : -1000000 ≤ x ∧ x ≤ 1000000) (hbd : ∀ j, -1000000 ≤ l.getD j 0 ∧ l.getD j 0 ≤ 1000000) : Fn Try.prog 18 [.slice (some ⟨b2, off2, none⟩) l.length cap, vint e, vint x] w (fun v w1 => Keep [] w w1 ∧ New rInt 3 w w1 v (addL l e x)) := by
  refine Fn.enter (n := 28) Try.func18 rfl rfl rfl ?_
  show WC _ _ _ _ [(0, .slice (some ⟨b2, off2, none⟩) l.length cap), (1, vint e), (2, vint x)] _
  have hH := Hp.start [] w
  refine WC.seq ?_
  refine WC.region ?_
  refine WL.u rfl rfl (Wt.plain rfl) (Ex.assign rfl) ?_
  refine WL.next ?_
  refine WC.seq ?_
  refine WC.region ?_
  refine WL.lit0 Try.underlying22 ty3 rfl (Wt.plain rfl) hH (fun b8 wn hb8 hk8 hH => ?_)
  have ho8 := Own.nil rInt
  refine WL.u rfl rfl (Wt.plain rfl) (Ex.move rfl) ?_
  refine WL.appendS (r := rInt) (m := l) Try.underlying22 ty3 rfl rfl rfl ((hl.kept hH.keep)) rfl (Wt.plain rfl) hH ho8 (by simp only [List.length_nil]; omega) (by simp only [List.length_nil]; omega) (fun b8 cap8 cur8 wn x8 hk8 hH ho8 => ?_)
  rw [List.nil_append] at ho8
  refine WL.u rfl rfl (Wt.plain rfl) (Ex.assign rfl) ?_
  refine WL.next ?_
  refine WC.seq ?_
  refine WC.block ?_
  refine WC.loop (ι := Nat × Nat × (Array Value) × (List Int)) (fun (b8, cap8, cur8, q) => [(1, vint e), (2, vint x), (7, vsl b8 q.length cap8)]) (fun (b8, cap8, cur8, q) wn => Hp [] w wn [(b8, .cells cur8 3 (0, 0))] ∧ Own rInt cur8 cap8 q ∧ q = l ++ List.replicate (q.length - l.length) 0 ∧ l.length ≤ q.length ∧ q.length ≤ Max.max l.length (e + 1)) (fun (b8, cap8, cur8, q) => e + 1 - q.length) ((b8, cap8, cur8, l)) (by exact ⟨rfl, rfl, rfl, trivial⟩) ?_ ?_
  · exact ⟨hH, ho8, by simp, Nat.le_refl _, by omega⟩
  rintro ⟨b8, cap8, cur8, q⟩ wn ⟨hH, ho8, hq, hlq, hqm⟩
  intro mu0 hmu; try dsimp only at hmu
  show WC _ _ _ _ [(1, vint e), (2, vint x), (7, vsl b8 q.length cap8)] _
  refine WC.seq ?_
  refine WC.seq ?_
  refine WC.region ?_
  refine WL.u rfl rfl (Wt.plain rfl) (Ex.move rfl) ?_
  refine WL.u rfl rfl (Wt.plain rfl) (Ex.lenSl Try.underlying22 rfl) ?_
  refine WL.u rfl rfl (Wt.plain rfl) (Ex.move rfl) ?_
  refine WL.u rfl rfl (Wt.plain rfl) (Ex.leq rfl rfl) ?_
  refine WL.next ?_
  refine WC.cond rfl (fun hc1 => ?_) (fun hc1 => ?_)
  · have hc1' := hc1; try simp only [decide_eq_true_eq, decide_eq_false_iff_not, Bool.not_eq_true', Bool.not_eq_false', Bool.not_eq_true, Bool.not_eq_false] at hc1'
    have hle : q.length ≤ e := by omega
    refine WC.skip ?_
    refine WN.next ?_
    refine WC.block ?_
    refine WC.region ?_
    refine WL.u rfl rfl (Wt.plain rfl) (Ex.move rfl) ?_
    refine WL.append1 (r := rInt) (u := (0 : Int)) Try.underlying22 ty3 rfl rfl (fun _ => rfl) (fun _ => rfl) rfl rfl (Wt.plain rfl) (fun _ => (Wt.plain rfl)) hH ho8 rfl (by omega) (by omega) (fun b8 cap8 cur8 wn x8 hb8 hk8 hH ho8 => ?_)
    refine WL.u rfl rfl (Wt.plain rfl) (Ex.assign rfl) ?_
    refine WL.last ?_
    refine WN.normalBlock ?_
    refine WN.round (b8, cap8, cur8, q ++ [0]) (by exact ⟨rfl, rfl, rfl, trivial⟩) ?_ ?_
    · refine ⟨hH, ho8, ?_, by simp; omega, by simp; omega⟩
      rw [List.length_append, List.length_singleton, show q.length + 1 - l.length = (q.length - l.length) + 1 by omega, List.replicate_succ', ← List.append_assoc, ← hq]
    · (try dsimp only); simp; omega
  have hc1' := hc1; try simp only [decide_eq_true_eq, decide_eq_false_iff_not, Bool.not_eq_true', Bool.not_eq_false', Bool.not_eq_true, Bool.not_eq_false] at hc1'
  have hpd := pad_done hq (show e < q.length by omega) hqm hlq
  have hge := padL_get l (e + 1) e
  rw [← hpd] at hge
  have hbe := hbd e
  refine WC.exit ?_
  refine WN.exitThen ?_
  refine WN.exitThen ?_
  refine WN.exitHere ?_
  refine WN.next ?_
  refine WC.seq ?_
  refine WC.region ?_
  refine WL.u rfl rfl (Wt.plain rfl) (Ex.move rfl) ?_
  refine WL.u rfl rfl (Wt.plain rfl) (Ex.move rfl) ?_
  refine WL.u rfl rfl (Wt.plain rfl) (Ex.move rfl) ?_
  refine WL.u rfl rfl (Wt.plain rfl) (Ex.move rfl) ?_
  refine WL.u rfl rfl (Wt.plain rfl) (Ex.indexAddr Try.underlying22 ty3 rfl rfl (by omega)) ?_
  refine WL.u rfl rfl (Wt.plain rfl) (Ex.loadHp flat3 rfl hH (ho8.get rfl (getD_get q e 0 (by omega)))) ?_
  refine WL.u rfl rfl (Wt.plain rfl) (Ex.move rfl) ?_
  refine WL.u rfl rfl (Wt.plain rfl) (Ex.add rfl rfl (by omega)) ?_
  refine WL.u rfl rfl (Wt.plain rfl) (Ex.indexAddr Try.underlying22 ty3 rfl rfl (by omega)) ?_
  refine WL.store1 ty3 rfl rfl rfl (Wt.plain rfl) hH (ho8.idx rfl (by omega)) (by simp) (fun wn hk hH => ?_)
  replace ho8 := ho8.set rfl e (q.getD e 0 + x)
  refine WL.next ?_
  refine WC.seq ?_
  refine WC.region ?_
  refine WL.u rfl rfl (Wt.plain rfl) (Ex.move rfl) ?_
  refine WL.u rfl rfl (Wt.plain rfl) (Ex.assign rfl) ?_
  refine WL.next ?_
  refine WC.ret ?_
  refine WN.body1 rfl rfl ?_
  have hN := New.of hH ho8 (hH.base 0 rfl)
  exact ⟨hH.keep, by rw [List.length_set] at hN; unfold addL; rw [← hpd, ← hge]; exact hN⟩

end Go.Proofs.Ytmlkabddhdkpaaa
