/- Counts of full grids by their rounds: the reference's; the laws. -/
import Derived.Test.YtjejdebmlgjdeaaRnd3
import Derived.Test.YtjejdebmlgjdeaaLawCP
namespace Go.Proofs.Ytjejdebmlgjdeaa
set_option maxRecDepth 100000
set_option linter.unusedSimpArgs false
set_option linter.unusedVariables false
open Go Go.RowKit
theorem pad_done {l q : List Int} {e : Nat} (h : q = l ++ List.replicate (q.length - l.length) 0) (h1 : e < q.length) (h2 : q.length ≤ Max.max l.length (e + 1)) (h3 : l.length ≤ q.length) : q = padL l (e + 1) := by
  rw [h]
  unfold padL
  congr 2
  omega
theorem growL_bd (f : Nat → Nat) (k : Nat) (j : Nat) : 0 ≤ (growL f k).getD j 0 ∧ (growL f k).getD j 0 ≤ (k : Int) := by
  have := tally_le f j k
  rw [growL_get]; omega
theorem countRounds_len (n m : Int) : (countRounds n m).1.length ≤ 1000 := by
  unfold countRounds
  split
  · next h =>
    obtain ⟨n, m, rfl, rfl, h1, h2, h3, h4, h9⟩ := fewB_ex h
    show (rCnt _ _).length ≤ 1000
    rw [rCnt_len, Int.toNat_natCast, Int.toNat_natCast]
    have := mxN_lt (f := rF n m) (B := 101) (by decide) (2 ^ (n * m)) (fun i _ => rF_lt (few_of h1 h2 h3 h4 h9) i)
    omega
  · simp
theorem countRounds_bd (n m : Int) (j : Nat) : 0 ≤ (countRounds n m).1.getD j 0 ∧ (countRounds n m).1.getD j 0 ≤ 1000 := by
  unfold countRounds
  split
  · next h =>
    obtain ⟨n, m, rfl, rfl, h1, h2, h3, h4, h9⟩ := fewB_ex h
    show 0 ≤ (rCnt _ _).getD j 0 ∧ (rCnt _ _).getD j 0 ≤ 1000
    rw [rCnt_get, Int.toNat_natCast, Int.toNat_natCast]
    have := tally_le (rF n m) j (2 ^ (n * m))
    have := pow9 h9
    omega
  · simp
theorem countRounds_ok (n m : Int) : (countRounds n m).2 = fewB n m 9 := by
  unfold countRounds
  split
  · next h => exact h.symm
  · next h => simpa using h
def countTotal (n m : Int) : Int × Bool := (wsum (countRounds n m).1 (countRounds n m).1.length, (countRounds n m).2)
theorem fewB_swap {n m : Nat} (h : fewB n m 9 = true) : fewB m n 9 = true := by
  obtain ⟨n2, m2, e1, e2, h1, h2, h3, h4, h9⟩ := fewB_ex h
  obtain rfl : n = n2 := by omega
  obtain rfl : m = m2 := by omega
  rw [Nat.mul_comm] at h9
  have hmI : (m : Int) * (n : Int) = ((m * n : Nat) : Int) := (Int.natCast_mul m n).symm
  unfold fewB
  exact decide_eq_true (by omega)

theorem sl10Add (l : List Int) (b2 off2 cap e : Nat) (x : Int) (w : World) (hl : Sl rInt w (some ⟨b2, off2, none⟩) l) (hlen : l.length ≤ 1000) (he : e ≤ 1000) (hx : -1000000 ≤ x ∧ x ≤ 1000000) (hbd : ∀ j, -1000000 ≤ l.getD j 0 ∧ l.getD j 0 ≤ 1000000) : Fn Try.prog 68 [.slice (some ⟨b2, off2, none⟩) l.length cap, vint e, vint x] w (fun v w1 => Keep [] w w1 ∧ New rInt 3 w w1 v (addL l e x)) := by
  refine Fn.enter (n := 28) Try.func68 rfl rfl rfl ?_
  show WC _ _ _ _ [(0, .slice (some ⟨b2, off2, none⟩) l.length cap), (1, vint e), (2, vint x)] _
  have hH := Hp.start [] w
  refine WC.seq ?_
  refine WC.region ?_
  refine WL.u rfl rfl (Wt.plain rfl) (Ex.assign rfl) ?_
  refine WL.next ?_
  refine WC.seq ?_
  refine WC.region ?_
  refine WL.lit0 Try.underlying38 ty3 rfl (Wt.plain rfl) hH (fun b8 wn hb8 hk8 hH => ?_)
  have ho8 := Own.nil rInt
  refine WL.u rfl rfl (Wt.plain rfl) (Ex.move rfl) ?_
  refine WL.appendS (r := rInt) (m := l) Try.underlying38 ty3 rfl rfl rfl ((hl.kept hH.keep)) rfl (Wt.plain rfl) hH ho8 (by simp only [List.length_nil]; omega) (by simp only [List.length_nil]; omega) (fun b8 cap8 cur8 wn x8 hk8 hH ho8 => ?_)
  rw [List.nil_append] at ho8
  refine WL.u rfl rfl (Wt.plain rfl) (Ex.assign rfl) ?_
  refine WL.next ?_
  refine WC.seq ?_
  refine WC.block ?_
  refine WC.loop (ι := Nat × Nat × (Array Value) × (List Int)) (fun (b8, cap8, cur8, q) => [(1, vint e), (2, vint x), (7, vsl b8 q.length cap8)]) (fun (b8, cap8, cur8, q) wn => Hp [] w wn [(b8, .cells cur8 3 (0, 0))] ∧ Own rInt cur8 cap8 q ∧ q = l ++ List.replicate (q.length - l.length) 0 ∧ l.length ≤ q.length ∧ q.length ≤ Max.max l.length (e + 1)) (fun (b8, cap8, cur8, q) => e + 1 - q.length) ((b8, cap8, cur8, l)) (by exact ⟨rfl, rfl, rfl, trivial⟩) ?_ ?_
  · exact ⟨hH, ho8, by simp, Nat.le_refl _, by omega⟩
  rintro ⟨b8, cap8, cur8, q⟩ wn ⟨hH, ho8, hq, hlq, hqm⟩
  intro mu0 hmu; try dsimp only at hmu
  show WC _ _ _ _ [(1, vint e), (2, vint x), (7, vsl b8 q.length cap8)] _
  refine WC.seq ?_
  refine WC.seq ?_
  refine WC.region ?_
  refine WL.u rfl rfl (Wt.plain rfl) (Ex.move rfl) ?_
  refine WL.u rfl rfl (Wt.plain rfl) (Ex.lenSl Try.underlying38 rfl) ?_
  refine WL.u rfl rfl (Wt.plain rfl) (Ex.move rfl) ?_
  refine WL.u rfl rfl (Wt.plain rfl) (Ex.leq rfl rfl) ?_
  refine WL.next ?_
  refine WC.cond rfl (fun hc1 => ?_) (fun hc1 => ?_)
  · have hc1' := hc1; try simp only [decide_eq_true_eq, decide_eq_false_iff_not, Bool.not_eq_true', Bool.not_eq_false', Bool.not_eq_true, Bool.not_eq_false] at hc1'
    have hle : q.length ≤ e := by omega
    refine WC.skip ?_
    refine WN.next ?_
    refine WC.block ?_
    refine WC.region ?_
    refine WL.u rfl rfl (Wt.plain rfl) (Ex.move rfl) ?_
    refine WL.append1 (r := rInt) (u := (0 : Int)) Try.underlying38 ty3 rfl rfl (fun _ => rfl) (fun _ => rfl) rfl rfl (Wt.plain rfl) (fun _ => (Wt.plain rfl)) hH ho8 rfl (by omega) (by omega) (fun b8 cap8 cur8 wn x8 hb8 hk8 hH ho8 => ?_)
    refine WL.u rfl rfl (Wt.plain rfl) (Ex.assign rfl) ?_
    refine WL.last ?_
    refine WN.normalBlock ?_
    refine WN.round (b8, cap8, cur8, q ++ [0]) (by exact ⟨rfl, rfl, rfl, trivial⟩) ?_ ?_
    · refine ⟨hH, ho8, ?_, by simp; omega, by simp; omega⟩
      rw [List.length_append, List.length_singleton, show q.length + 1 - l.length = (q.length - l.length) + 1 by omega, List.replicate_succ', ← List.append_assoc, ← hq]
    · (try dsimp only); simp; omega
  have hc1' := hc1; try simp only [decide_eq_true_eq, decide_eq_false_iff_not, Bool.not_eq_true', Bool.not_eq_false', Bool.not_eq_true, Bool.not_eq_false] at hc1'
  have hpd := pad_done hq (show e < q.length by omega) hqm hlq
  have hge := padL_get l (e + 1) e
  rw [← hpd] at hge
  have hbe := hbd e
  refine WC.exit ?_
  refine WN.exitThen ?_
  refine WN.exitThen ?_
  refine WN.exitHere ?_
  refine WN.next ?_
  refine WC.seq ?_
  refine WC.region ?_
  refine WL.u rfl rfl (Wt.plain rfl) (Ex.move rfl) ?_
  refine WL.u rfl rfl (Wt.plain rfl) (Ex.move rfl) ?_
  refine WL.u rfl rfl (Wt.plain rfl) (Ex.move rfl) ?_
  refine WL.u rfl rfl (Wt.plain rfl) (Ex.move rfl) ?_
  refine WL.u rfl rfl (Wt.plain rfl) (Ex.indexAddr Try.underlying38 ty3 rfl rfl (by omega)) ?_
  refine WL.u rfl rfl (Wt.plain rfl) (Ex.loadHp flat3 rfl hH (ho8.get rfl (getD_get q e 0 (by omega)))) ?_
  refine WL.u rfl rfl (Wt.plain rfl) (Ex.move rfl) ?_
  refine WL.u rfl rfl (Wt.plain rfl) (Ex.add rfl rfl (by omega)) ?_
  refine WL.u rfl rfl (Wt.plain rfl) (Ex.indexAddr Try.underlying38 ty3 rfl rfl (by omega)) ?_
  refine WL.store1 ty3 rfl rfl rfl (Wt.plain rfl) hH (ho8.idx rfl (by omega)) (by simp) (fun wn hk hH => ?_)
  replace ho8 := ho8.set rfl e (q.getD e 0 + x)
  refine WL.next ?_
  refine WC.seq ?_
  refine WC.region ?_
  refine WL.u rfl rfl (Wt.plain rfl) (Ex.move rfl) ?_
  refine WL.u rfl rfl (Wt.plain rfl) (Ex.assign rfl) ?_
  refine WL.next ?_
  refine WC.ret ?_
  refine WN.body1 rfl rfl ?_
  have hN := New.of hH ho8 (hH.base 0 rfl)
  exact ⟨hH.keep, by rw [List.length_set] at hN; unfold addL; rw [← hpd, ← hge]; exact hN⟩

theorem sCountRounds (n m : Int) (w : World) : Fn Try.prog 31 [vint n, vint m] w (fun v w1 => ∃ x, v = .tuple #[x, .bool (countRounds n m).2] ∧ Keep [] w w1 ∧ New rInt 3 w w1 x (countRounds n m).1) := by
  refine Fn.enter (n := 31) Try.func31 rfl rfl rfl ?_
  show WC _ _ _ _ [(0, vint n), (1, vint m)] _
  have hH := Hp.start [] w
  refine WC.seq ?_
  refine WC.region ?_
  refine WL.u rfl rfl (Wt.plain rfl) (Ex.assign rfl) ?_
  refine WL.u rfl rfl (Wt.plain rfl) (Ex.assign rfl) ?_
  refine WL.next ?_
  refine WC.seq ?_
  refine WC.region ?_
  refine WL.lit0 Try.underlying38 ty3 rfl (Wt.plain rfl) hH (fun b8 wn hb8 hk8 hH => ?_)
  have ho8 := Own.nil rInt
  refine WL.u rfl rfl (Wt.plain rfl) (Ex.assign rfl) ?_
  refine WL.next ?_
  refine WC.seq ?_
  refine WC.seq ?_
  refine WC.region ?_
  refine WL.u rfl rfl (Wt.plain rfl) (Ex.move rfl) ?_
  refine WL.u rfl rfl (Wt.plain rfl) (Ex.move rfl) ?_
  refine WL.call callable67 rfl (Wt.plain rfl) rfl rfl (sl10Given _ _ _) ?_
  rintro _ _ ⟨rfl, hw⟩; obtain rfl := hw.symm
  refine WL.u rfl rfl (Wt.plain rfl) (Ex.not rfl) ?_
  refine WL.next ?_
  refine WC.cond rfl (fun hc1 => ?_) (fun hc1 => ?_)
  · have hc1' := hc1; try simp only [decide_eq_true_eq, decide_eq_false_iff_not, Bool.not_eq_true', Bool.not_eq_false', Bool.not_eq_true, Bool.not_eq_false] at hc1'
    have hfw : fewB n m 9 = false := by simpa using hc1
    refine WC.seq ?_
    refine WC.region ?_
    refine WL.u rfl rfl (Wt.plain rfl) (Ex.move rfl) ?_
    refine WL.u rfl rfl (Wt.plain rfl) (Ex.assign rfl) ?_
    refine WL.u rfl rfl (Wt.plain rfl) (Ex.assign rfl) ?_
    refine WL.next ?_
    refine WC.ret ?_
    refine WN.retThen ?_
    refine WN.body2 rfl rfl rfl ?_
    have e := countRounds_not hfw
    exact ⟨_, by rw [e], hH.keep, by rw [e]; exact New.of hH ho8 (hH.base 0 rfl)⟩
  have hc1' := hc1; try simp only [decide_eq_true_eq, decide_eq_false_iff_not, Bool.not_eq_true', Bool.not_eq_false', Bool.not_eq_true, Bool.not_eq_false] at hc1'
  have hfw : fewB n m 9 = true := by simpa using hc1
  obtain ⟨n, m, rfl, rfl, h1, h2, h3, h4, h9⟩ := fewB_ex hfw
  have hp9 := pow9 h9
  have hf := few_of h1 h2 h3 h4 h9
  have hmI : (n : Int) * (m : Int) = ((n * m : Nat) : Int) := (Int.natCast_mul n m).symm
  refine WC.skip ?_
  refine WN.next ?_
  refine WC.seq ?_
  refine WC.seq ?_
  refine WC.region ?_
  refine WL.u rfl rfl (Wt.plain rfl) (Ex.assign rfl) ?_
  refine WL.next ?_
  refine WC.block ?_
  refine WC.loop (ι := Nat × Nat × Nat × (Array Value) × (List Int)) (fun (i, b8, cap8, cur8, l) => [(0, vint n), (1, vint m), (6, vsl b8 l.length cap8), (7, vint i)]) (fun (i, b8, cap8, cur8, l) wn => Hp [] w wn [(b8, .cells cur8 3 (0, 0))] ∧ Own rInt cur8 cap8 l ∧ l = growL (rF n m) i ∧ i ≤ 2 ^ (n * m)) (fun (i, b8, cap8, cur8, l) => 2 ^ (n * m) - i) ((0, b8, 0, #[], [])) (by exact ⟨rfl, rfl, rfl, rfl, trivial⟩) ?_ ?_
  · exact ⟨hH, ho8, rfl, Nat.zero_le _⟩
  rintro ⟨i, b8, cap8, cur8, l⟩ wn ⟨hH, ho8, hl, hi⟩
  intro mu0 hmu; try dsimp only at hmu
  show WC _ _ _ _ [(0, vint n), (1, vint m), (6, vsl b8 l.length cap8), (7, vint i)] _
  refine WC.seq ?_
  refine WC.seq ?_
  refine WC.region ?_
  refine WL.u rfl rfl (Wt.plain rfl) (Ex.move rfl) ?_
  refine WL.u rfl rfl (Wt.plain rfl) (Ex.move rfl) ?_
  refine WL.u rfl rfl (Wt.plain rfl) (Ex.move rfl) ?_
  refine WL.u rfl rfl (Wt.plain rfl) ((Ex.mul rfl rfl (by omega)).to (congrArg (Value.int IntKind.i64) hmI)) ?_
  refine WL.u rfl rfl (Wt.plain rfl) ((Ex.shl1 rfl (by omega))) ?_
  refine WL.u rfl rfl (Wt.plain rfl) (Ex.lss rfl rfl) ?_
  refine WL.next ?_
  refine WC.cond rfl (fun hc2 => ?_) (fun hc2 => ?_)
  · have hc2' := hc2; try simp only [decide_eq_true_eq, decide_eq_false_iff_not, Bool.not_eq_true', Bool.not_eq_false', Bool.not_eq_true, Bool.not_eq_false] at hc2'
    have hlt : i < 2 ^ (n * m) := by omega
    have hGi := full_ok i h1 h2 h3 h4
    have hr100 := rounds_100 hGi
    have hll : l.length ≤ 1000 := by have := growL_bound (rF n m) (B := 101) (by decide) i (fun j _ => rF_lt hf j); rw [hl]; omega
    have hbd : ∀ j, -1000000 ≤ l.getD j 0 ∧ l.getD j 0 ≤ 1000000 := fun j => by have := growL_bd (rF n m) i j; rw [hl]; omega
    refine WC.skip ?_
    refine WN.next ?_
    refine WC.seq ?_
    refine WC.block ?_
    refine WC.region ?_
    refine WL.u rfl rfl (Wt.plain rfl) (Ex.move rfl) ?_
    refine WL.u rfl rfl (Wt.plain rfl) (Ex.move rfl) ?_
    refine WL.u rfl rfl (Wt.plain rfl) (Ex.move rfl) ?_
    refine WL.u rfl rfl (Wt.plain rfl) (Ex.move rfl) ?_
    refine WL.call callable70 rfl (Wt.plain rfl) rfl rfl (sl3Mirrors n m i _ (by omega) (by omega) (by omega)) ?_
    rintro _ wn ⟨hC, hN⟩; obtain ⟨b26, cap26, cur26, rfl, hge26, hbb26, ho26⟩ := hN.own; replace hH := hH.push hC hge26 hbb26; clear hC hN
    refine WL.call callable69 rfl (Wt.plain rfl) rfl rfl (sl3Rounds (full n m i) _ _ _ (ho26.slAt hH 0 rfl) hGi) ?_
    rintro _ wn ⟨hC, hN⟩; obtain ⟨b27, cap27, cur27, rfl, hge27, hbb27, ho27⟩ := hN.own; rw [List.length_map]; replace hH := hH.call hC; clear hC hN
    refine WL.u rfl rfl (Wt.plain rfl) (Ex.lenSl Try.underlying38 rfl) ?_
    refine WL.call callable68 rfl (Wt.plain rfl) rfl rfl (sl10Add l b8 0 _ (rounds (full n m i)).length 1 _ (ho8.slAt hH 1 rfl) hll (by omega) (by omega) hbd) ?_
    rintro _ wn ⟨hC, hN⟩; obtain ⟨b8, cap8, cur8, rfl, hge8, hbb8, ho8⟩ := hN.own; replace hH := hH.push hC hge8 hbb8; clear hC hN
    refine WL.u rfl rfl (Wt.plain rfl) (Ex.assign rfl) ?_
    refine WL.last ?_
    refine WN.normalBlock ?_
    refine WN.next ?_
    refine WC.region ?_
    refine WL.u rfl rfl (Wt.plain rfl) (Ex.move rfl) ?_
    refine WL.u rfl rfl (Wt.plain rfl) (Ex.add rfl rfl (by omega)) ?_
    refine WL.u rfl rfl (Wt.plain rfl) (Ex.assign rfl) ?_
    refine WL.last ?_
    replace hH := hH.first1
    refine WN.round (i + 1, b8, cap8, cur8, addL l (rounds (full n m i)).length 1) (by exact ⟨rfl, rfl, rfl, rfl, trivial⟩) ?_ ?_
    · exact ⟨hH, ho8, by rw [hl]; rfl, by omega⟩
    · (try dsimp only); omega
  have hc2' := hc2; try simp only [decide_eq_true_eq, decide_eq_false_iff_not, Bool.not_eq_true', Bool.not_eq_false', Bool.not_eq_true, Bool.not_eq_false] at hc2'
  refine WC.exit ?_
  refine WN.exitThen ?_
  refine WN.exitThen ?_
  refine WN.exitHere ?_
  refine WN.next ?_
  refine WC.seq ?_
  refine WC.region ?_
  refine WL.u rfl rfl (Wt.plain rfl) (Ex.move rfl) ?_
  refine WL.u rfl rfl (Wt.plain rfl) (Ex.assign rfl) ?_
  refine WL.u rfl rfl (Wt.plain rfl) (Ex.assign rfl) ?_
  refine WL.next ?_
  refine WC.ret ?_
  refine WN.body2 rfl rfl rfl ?_
  have hiN : i = 2 ^ (n * m) := by omega
  rw [hiN] at hl
  have e := countRounds_at hfw
  exact ⟨_, by rw [e], hH.keep, by rw [e]; show New rInt _ _ _ _ (rCnt n m); rw [show rCnt n m = l by rw [hl, growL_eq _ (Nat.pow_pos (by decide))]; rfl]; exact New.of hH ho8 (hH.base 0 rfl)⟩

theorem lawExactCountRounds (n m : Int) (w : World) : Fn Try.prog 9 [vint n, vint m] w (fun v w1 => v = .bool true ∧ Keep [] w w1) := by
  refine Fn.enter (n := 68) Try.func9 rfl rfl rfl ?_
  show WC _ _ _ _ [(0, vint n), (1, vint m)] _
  have hH := Hp.start [] w
  have hlen : ((countRounds n m).1).length ≤ 1000 := countRounds_len n m
  refine WC.seq ?_
  refine WC.region ?_
  refine WL.u rfl rfl (Wt.plain rfl) (Ex.assign rfl) ?_
  refine WL.next ?_
  refine WC.seq ?_
  refine WC.region ?_
  refine WL.u rfl rfl (Wt.plain rfl) (Ex.move rfl) ?_
  refine WL.u rfl rfl (Wt.plain rfl) (Ex.move rfl) ?_
  refine WL.call callable31 rfl (Wt.plain rfl) rfl rfl (sCountRounds n m _) ?_
  rintro _ wn ⟨x, rfl, hC, hN⟩; obtain ⟨b16, cap16, cur16, rfl, hge16, hbb16, ho16⟩ := hN.own; replace hH := hH.push hC hge16 hbb16; clear hC hN
  refine WL.u rfl rfl (Wt.plain rfl) (Ex.move rfl) ?_
  refine WL.u rfl rfl (Wt.plain rfl) (Ex.extract rfl rfl) ?_
  refine WL.u rfl rfl (Wt.plain rfl) (Ex.extract rfl rfl) ?_
  refine WL.u rfl rfl (Wt.plain rfl) (Ex.assign rfl) ?_
  refine WL.u rfl rfl (Wt.plain rfl) (Ex.assign rfl) ?_
  refine WL.next ?_
  refine WC.seq ?_
  refine WC.region ?_
  refine WL.u rfl rfl (Wt.plain rfl) (Ex.move rfl) ?_
  refine WL.u rfl rfl (Wt.plain rfl) (Ex.move rfl) ?_
  refine WL.call callable32 rfl (Wt.plain rfl) rfl rfl (iCountRounds n m _) ?_
  rintro _ wn ⟨x, rfl, hC, hN⟩; obtain ⟨b22, cap22, cur22, rfl, hge22, hbb22, ho22⟩ := hN.own; replace hH := hH.push hC hge22 hbb22; clear hC hN
  refine WL.u rfl rfl (Wt.plain rfl) (Ex.move rfl) ?_
  refine WL.u rfl rfl (Wt.plain rfl) (Ex.extract rfl rfl) ?_
  refine WL.u rfl rfl (Wt.plain rfl) (Ex.extract rfl rfl) ?_
  refine WL.u rfl rfl (Wt.plain rfl) (Ex.assign rfl) ?_
  refine WL.u rfl rfl (Wt.plain rfl) (Ex.assign rfl) ?_
  refine WL.next ?_
  refine WC.seq ?_
  refine WC.seq ?_
  refine WC.region ?_
  refine WL.u rfl rfl (Wt.plain rfl) (Ex.move rfl) ?_
  refine WL.u rfl rfl (Wt.plain rfl) (Ex.move rfl) ?_
  refine WL.call callable33 rfl (Wt.plain rfl) rfl rfl (eqIntS ((countRounds n m).1) ((countRounds n m).1) _ _ _ _ _ (ho22.slAt hH 0 rfl) (ho16.slAt hH 1 rfl)) ?_
  rintro _ wn ⟨rfl, hC⟩; replace hH := hH.dr hC; clear hC
  refine WL.u rfl rfl (Wt.plain rfl) (Ex.not rfl) ?_
  refine WL.u rfl rfl (Wt.plain rfl) (Ex.move rfl) ?_
  refine WL.split (t := 29) rfl (fun hg3_4 => ?_) (fun hg3_4 => ?_)
  · exfalso; simp at hg3_4
  have hg3_4' := hg3_4; try simp only [decide_eq_true_eq, decide_eq_false_iff_not, Bool.not_eq_true', Bool.not_eq_false', Bool.not_eq_true, Bool.not_eq_false] at hg3_4'
  refine WL.u rfl rfl (Wt.guard' rfl rfl rfl hg3_4 rfl) (Ex.move rfl) ?_
  refine WL.u rfl rfl (Wt.guard' rfl rfl rfl hg3_4 rfl) (Ex.move rfl) ?_
  refine WL.u rfl rfl (Wt.guard' rfl rfl rfl hg3_4 rfl) (Ex.neqB Try.underlying4 rfl rfl) ?_
  refine WL.u rfl rfl (Wt.plain rfl) (Ex.pickF rfl hg3_4 rfl) ?_
  refine WL.next ?_
  refine WC.condF rfl (by simp) ?_
  refine WC.skip ?_
  refine WN.next ?_
  refine WC.seq ?_
  refine WC.region ?_
  refine WL.u rfl rfl (Wt.plain rfl) (Ex.assign rfl) ?_
  refine WL.next ?_
  refine WC.seq ?_
  refine WC.region ?_
  refine WL.u rfl rfl (Wt.plain rfl) (Ex.move rfl) ?_
  refine WL.u rfl rfl (Wt.plain rfl) (Ex.move rfl) ?_
  refine WL.call callable34 rfl (Wt.plain rfl) rfl rfl (markIntS b22 cap22 cur22 ((countRounds n m).1) 1 _ (hH.at 0 rfl) ho22 (by omega) (by omega)) ?_
  rintro _ wn ⟨cur1, rfl, hK, hb, ho22⟩; replace hH := hH.turn hK hb; clear hK hb
  refine WL.u rfl rfl (Wt.plain rfl) (Ex.assign rfl) ?_
  refine WL.next ?_
  refine WC.seq ?_
  refine WC.region ?_
  refine WL.u rfl rfl (Wt.plain rfl) (Ex.assign rfl) ?_
  refine WL.next ?_
  refine WC.seq ?_
  refine WC.region ?_
  refine WL.u rfl rfl (Wt.plain rfl) (Ex.move rfl) ?_
  refine WL.u rfl rfl (Wt.plain rfl) (Ex.move rfl) ?_
  refine WL.call callable35 rfl (Wt.plain rfl) rfl rfl (heldIntS (some ⟨b22, 0, none⟩) cap22 1 ((countRounds n m).1).length _ (ho22.slAt hH 0 rfl) (by omega) (by omega)) ?_
  rintro _ _ ⟨rfl, hw⟩; obtain rfl := hw.symm
  refine WL.u rfl rfl (Wt.plain rfl) (Ex.assign rfl) ?_
  refine WL.next ?_
  refine WC.seq ?_
  refine WC.seq ?_
  refine WC.region ?_
  refine WL.u rfl rfl (Wt.plain rfl) (Ex.move rfl) ?_
  refine WL.u rfl rfl (Wt.plain rfl) (Ex.lss rfl rfl) ?_
  refine WL.next ?_
  refine WC.condF rfl (decide_eq_false (by omega)) ?_
  refine WC.skip ?_
  refine WN.next ?_
  refine WC.seq ?_
  refine WC.seq ?_
  refine WC.region ?_
  refine WL.u rfl rfl (Wt.plain rfl) (Ex.move rfl) ?_
  refine WL.u rfl rfl (Wt.plain rfl) (Ex.move rfl) ?_
  refine WL.u rfl rfl (Wt.plain rfl) (Ex.neq rfl rfl) ?_
  refine WL.next ?_
  refine WC.condF rfl (by simp) ?_
  refine WC.skip ?_
  refine WN.next ?_
  refine WC.seq ?_
  refine WC.region ?_
  refine WL.u rfl rfl (Wt.plain rfl) (Ex.move rfl) ?_
  refine WL.u rfl rfl (Wt.plain rfl) (Ex.move rfl) ?_
  refine WL.call callable32 rfl (Wt.plain rfl) rfl rfl (iCountRounds n m _) ?_
  rintro _ wn ⟨x, rfl, hC, hN⟩; obtain ⟨b48, cap48, cur48, rfl, hge48, hbb48, ho48⟩ := hN.own; replace hH := hH.push hC hge48 hbb48; clear hC hN
  refine WL.u rfl rfl (Wt.plain rfl) (Ex.move rfl) ?_
  refine WL.u rfl rfl (Wt.plain rfl) (Ex.extract rfl rfl) ?_
  refine WL.u rfl rfl (Wt.plain rfl) (Ex.extract rfl rfl) ?_
  refine WL.u rfl rfl (Wt.plain rfl) (Ex.assign rfl) ?_
  refine WL.u rfl rfl (Wt.plain rfl) (Ex.assign rfl) ?_
  refine WL.next ?_
  refine WC.seq ?_
  refine WC.seq ?_
  refine WC.region ?_
  refine WL.u rfl rfl (Wt.plain rfl) (Ex.move rfl) ?_
  refine WL.u rfl rfl (Wt.plain rfl) (Ex.move rfl) ?_
  refine WL.call callable33 rfl (Wt.plain rfl) rfl rfl (eqIntS ((countRounds n m).1) ((countRounds n m).1) _ _ _ _ _ (ho48.slAt hH 0 rfl) (ho16.slAt hH 2 rfl)) ?_
  rintro _ wn ⟨rfl, hC⟩; replace hH := hH.dr hC; clear hC
  refine WL.u rfl rfl (Wt.plain rfl) (Ex.not rfl) ?_
  refine WL.u rfl rfl (Wt.plain rfl) (Ex.move rfl) ?_
  refine WL.split (t := 55) rfl (fun hg14_4 => ?_) (fun hg14_4 => ?_)
  · exfalso; simp at hg14_4
  have hg14_4' := hg14_4; try simp only [decide_eq_true_eq, decide_eq_false_iff_not, Bool.not_eq_true', Bool.not_eq_false', Bool.not_eq_true, Bool.not_eq_false] at hg14_4'
  refine WL.u rfl rfl (Wt.guard' rfl rfl rfl hg14_4 rfl) (Ex.move rfl) ?_
  refine WL.u rfl rfl (Wt.guard' rfl rfl rfl hg14_4 rfl) (Ex.move rfl) ?_
  refine WL.u rfl rfl (Wt.guard' rfl rfl rfl hg14_4 rfl) (Ex.neqB Try.underlying4 rfl rfl) ?_
  refine WL.u rfl rfl (Wt.plain rfl) (Ex.pickF rfl hg14_4 rfl) ?_
  refine WL.next ?_
  refine WC.condF rfl (by simp) ?_
  refine WC.skip ?_
  refine WN.next ?_
  refine WC.seq ?_
  refine WC.region ?_
  refine WL.u rfl rfl (Wt.plain rfl) (Ex.assign rfl) ?_
  refine WL.next ?_
  refine WC.seq ?_
  refine WC.region ?_
  refine WL.u rfl rfl (Wt.plain rfl) (Ex.move rfl) ?_
  refine WL.u rfl rfl (Wt.plain rfl) (Ex.move rfl) ?_
  refine WL.call callable35 rfl (Wt.plain rfl) rfl rfl (heldIntS (some ⟨b22, 0, none⟩) cap22 1 ((countRounds n m).1).length _ (ho22.slAt hH 1 rfl) (by omega) (by omega)) ?_
  rintro _ _ ⟨rfl, hw⟩; obtain rfl := hw.symm
  refine WL.u rfl rfl (Wt.plain rfl) (Ex.assign rfl) ?_
  refine WL.next ?_
  refine WC.seq ?_
  refine WC.seq ?_
  refine WC.region ?_
  refine WL.u rfl rfl (Wt.plain rfl) (Ex.move rfl) ?_
  refine WL.u rfl rfl (Wt.plain rfl) (Ex.lss rfl rfl) ?_
  refine WL.next ?_
  refine WC.condF rfl (decide_eq_false (by omega)) ?_
  refine WC.skip ?_
  refine WN.next ?_
  refine WC.seq ?_
  refine WC.seq ?_
  refine WC.region ?_
  refine WL.u rfl rfl (Wt.plain rfl) (Ex.move rfl) ?_
  refine WL.u rfl rfl (Wt.plain rfl) (Ex.move rfl) ?_
  refine WL.u rfl rfl (Wt.plain rfl) (Ex.neq rfl rfl) ?_
  refine WL.next ?_
  refine WC.condF rfl (by simp) ?_
  refine WC.skip ?_
  refine WN.next ?_
  refine WC.seq ?_
  refine WC.region ?_
  refine WL.u rfl rfl (Wt.plain rfl) (Ex.assign rfl) ?_
  refine WL.next ?_
  refine WC.ret ?_
  refine WN.body1 rfl rfl ?_
  exact ⟨rfl, hH.keep⟩

theorem iCountTotal (n m : Int) (w : World) : Fn Try.prog 30 [vint n, vint m] w (fun v w1 => v = .tuple #[vint (countTotal n m).1, .bool (countTotal n m).2] ∧ Keep [] w w1) := by
  refine Fn.enter (n := 32) Try.func30 rfl rfl rfl ?_
  show WC _ _ _ _ [(0, vint n), (1, vint m)] _
  have hH := Hp.start [] w
  have hLl := countRounds_len n m
  have hbd := countRounds_bd n m
  have e1 : countTotal n m = (wsum (countRounds n m).1 (countRounds n m).1.length, (countRounds n m).2) := rfl
  refine WC.seq ?_
  refine WC.region ?_
  refine WL.u rfl rfl (Wt.plain rfl) (Ex.assign rfl) ?_
  refine WL.u rfl rfl (Wt.plain rfl) (Ex.assign rfl) ?_
  refine WL.next ?_
  refine WC.seq ?_
  refine WC.region ?_
  refine WL.u rfl rfl (Wt.plain rfl) (Ex.move rfl) ?_
  refine WL.u rfl rfl (Wt.plain rfl) (Ex.move rfl) ?_
  refine WL.call callable32 rfl (Wt.plain rfl) rfl rfl (iCountRounds n m _) ?_
  rintro _ wn ⟨x, rfl, hC, hN⟩; obtain ⟨b14, cap14, cur14, rfl, hge14, hbb14, ho14⟩ := hN.own; replace hH := hH.push hC hge14 hbb14; clear hC hN
  refine WL.u rfl rfl (Wt.plain rfl) (Ex.move rfl) ?_
  refine WL.u rfl rfl (Wt.plain rfl) (Ex.extract rfl rfl) ?_
  refine WL.u rfl rfl (Wt.plain rfl) (Ex.extract rfl rfl) ?_
  refine WL.u rfl rfl (Wt.plain rfl) (Ex.assign rfl) ?_
  refine WL.u rfl rfl (Wt.plain rfl) (Ex.assign rfl) ?_
  refine WL.next ?_
  refine WC.seq ?_
  rw [e1]
  generalize (countRounds n m).1 = L at *
  generalize (countRounds n m).2 = ok at *
  refine WC.region ?_
  refine WL.u rfl rfl (Wt.plain rfl) (Ex.assign rfl) ?_
  refine WL.next ?_
  refine WC.seq ?_
  refine WC.seq ?_
  refine WC.region ?_
  refine WL.u rfl rfl (Wt.plain rfl) (Ex.move rfl) ?_
  refine WL.u rfl rfl (Wt.plain rfl) (Ex.lenSl Try.underlying38 rfl) ?_
  refine WL.u rfl rfl (Wt.plain rfl) (Ex.move rfl) ?_
  refine WL.next ?_
  refine WC.block ?_
  refine WC.loop (ι := Nat) (fun i => [(7, .bool ok), (8, vint (wsum L i)), (17, vsl b14 L.length cap14), (18, vint L.length), (19, vint i)]) (fun i wn => Hp [] w wn [(b14, .cells cur14 3 (0, 0))] ∧ i ≤ L.length) (fun i => L.length - i) (0) (by exact ⟨rfl, rfl, rfl, rfl, rfl, trivial⟩) ?_ ?_
  · exact ⟨hH, Nat.zero_le _⟩
  rintro i wn ⟨hH, hi⟩
  have hw := wsum_bound L hbd i (by omega)
  have hbi := hbd i
  have hmb := mulB (i : Int) (L.getD i 0) (by omega) (by omega)
  intro mu0 hmu; try dsimp only at hmu
  show WC _ _ _ _ [(7, .bool ok), (8, vint (wsum L i)), (17, vsl b14 L.length cap14), (18, vint L.length), (19, vint i)] _
  refine WC.seq ?_
  refine WC.region ?_
  refine WL.u rfl rfl (Wt.plain rfl) (Ex.lss rfl rfl) ?_
  refine WL.next ?_
  refine WC.seq ?_
  refine WC.cond rfl (fun hc1 => ?_) (fun hc1 => ?_)
  · have hc1' := hc1; try simp only [decide_eq_true_eq, decide_eq_false_iff_not, Bool.not_eq_true', Bool.not_eq_false', Bool.not_eq_true, Bool.not_eq_false] at hc1'
    have hlt : i < L.length := by omega
    refine WC.skip ?_
    refine WN.next ?_
    refine WC.seq ?_
    refine WC.block ?_
    refine WC.seq ?_
    refine WC.region ?_
    refine WL.u rfl rfl (Wt.plain rfl) (Ex.move rfl) ?_
    refine WL.u rfl rfl (Wt.plain rfl) (Ex.indexAddr Try.underlying38 ty3 rfl rfl (by omega)) ?_
    refine WL.u rfl rfl (Wt.plain rfl) (Ex.loadHp flat3 rfl hH (ho14.get rfl (getD_get L i 0 hlt))) ?_
    refine WL.u rfl rfl (Wt.plain rfl) (Ex.assign rfl) ?_
    refine WL.u rfl rfl (Wt.plain rfl) (Ex.assign rfl) ?_
    refine WL.next ?_
    refine WC.region ?_
    refine WL.u rfl rfl (Wt.plain rfl) (Ex.move rfl) ?_
    refine WL.u rfl rfl (Wt.plain rfl) (Ex.move rfl) ?_
    refine WL.u rfl rfl (Wt.plain rfl) (Ex.move rfl) ?_
    refine WL.u rfl rfl (Wt.plain rfl) (Ex.mul rfl rfl (by omega)) ?_
    refine WL.u rfl rfl (Wt.plain rfl) (Ex.add rfl rfl (by omega)) ?_
    refine WL.u rfl rfl (Wt.plain rfl) (Ex.assign rfl) ?_
    refine WL.last ?_
    refine WN.normalBlock ?_
    refine WN.next ?_
    refine WC.region ?_
    refine WL.u rfl rfl (Wt.plain rfl) (Ex.add rfl rfl (by omega)) ?_
    refine WL.u rfl rfl (Wt.plain rfl) (Ex.move rfl) ?_
    refine WL.last ?_
    refine WN.round (i + 1) (by exact ⟨rfl, rfl, rfl, rfl, rfl, trivial⟩) ?_ ?_
    · exact ⟨hH, by omega⟩
    · (try dsimp only); omega
  have hc1' := hc1; try simp only [decide_eq_true_eq, decide_eq_false_iff_not, Bool.not_eq_true', Bool.not_eq_false', Bool.not_eq_true, Bool.not_eq_false] at hc1'
  obtain rfl : i = L.length := by omega
  refine WC.exit ?_
  refine WN.exitThen ?_
  refine WN.exitThen ?_
  refine WN.exitHere ?_
  refine WN.next ?_
  refine WC.seq ?_
  refine WC.region ?_
  refine WL.u rfl rfl (Wt.plain rfl) (Ex.move rfl) ?_
  refine WL.u rfl rfl (Wt.plain rfl) (Ex.move rfl) ?_
  refine WL.u rfl rfl (Wt.plain rfl) (Ex.assign rfl) ?_
  refine WL.u rfl rfl (Wt.plain rfl) (Ex.assign rfl) ?_
  refine WL.next ?_
  refine WC.ret ?_
  refine WN.body2 rfl rfl rfl ?_
  exact ⟨rfl, hH.keep⟩

theorem sCountTotal (n m : Int) (w : World) : Fn Try.prog 29 [vint n, vint m] w (fun v w1 => v = .tuple #[vint (countTotal n m).1, .bool (countTotal n m).2] ∧ Keep [] w w1) := by
  refine Fn.enter (n := 32) Try.func29 rfl rfl rfl ?_
  show WC _ _ _ _ [(0, vint n), (1, vint m)] _
  have hH := Hp.start [] w
  have hLl := countRounds_len n m
  have hbd := countRounds_bd n m
  have e1 : countTotal n m = (wsum (countRounds n m).1 (countRounds n m).1.length, (countRounds n m).2) := rfl
  refine WC.seq ?_
  refine WC.region ?_
  refine WL.u rfl rfl (Wt.plain rfl) (Ex.assign rfl) ?_
  refine WL.u rfl rfl (Wt.plain rfl) (Ex.assign rfl) ?_
  refine WL.next ?_
  refine WC.seq ?_
  refine WC.region ?_
  refine WL.u rfl rfl (Wt.plain rfl) (Ex.move rfl) ?_
  refine WL.u rfl rfl (Wt.plain rfl) (Ex.move rfl) ?_
  refine WL.call callable31 rfl (Wt.plain rfl) rfl rfl (sCountRounds n m _) ?_
  rintro _ wn ⟨x, rfl, hC, hN⟩; obtain ⟨b13, cap13, cur13, rfl, hge13, hbb13, ho13⟩ := hN.own; replace hH := hH.push hC hge13 hbb13; clear hC hN
  refine WL.u rfl rfl (Wt.plain rfl) (Ex.move rfl) ?_
  refine WL.u rfl rfl (Wt.plain rfl) (Ex.extract rfl rfl) ?_
  refine WL.u rfl rfl (Wt.plain rfl) (Ex.extract rfl rfl) ?_
  refine WL.u rfl rfl (Wt.plain rfl) (Ex.assign rfl) ?_
  refine WL.u rfl rfl (Wt.plain rfl) (Ex.assign rfl) ?_
  refine WL.next ?_
  refine WC.seq ?_
  rw [e1]
  generalize (countRounds n m).1 = L at *
  generalize (countRounds n m).2 = ok at *
  refine WC.region ?_
  refine WL.u rfl rfl (Wt.plain rfl) (Ex.assign rfl) ?_
  refine WL.next ?_
  refine WC.seq ?_
  refine WC.seq ?_
  refine WC.region ?_
  refine WL.u rfl rfl (Wt.plain rfl) (Ex.assign rfl) ?_
  refine WL.next ?_
  refine WC.block ?_
  refine WC.loop (ι := Nat) (fun i => [(6, vsl b13 L.length cap13), (7, .bool ok), (8, vint (wsum L i)), (9, vint i)]) (fun i wn => Hp [] w wn [(b13, .cells cur13 3 (0, 0))] ∧ i ≤ L.length) (fun i => L.length - i) (0) (by exact ⟨rfl, rfl, rfl, rfl, trivial⟩) ?_ ?_
  · exact ⟨hH, Nat.zero_le _⟩
  rintro i wn ⟨hH, hi⟩
  have hw := wsum_bound L hbd i (by omega)
  have hbi := hbd i
  have hmb := mulB (i : Int) (L.getD i 0) (by omega) (by omega)
  intro mu0 hmu; try dsimp only at hmu
  show WC _ _ _ _ [(6, vsl b13 L.length cap13), (7, .bool ok), (8, vint (wsum L i)), (9, vint i)] _
  refine WC.seq ?_
  refine WC.seq ?_
  refine WC.region ?_
  refine WL.u rfl rfl (Wt.plain rfl) (Ex.move rfl) ?_
  refine WL.u rfl rfl (Wt.plain rfl) (Ex.move rfl) ?_
  refine WL.u rfl rfl (Wt.plain rfl) (Ex.lenSl Try.underlying38 rfl) ?_
  refine WL.u rfl rfl (Wt.plain rfl) (Ex.lss rfl rfl) ?_
  refine WL.next ?_
  refine WC.cond rfl (fun hc1 => ?_) (fun hc1 => ?_)
  · have hc1' := hc1; try simp only [decide_eq_true_eq, decide_eq_false_iff_not, Bool.not_eq_true', Bool.not_eq_false', Bool.not_eq_true, Bool.not_eq_false] at hc1'
    have hlt : i < L.length := by omega
    refine WC.skip ?_
    refine WN.next ?_
    refine WC.seq ?_
    refine WC.block ?_
    refine WC.region ?_
    refine WL.u rfl rfl (Wt.plain rfl) (Ex.move rfl) ?_
    refine WL.u rfl rfl (Wt.plain rfl) (Ex.move rfl) ?_
    refine WL.u rfl rfl (Wt.plain rfl) (Ex.move rfl) ?_
    refine WL.u rfl rfl (Wt.plain rfl) (Ex.move rfl) ?_
    refine WL.u rfl rfl (Wt.plain rfl) (Ex.indexAddr Try.underlying38 ty3 rfl rfl (by omega)) ?_
    refine WL.u rfl rfl (Wt.plain rfl) (Ex.loadHp flat3 rfl hH (ho13.get rfl (getD_get L i 0 hlt))) ?_
    refine WL.u rfl rfl (Wt.plain rfl) (Ex.mul rfl rfl (by omega)) ?_
    refine WL.u rfl rfl (Wt.plain rfl) (Ex.add rfl rfl (by omega)) ?_
    refine WL.u rfl rfl (Wt.plain rfl) (Ex.assign rfl) ?_
    refine WL.last ?_
    refine WN.normalBlock ?_
    refine WN.next ?_
    refine WC.region ?_
    refine WL.u rfl rfl (Wt.plain rfl) (Ex.move rfl) ?_
    refine WL.u rfl rfl (Wt.plain rfl) (Ex.add rfl rfl (by omega)) ?_
    refine WL.u rfl rfl (Wt.plain rfl) (Ex.assign rfl) ?_
    refine WL.last ?_
    refine WN.round (i + 1) (by exact ⟨rfl, rfl, rfl, rfl, trivial⟩) ?_ ?_
    · exact ⟨hH, by omega⟩
    · (try dsimp only); omega
  have hc1' := hc1; try simp only [decide_eq_true_eq, decide_eq_false_iff_not, Bool.not_eq_true', Bool.not_eq_false', Bool.not_eq_true, Bool.not_eq_false] at hc1'
  obtain rfl : i = L.length := by omega
  refine WC.exit ?_
  refine WN.exitThen ?_
  refine WN.exitThen ?_
  refine WN.exitHere ?_
  refine WN.next ?_
  refine WC.seq ?_
  refine WC.region ?_
  refine WL.u rfl rfl (Wt.plain rfl) (Ex.move rfl) ?_
  refine WL.u rfl rfl (Wt.plain rfl) (Ex.move rfl) ?_
  refine WL.u rfl rfl (Wt.plain rfl) (Ex.assign rfl) ?_
  refine WL.u rfl rfl (Wt.plain rfl) (Ex.assign rfl) ?_
  refine WL.next ?_
  refine WC.ret ?_
  refine WN.body2 rfl rfl rfl ?_
  exact ⟨rfl, hH.keep⟩

theorem lawExactCountTotal (n m : Int) (w : World) : Fn Try.prog 8 [vint n, vint m] w (fun v w1 => v = .bool true ∧ Keep [] w w1) := by
  refine Fn.enter (n := 29) Try.func8 rfl rfl rfl ?_
  show WC _ _ _ _ [(0, vint n), (1, vint m)] _
  have hH := Hp.start [] w
  refine WC.seq ?_
  refine WC.region ?_
  refine WL.u rfl rfl (Wt.plain rfl) (Ex.assign rfl) ?_
  refine WL.next ?_
  refine WC.seq ?_
  refine WC.region ?_
  refine WL.u rfl rfl (Wt.plain rfl) (Ex.move rfl) ?_
  refine WL.u rfl rfl (Wt.plain rfl) (Ex.move rfl) ?_
  refine WL.call callable29 rfl (Wt.plain rfl) rfl rfl (sCountTotal n m _) ?_
  rintro _ wn ⟨rfl, hC⟩; replace hH := hH.call hC; clear hC
  refine WL.u rfl rfl (Wt.plain rfl) (Ex.move rfl) ?_
  refine WL.u rfl rfl (Wt.plain rfl) (Ex.extract rfl rfl) ?_
  refine WL.u rfl rfl (Wt.plain rfl) (Ex.extract rfl rfl) ?_
  refine WL.u rfl rfl (Wt.plain rfl) (Ex.assign rfl) ?_
  refine WL.u rfl rfl (Wt.plain rfl) (Ex.assign rfl) ?_
  refine WL.next ?_
  refine WC.seq ?_
  refine WC.region ?_
  refine WL.u rfl rfl (Wt.plain rfl) (Ex.move rfl) ?_
  refine WL.u rfl rfl (Wt.plain rfl) (Ex.move rfl) ?_
  refine WL.call callable30 rfl (Wt.plain rfl) rfl rfl (iCountTotal n m _) ?_
  rintro _ wn ⟨rfl, hC⟩; replace hH := hH.call hC; clear hC
  refine WL.u rfl rfl (Wt.plain rfl) (Ex.move rfl) ?_
  refine WL.u rfl rfl (Wt.plain rfl) (Ex.extract rfl rfl) ?_
  refine WL.u rfl rfl (Wt.plain rfl) (Ex.extract rfl rfl) ?_
  refine WL.u rfl rfl (Wt.plain rfl) (Ex.assign rfl) ?_
  refine WL.u rfl rfl (Wt.plain rfl) (Ex.assign rfl) ?_
  refine WL.next ?_
  refine WC.seq ?_
  refine WC.seq ?_
  refine WC.region ?_
  refine WL.u rfl rfl (Wt.plain rfl) (Ex.move rfl) ?_
  refine WL.u rfl rfl (Wt.plain rfl) (Ex.move rfl) ?_
  refine WL.u rfl rfl (Wt.plain rfl) (Ex.neq rfl rfl) ?_
  refine WL.u rfl rfl (Wt.plain rfl) (Ex.move rfl) ?_
  refine WL.split (t := 24) rfl (fun hg3_3 => ?_) (fun hg3_3 => ?_)
  · exfalso; simp at hg3_3
  have hg3_3' := hg3_3; try simp only [decide_eq_true_eq, decide_eq_false_iff_not, Bool.not_eq_true', Bool.not_eq_false', Bool.not_eq_true, Bool.not_eq_false] at hg3_3'
  refine WL.u rfl rfl (Wt.guard' rfl rfl rfl hg3_3 rfl) (Ex.move rfl) ?_
  refine WL.u rfl rfl (Wt.guard' rfl rfl rfl hg3_3 rfl) (Ex.move rfl) ?_
  refine WL.u rfl rfl (Wt.guard' rfl rfl rfl hg3_3 rfl) (Ex.neqB Try.underlying4 rfl rfl) ?_
  refine WL.u rfl rfl (Wt.plain rfl) (Ex.pickF rfl hg3_3 rfl) ?_
  refine WL.next ?_
  refine WC.condF rfl (by simp) ?_
  refine WC.skip ?_
  refine WN.next ?_
  refine WC.seq ?_
  refine WC.region ?_
  refine WL.u rfl rfl (Wt.plain rfl) (Ex.assign rfl) ?_
  refine WL.next ?_
  refine WC.ret ?_
  refine WN.body1 rfl rfl ?_
  exact ⟨rfl, hH.keep⟩

theorem lawCountRounds (a : Option Addr) (l : List UInt8) (cap : Nat) (w : World) (hc : Sl rByte w a l) (hcap : l.length ≤ cap) : Fn Try.prog 11 [.slice a l.length cap] w (fun v w1 => v = .bool true ∧ Keep [] w w1) := by
  refine Fn.enter (n := 98) Try.func11 rfl rfl rfl ?_
  show WC _ _ _ _ [(0, .slice a l.length cap)] _
  have hH := Hp.start [] w
  refine WC.seq ?_
  refine WC.region ?_
  refine WL.u rfl rfl (Wt.plain rfl) (Ex.assign rfl) ?_
  refine WL.next ?_
  refine WC.seq ?_
  refine WC.seq ?_
  refine WC.region ?_
  refine WL.u rfl rfl (Wt.plain rfl) (Ex.move rfl) ?_
  refine WL.u rfl rfl (Wt.plain rfl) (Ex.lenSl Try.underlying31 rfl) ?_
  refine WL.u rfl rfl (Wt.plain rfl) (Ex.gtr rfl rfl) ?_
  refine WL.next ?_
  refine WC.cond rfl (fun hc1 => ?_) (fun hc1 => ?_)
  · have hc1' := hc1; try simp only [decide_eq_true_eq, decide_eq_false_iff_not, Bool.not_eq_true', Bool.not_eq_false', Bool.not_eq_true, Bool.not_eq_false] at hc1'
    refine WC.seq ?_
    refine WC.region ?_
    refine WL.u rfl rfl (Wt.plain rfl) (Ex.assign rfl) ?_
    refine WL.next ?_
    refine WC.ret ?_
    refine WN.retThen ?_
    refine WN.body1 rfl rfl ?_
    exact ⟨rfl, hH.keep⟩
  have hc1' := hc1; try simp only [decide_eq_true_eq, decide_eq_false_iff_not, Bool.not_eq_true', Bool.not_eq_false', Bool.not_eq_true, Bool.not_eq_false] at hc1'
  refine WC.skip ?_
  refine WN.next ?_
  refine WC.seq ?_
  refine WC.region ?_
  refine WL.u rfl rfl (Wt.plain rfl) (Ex.move rfl) ?_
  refine WL.call callable38 rfl (Wt.plain rfl) rfl rfl (sDrawCountRounds _ _ _ _ (hc.kept hH.keep) hcap) ?_
  rintro _ wn ⟨n, m, rfl, hC, hn1, hn4, hm1, hm12⟩; replace hH := hH.call hC; clear hC
  refine WL.u rfl rfl (Wt.plain rfl) (Ex.move rfl) ?_
  refine WL.u rfl rfl (Wt.plain rfl) (Ex.extract rfl rfl) ?_
  refine WL.u rfl rfl (Wt.plain rfl) (Ex.extract rfl rfl) ?_
  refine WL.u rfl rfl (Wt.plain rfl) (Ex.assign rfl) ?_
  refine WL.u rfl rfl (Wt.plain rfl) (Ex.assign rfl) ?_
  refine WL.next ?_
  refine WC.seq ?_
  refine WC.region ?_
  refine WL.u rfl rfl (Wt.plain rfl) (Ex.move rfl) ?_
  refine WL.u rfl rfl (Wt.plain rfl) (Ex.move rfl) ?_
  refine WL.call callable32 rfl (Wt.plain rfl) rfl rfl (iCountRounds n m _) ?_
  rintro _ wn ⟨x, rfl, hC, hN⟩; obtain ⟨b21, cap21, cur21, rfl, hge21, hbb21, ho21⟩ := hN.own; replace hH := hH.push hC hge21 hbb21; clear hC hN
  refine WL.u rfl rfl (Wt.plain rfl) (Ex.move rfl) ?_
  refine WL.u rfl rfl (Wt.plain rfl) (Ex.extract rfl rfl) ?_
  refine WL.u rfl rfl (Wt.plain rfl) (Ex.extract rfl rfl) ?_
  refine WL.u rfl rfl (Wt.plain rfl) (Ex.assign rfl) ?_
  refine WL.u rfl rfl (Wt.plain rfl) (Ex.assign rfl) ?_
  refine WL.next ?_
  refine WC.seq ?_
  refine WC.region ?_
  refine WL.u rfl rfl (Wt.plain rfl) (Ex.move rfl) ?_
  refine WL.u rfl rfl (Wt.plain rfl) (Ex.move rfl) ?_
  refine WL.call callable31 rfl (Wt.plain rfl) rfl rfl (sCountRounds n m _) ?_
  rintro _ wn ⟨x, rfl, hC, hN⟩; obtain ⟨b27, cap27, cur27, rfl, hge27, hbb27, ho27⟩ := hN.own; replace hH := hH.push hC hge27 hbb27; clear hC hN
  refine WL.u rfl rfl (Wt.plain rfl) (Ex.move rfl) ?_
  refine WL.u rfl rfl (Wt.plain rfl) (Ex.extract rfl rfl) ?_
  refine WL.u rfl rfl (Wt.plain rfl) (Ex.extract rfl rfl) ?_
  refine WL.u rfl rfl (Wt.plain rfl) (Ex.assign rfl) ?_
  refine WL.u rfl rfl (Wt.plain rfl) (Ex.assign rfl) ?_
  refine WL.next ?_
  refine WC.seq ?_
  refine WC.seq ?_
  refine WC.region ?_
  refine WL.u rfl rfl (Wt.plain rfl) (Ex.move rfl) ?_
  refine WL.u rfl rfl (Wt.plain rfl) (Ex.move rfl) ?_
  refine WL.u rfl rfl (Wt.plain rfl) (Ex.neqB Try.underlying4 rfl rfl) ?_
  refine WL.u rfl rfl (Wt.plain rfl) (Ex.move rfl) ?_
  refine WL.split (t := 36) rfl (fun hg6_3 => ?_) (fun hg6_3 => ?_)
  · exfalso; simp at hg6_3
  have hg6_3' := hg6_3; try simp only [decide_eq_true_eq, decide_eq_false_iff_not, Bool.not_eq_true', Bool.not_eq_false', Bool.not_eq_true, Bool.not_eq_false] at hg6_3'
  refine WL.u rfl rfl (Wt.guard' rfl rfl rfl hg6_3 rfl) (Ex.move rfl) ?_
  refine WL.u rfl rfl (Wt.guard' rfl rfl rfl hg6_3 rfl) (Ex.move rfl) ?_
  refine WL.call callable39 rfl (Wt.guard' rfl rfl rfl hg6_3 rfl) rfl rfl (sameInts (countRounds n m).1 (countRounds n m).1 _ _ _ _ _ (ho21.slAt hH 1 rfl) (ho27.slAt hH 0 rfl)) ?_
  rintro _ wn ⟨rfl, hC⟩; replace hH := hH.dr hC; clear hC
  refine WL.u rfl rfl (Wt.guard' rfl rfl rfl hg6_3 rfl) (Ex.not rfl) ?_
  refine WL.u rfl rfl (Wt.plain rfl) (Ex.pickF rfl hg6_3 rfl) ?_
  refine WL.u rfl rfl (Wt.plain rfl) (Ex.move rfl) ?_
  refine WL.split (t := 42) rfl (fun hg6_9 => ?_) (fun hg6_9 => ?_)
  · exfalso; simp at hg6_9
  have hg6_9' := hg6_9; try simp only [decide_eq_true_eq, decide_eq_false_iff_not, Bool.not_eq_true', Bool.not_eq_false', Bool.not_eq_true, Bool.not_eq_false] at hg6_9'
  refine WL.u rfl rfl (Wt.guard' rfl rfl rfl hg6_9 rfl) (Ex.move rfl) ?_
  refine WL.u rfl rfl (Wt.guard' rfl rfl rfl hg6_9 rfl) (Ex.not rfl) ?_
  refine WL.u rfl rfl (Wt.plain rfl) (Ex.pickF rfl hg6_9 rfl) ?_
  refine WL.next ?_
  refine WC.cond rfl (fun hc2 => ?_) (fun hc2 => ?_)
  · have hc2' := hc2; try simp only [decide_eq_true_eq, decide_eq_false_iff_not, Bool.not_eq_true', Bool.not_eq_false', Bool.not_eq_true, Bool.not_eq_false] at hc2'
    refine WC.seq ?_
    refine WC.region ?_
    refine WL.u rfl rfl (Wt.plain rfl) (Ex.move rfl) ?_
    refine WL.u rfl rfl (Wt.plain rfl) (Ex.move rfl) ?_
    refine WL.u rfl rfl (Wt.plain rfl) (Ex.eqlB Try.underlying4 rfl rfl) ?_
    refine WL.u rfl rfl (Wt.plain rfl) (Ex.move rfl) ?_
    refine WL.split (t := 49) rfl (fun hg7_3 => ?_) (fun hg7_3 => ?_)
    · have hg7_3' := hg7_3; try simp only [decide_eq_true_eq, decide_eq_false_iff_not, Bool.not_eq_true', Bool.not_eq_false', Bool.not_eq_true, Bool.not_eq_false] at hg7_3'
      refine WL.u rfl rfl (Wt.guard' rfl rfl rfl hg7_3 rfl) (Ex.move rfl) ?_
      refine WL.u rfl rfl (Wt.guard' rfl rfl rfl hg7_3 rfl) (Ex.move rfl) ?_
      refine WL.call callable39 rfl (Wt.guard' rfl rfl rfl hg7_3 rfl) rfl rfl (sameInts (countRounds n m).1 (countRounds n m).1 _ _ _ _ _ (ho21.slAt hH 1 rfl) (ho27.slAt hH 0 rfl)) ?_
      rintro _ wn ⟨rfl, hC⟩; replace hH := hH.dr hC; clear hC
      refine WL.u rfl rfl (Wt.plain rfl) (Ex.pickT rfl hg7_3 rfl) ?_
      refine WL.u rfl rfl (Wt.plain rfl) (Ex.assign rfl) ?_
      refine WL.next ?_
      refine WC.ret ?_
      refine WN.retThen ?_
      refine WN.body1 rfl rfl ?_
      exact ⟨congrArg Value.bool (decide_eq_true rfl), hH.keep⟩
    exfalso; simp at hg7_3
  have hc2' := hc2; try simp only [decide_eq_true_eq, decide_eq_false_iff_not, Bool.not_eq_true', Bool.not_eq_false', Bool.not_eq_true, Bool.not_eq_false] at hc2'
  have hok : (countRounds n m).2 = true := by simpa using hc2
  rw [countRounds_ok] at hok
  obtain ⟨n2, m2, e1, e2, h1, h2, h3, h4, h9⟩ := fewB_ex hok
  obtain rfl : n = n2 := by omega
  obtain rfl : m = m2 := by omega
  have hp9 := pow9 h9
  have hf := few_of h1 h2 h3 h4 h9
  have hcp := congrArg Prod.fst (countRounds_at hok)
  dsimp only at hcp
  have hmI : (n : Int) * (m : Int) = ((n * m : Nat) : Int) := (Int.natCast_mul n m).symm
  have hnm9 : n * m ≤ 9 := by omega
  have hsw := rCnt_swap hf
  have hcp2 := congrArg Prod.fst (countRounds_at (fewB_swap hok))
  dsimp only at hcp2
  rw [hsw, ← hcp] at hcp2
  have hok2 : (countRounds m n).2 = true := by rw [countRounds_ok]; exact fewB_swap hok
  have hsm := rCnt_sum n m
  have hln := rCnt_len n m
  have hla := rCnt_last n m
  have hbd := countRounds_bd n m
  have hL1 := countRounds_len n m
  rw [← hcp] at hsm hln hla
  refine WC.skip ?_
  refine WN.next ?_
  refine WC.seq ?_
  refine WC.region ?_
  refine WL.u rfl rfl (Wt.plain rfl) (Ex.move rfl) ?_
  refine WL.u rfl rfl (Wt.plain rfl) (Ex.move rfl) ?_
  refine WL.call callable32 rfl (Wt.plain rfl) rfl rfl (iCountRounds m n _) ?_
  rintro _ wn ⟨x, rfl, hC, hN⟩; rw [hcp2, hok2] at *; obtain ⟨b57, cap57, cur57, rfl, hge57, hbb57, ho57⟩ := hN.own; replace hH := hH.push hC hge57 hbb57; clear hC hN
  refine WL.u rfl rfl (Wt.plain rfl) (Ex.move rfl) ?_
  refine WL.u rfl rfl (Wt.plain rfl) (Ex.extract rfl rfl) ?_
  refine WL.u rfl rfl (Wt.plain rfl) (Ex.extract rfl rfl) ?_
  refine WL.u rfl rfl (Wt.plain rfl) (Ex.assign rfl) ?_
  refine WL.u rfl rfl (Wt.plain rfl) (Ex.assign rfl) ?_
  refine WL.next ?_
  refine WC.seq ?_
  refine WC.region ?_
  refine WL.u rfl rfl (Wt.plain rfl) (Ex.move rfl) ?_
  refine WL.u rfl rfl (Wt.plain rfl) (Ex.move rfl) ?_
  refine WL.call callable40 rfl (Wt.plain rfl) rfl rfl (iRoundMost n m _ hf) ?_
  rintro _ wn ⟨rfl, hC⟩; replace hH := hH.call hC; clear hC
  refine WL.u rfl rfl (Wt.plain rfl) (Ex.move rfl) ?_
  refine WL.u rfl rfl (Wt.plain rfl) (Ex.extract rfl rfl) ?_
  refine WL.u rfl rfl (Wt.plain rfl) (Ex.extract rfl rfl) ?_
  refine WL.u rfl rfl (Wt.plain rfl) (Ex.assign rfl) ?_
  refine WL.u rfl rfl (Wt.plain rfl) (Ex.assign rfl) ?_
  refine WL.next ?_
  refine WC.seq ?_
  generalize (countRounds n m).1 = L at *
  refine WC.region ?_
  refine WL.u rfl rfl (Wt.plain rfl) (Ex.move rfl) ?_
  refine WL.u rfl rfl (Wt.plain rfl) (Ex.move rfl) ?_
  refine WL.u rfl rfl (Wt.guard' rfl rfl rfl (rfl) rfl) (Ex.move rfl) ?_
  refine WL.u rfl rfl (Wt.plain rfl) (Ex.pickT rfl (rfl) rfl) ?_
  refine WL.u rfl rfl (Wt.plain rfl) (Ex.move rfl) ?_
  refine WL.u rfl rfl (Wt.guard' rfl rfl rfl (rfl) rfl) (Ex.move rfl) ?_
  refine WL.u rfl rfl (Wt.guard' rfl rfl rfl (rfl) rfl) (Ex.move rfl) ?_
  refine WL.call callable39 rfl (Wt.guard' rfl rfl rfl (rfl) rfl) rfl rfl (sameInts L L _ _ _ _ _ (ho57.slAt hH 0 rfl) (ho21.slAt hH 2 rfl)) ?_
  rintro _ wn ⟨rfl, hC⟩; replace hH := hH.dr hC; clear hC
  refine WL.u rfl rfl (Wt.plain rfl) (Ex.pickT rfl (rfl) rfl) ?_
  refine WL.u rfl rfl (Wt.plain rfl) (Ex.move rfl) ?_
  refine WL.u rfl rfl (Wt.guard' rfl rfl rfl (decide_eq_true rfl) rfl) (Ex.move rfl) ?_
  refine WL.call callable41 rfl (Wt.guard' rfl rfl rfl (decide_eq_true rfl) rfl) rfl rfl (total L _ _ _ (ho21.slAt hH 2 rfl) (fun j => (hbd j).1) (by omega)) ?_
  rintro _ _ ⟨rfl, hw⟩; obtain rfl := hw.symm
  refine WL.u rfl rfl (Wt.guard' rfl rfl rfl (decide_eq_true rfl) rfl) (Ex.move rfl) ?_
  refine WL.u rfl rfl (Wt.guard' rfl rfl rfl (decide_eq_true rfl) rfl) (Ex.move rfl) ?_
  refine WL.u rfl rfl (Wt.guard' rfl rfl rfl (decide_eq_true rfl) rfl) ((Ex.mul rfl rfl (by omega)).to (congrArg (Value.int IntKind.i64) hmI)) ?_
  refine WL.call callable37 rfl (Wt.guard' rfl rfl rfl (decide_eq_true rfl) rfl) rfl rfl (power 2 (n * m) _ _ rfl (by omega) (by omega) (by omega) (by omega)) ?_
  rintro _ _ ⟨rfl, hw⟩; obtain rfl := hw.symm
  refine WL.u rfl rfl (Wt.guard' rfl rfl rfl (decide_eq_true rfl) rfl) (Ex.eql rfl rfl) ?_
  refine WL.u rfl rfl (Wt.plain rfl) (Ex.pickT rfl (decide_eq_true rfl) rfl) ?_
  refine WL.u rfl rfl (Wt.plain rfl) (Ex.move rfl) ?_
  refine WL.u rfl rfl (Wt.guard' rfl rfl rfl (decide_eq_true hsm) rfl) (Ex.move rfl) ?_
  refine WL.u rfl rfl (Wt.guard' rfl rfl rfl (decide_eq_true hsm) rfl) (Ex.lenSl Try.underlying38 rfl) ?_
  refine WL.u rfl rfl (Wt.guard' rfl rfl rfl (decide_eq_true hsm) rfl) (Ex.move rfl) ?_
  refine WL.u rfl rfl (Wt.guard' rfl rfl rfl (decide_eq_true hsm) rfl) (Ex.add rfl rfl (by omega)) ?_
  refine WL.u rfl rfl (Wt.guard' rfl rfl rfl (decide_eq_true hsm) rfl) (Ex.eql rfl rfl) ?_
  refine WL.u rfl rfl (Wt.plain rfl) (Ex.pickT rfl (decide_eq_true hsm) rfl) ?_
  refine WL.u rfl rfl (Wt.plain rfl) (Ex.move rfl) ?_
  refine WL.u rfl rfl (Wt.guard' rfl rfl rfl (decide_eq_true (by omega)) rfl) (Ex.move rfl) ?_
  refine WL.u rfl rfl (Wt.guard' rfl rfl rfl (decide_eq_true (by omega)) rfl) (Ex.move rfl) ?_
  refine WL.u rfl rfl (Wt.guard' rfl rfl rfl (decide_eq_true (by omega)) rfl) (Ex.indexAddr Try.underlying38 ty3 rfl rfl (by omega)) ?_
  replace hH := hH.f2
  refine WL.u rfl rfl (Wt.guard' rfl rfl rfl (decide_eq_true (by omega)) rfl) (Ex.loadHp flat3 rfl hH (ho21.get rfl (getD_get L (mxN (rF n m) (2 ^ (n * m))) 0 (by omega)))) ?_
  refine WL.u rfl rfl (Wt.guard' rfl rfl rfl (decide_eq_true (by omega)) rfl) (Ex.gtr rfl rfl) ?_
  refine WL.u rfl rfl (Wt.plain rfl) (Ex.pickT rfl (decide_eq_true (by omega)) rfl) ?_
  refine WL.u rfl rfl (Wt.plain rfl) (Ex.assign rfl) ?_
  refine WL.next ?_
  refine WC.ret ?_
  refine WN.body1 rfl rfl ?_
  exact ⟨congrArg Value.bool (decide_eq_true hla), hH.keep⟩

end Go.Proofs.Ytjejdebmlgjdeaa
