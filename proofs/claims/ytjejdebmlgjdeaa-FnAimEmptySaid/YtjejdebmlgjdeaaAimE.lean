/- Aiming in empty grids; the partners there. -/
import Derived.Test.YtjejdebmlgjdeaaLawGo
namespace Go.Proofs.Ytjejdebmlgjdeaa
set_option maxRecDepth 100000
set_option linter.unusedSimpArgs false
set_option linter.unusedVariables false
open Go Go.RowKit
theorem digit_zero (m : Nat) : digit m 0 = fun _ _ => 46 := by
  funext i k
  unfold digit
  rw [Nat.zero_div]; rfl
theorem empty_eq (n m : Nat) : gridOf n m (fun _ _ => 46) = numG n m 0 := by unfold numG; rw [digit_zero]
def aimEmpty (n m p q : Int) : Int × Bool := if fewB n m 9 = true then aimGo (numG n.toNat m.toNat 0) p q else (0, false)
theorem aimEmpty_at {n m : Nat} {p q : Int} (h : fewB n m 9 = true) : aimEmpty n m p q = aimGo (numG n m 0) p q := by rw [aimEmpty, if_pos h]; rfl
theorem aimEmpty_not {n m p q : Int} (h : fewB n m 9 = false) : aimEmpty n m p q = (0, false) := by rw [aimEmpty, if_neg (by rw [h]; decide)]
def opp (n m p : Nat) : Nat := if p < m then 2 * m + n - 1 - p else if p < m + n then 3 * m + 2 * n - 1 - p else if p < 2 * m + n then 2 * m + n - 1 - p else 3 * m + 2 * n - 1 - p
def placeN (n m p : Nat) : Nat × Nat := if p < m then (0, p) else if p < m + n then (1, p - m) else if p < 2 * m + n then (2, m - 1 - (p - m - n)) else (3, n - 1 - (p - 2 * m - n))
def portI (n m : Nat) (s x : Int) : Int := if s = 0 then x else if s = 1 then m + x else if s = 2 then 2 * m + n - 1 - x else 2 * m + 2 * n - 1 - x
theorem place_opp {n m p : Nat} (h1 : 1 ≤ n) (h3 : 1 ≤ m) (hp : p < 2 * n + 2 * m) : portI n m ((((placeN n m p).1 + 2) % 4 : Nat) : Int) (((placeN n m p).2 : Nat) : Int) = ((opp n m p : Nat) : Int) := by
  unfold portI placeN opp
  by_cases a : p < m
  · rw [if_pos a, if_pos a]; simp; omega
  · by_cases b : p < m + n
    · rw [if_neg a, if_pos b, if_neg a, if_pos b]; simp; omega
    · by_cases c : p < 2 * m + n
      · rw [if_neg a, if_neg b, if_pos c, if_neg a, if_neg b, if_pos c]; simp; omega
      · rw [if_neg a, if_neg b, if_neg c, if_neg a, if_neg b, if_neg c]; simp; omega
theorem place_bd {n m p : Nat} (h1 : 1 ≤ n) (h3 : 1 ≤ m) (hp : p < 2 * n + 2 * m) : (placeN n m p).1 < 4 ∧ (placeN n m p).2 < n + m := by
  unfold placeN
  split
  · exact ⟨by dsimp only; omega, by dsimp only; omega⟩
  · split
    · exact ⟨by dsimp only; omega, by dsimp only; omega⟩
    · split
      · exact ⟨by dsimp only; omega, by dsimp only; omega⟩
      · exact ⟨by dsimp only; omega, by dsimp only; omega⟩
/-! the beams of empty grids, and of those with one mirror -/
def onRow (n m p : Nat) : Bool := decide (m ≤ p ∧ p < m + n) || decide (2 * m + n ≤ p)
theorem empty_way : ∀ n < 6, ∀ m < 6, 1 ≤ n → 1 ≤ m → ∀ p < 2 * n + 2 * m, (way (numG n m 0) p).2 = opp n m p := by decide +kernel
def chkO (n m cell p : Nat) (c : UInt8) : Bool := (way (putG (numG n m 0) cell c) p).2 == opp n m p || onRow n m p != onRow n m (way (putG (numG n m 0) cell c) p).2
def chkQ (n m cell p : Nat) : Bool := n == 0 || m == 0 || Nat.blt 9 (n * m) || (chkO n m cell p 114 && chkO n m cell p 102)
theorem one_wayQ : ∀ n < 6, ∀ m < 6, ∀ cell < n * m, ∀ p < 2 * n + 2 * m, chkQ n m cell p = true := by decide +kernel
theorem one_way {n m cell p : Nat} (h2 : n < 6) (h4 : m < 6) (h1 : 1 ≤ n) (h3 : 1 ≤ m) (h9 : n * m ≤ 9) (hc : cell < n * m) (hp : p < 2 * n + 2 * m) : chkO n m cell p 114 = true ∧ chkO n m cell p 102 = true := by
  have h := one_wayQ n h2 m h4 cell hc p hp
  unfold chkQ at h
  have e1 : (n == 0) = false := by simp; omega
  have e2 : (m == 0) = false := by simp; omega
  have e3 : Nat.blt 9 (n * m) = false := by
    rw [Bool.eq_false_iff]
    intro hh
    rw [Nat.blt_eq] at hh
    omega
  rw [e1, e2, e3, Bool.false_or, Bool.false_or, Bool.false_or, Bool.and_eq_true] at h
  exact h
theorem row_one (a b : Str) : ∀ k, apartRow a b k = 1 → ∃ j, j < k ∧ ∀ i, i < k → i ≠ j → a.getD i 0 = b.getD i 0
  | 0, h => by cases h
  | k + 1, h => by
    rw [apartRow] at h
    split at h
    · next e =>
      obtain ⟨j, h1, h2⟩ := row_one a b k (by omega)
      refine ⟨j, by omega, fun i hi hne => ?_⟩
      rcases Nat.lt_succ_iff_lt_or_eq.1 hi with hi | rfl
      · exact h2 i hi hne
      · exact e
    · exact ⟨k, by omega, fun i hi hne => apartRow_zero a b k (by omega) i (by omega)⟩
theorem grid_one (g h : Grid) : ∀ i, apartN g h i = 1 → ∃ r k, r < i ∧ k < (g.getD r []).length ∧ ∀ r' k', r' < i → k' < (g.getD r' []).length → ¬ (r' = r ∧ k' = k) → (g.getD r' []).getD k' 0 = (h.getD r' []).getD k' 0
  | 0, e => by cases e
  | i + 1, e => by
    rw [apartN] at e
    rcases Nat.eq_zero_or_pos (apartN g h i) with h0 | h0
    · obtain ⟨k, h1, h2⟩ := row_one _ _ _ (show apartRow (g.getD i []) (h.getD i []) (g.getD i []).length = 1 by omega)
      refine ⟨i, k, by omega, h1, fun r' k' hr hk hne => ?_⟩
      rcases Nat.lt_succ_iff_lt_or_eq.1 hr with hr | rfl
      · exact apartN_zero g h i h0 r' hr k' hk
      · exact h2 k' hk (fun e => hne ⟨rfl, e⟩)
    · obtain ⟨r, k, h1, h2, h3⟩ := grid_one g h i (by omega)
      refine ⟨r, k, by omega, h2, fun r' k' hr hk hne => ?_⟩
      rcases Nat.lt_succ_iff_lt_or_eq.1 hr with hr | rfl
      · exact h3 r' k' hr hk hne
      · exact apartRow_zero _ _ _ (by omega) k' hk
theorem apart_one {g h : Grid} (hG : GridOk g) (hH : GridOk h) (hn : nR h = nR g) (hm : nC h = nC g) (e : apart g h = 1) : ∃ cell c, cell < nR g * nC g ∧ okL c = true ∧ h = putG g cell c := by
  obtain ⟨r, k, h1, h2, h3⟩ := grid_one g h _ e
  rw [hG.row r h1] at h2
  have hc : okL ((h.getD r []).getD k 0) = true := hH.ok r (by show r < nR h; rw [hn]; exact h1) k (by show k < nC h; rw [hm]; exact h2)
  have hcell : r * nC g + k < nR g * nC g := by
    have : (r + 1) * nC g ≤ nR g * nC g := Nat.mul_le_mul_right _ h1
    have h2' : k < nC g := h2
    rw [Nat.add_mul, Nat.one_mul] at this; omega
  refine ⟨r * nC g + k, (h.getD r []).getD k 0, hcell, hc, ?_⟩
  refine grid_ext hH (putG_ok hG _ hc) (by rw [putG_nR, hn]) (by rw [putG_nC hG, hm]) fun i j hi hj => ?_
  rw [hn] at hi
  rw [hm] at hj
  rw [putG_at _ _ hi hj]
  split
  · next e2 =>
    obtain ⟨rfl, rfl⟩ := cell_inj hj h2 e2
    rfl
  · next e2 => exact (h3 i j hi (by rw [hG.row i hi]; exact hj) (fun hh => e2 (by rw [hh.1, hh.2]))).symm
theorem empty_letter {n m cell : Nat} (h : cell < n * m) : letter (numG n m 0) cell = 46 := by
  unfold numG
  rw [gridOf_letter _ h, digit_zero]
/-- a beam in a grid with one mirror goes on, or turns from a row to a column or back -/
theorem one_rows {n m p q : Nat} (h1 : 1 ≤ n) (h2 : n ≤ 5) (h3 : 1 ≤ m) (h4 : m ≤ 5) (h9 : n * m ≤ 9) (hp : p < 2 * n + 2 * m) (e : least (numG n m 0) p q = 1) : onRow n m p ≠ onRow n m q := by
  have hG := numG_ok 0 h1 h2 h3 h4
  have hn : nR (numG n m 0) = n := gridOf_nR _ _ _
  have hm : nC (numG n m 0) = m := gridOf_nC _ _ h1
  have hpp : p < ports (numG n m 0) := by rw [numG_ports m 0 h1]; exact hp
  obtain ⟨k, hK, hkn, hkm, hw, ha⟩ := least_is (q := q) hG hpp (by omega)
  have hz : (way (numG n m 0) p).2 ≠ q := fun hh => by have := (least_zero hG hpp).2 hh; omega
  rw [empty_way n (by omega) m (by omega) h1 h3 p hp] at hz
  rw [e] at ha
  have ha1 : apart (numG n m 0) k = 1 := by
    rcases Nat.lt_or_ge (apart (numG n m 0) k) 1 with h0 | h0
    · have := apart_zero hG hK hkn hkm (by omega)
      rw [← this, empty_way n (by omega) m (by omega) h1 h3 p hp] at hw
      exact absurd hw hz
    · omega
  obtain ⟨cell, c, hc, hcc, rfl⟩ := apart_one hG hK hkn hkm ha1
  rw [hn, hm] at hc
  have hcc2 : c = 46 ∨ c = 114 ∨ c = 102 := of_decide_eq_true hcc
  have ho := one_way (by omega) (by omega) h1 h3 h9 hc hp
  have key : ∀ c', (way (putG (numG n m 0) cell c') p).2 = q → chkO n m cell p c' = true → onRow n m p ≠ onRow n m q := fun c' h5 h6 => by
    unfold chkO at h6
    rw [h5, Bool.or_eq_true, beq_iff_eq, bne_iff_ne] at h6
    rcases h6 with h6 | h6
    · exact absurd h6.symm hz
    · exact h6
  rcases hcc2 with rfl | rfl | rfl
  · exfalso
    have : putG (numG n m 0) cell 46 = numG n m 0 := by
      refine grid_ext hK hG (by rw [putG_nR]) (by rw [putG_nC hG]) fun i j hi hj => ?_
      rw [putG_nR] at hi
      rw [putG_nC hG] at hj
      rw [putG_at _ _ hi hj]
      split
      · unfold numG
        rw [hn] at hi
        rw [hm] at hj
        rw [gridOf_at _ _ _ hi hj, digit_zero]
      · rfl
    rw [this, empty_way n (by omega) m (by omega) h1 h3 p hp] at hw
    exact hz hw
  · exact key _ hw ho.1
  · exact key _ hw ho.2

theorem iAimEmpty1 (i k : Nat) (w : World) : Fn Try.prog 55 [vint i, vint k] w (fun v w1 => v = .int .u8 (46 : UInt8).toNat ∧ w1 = w) := by
  refine Fn.enter (n := 5) Try.func55 rfl rfl rfl ?_
  show WC _ _ _ _ [(0, vint i), (1, vint k)] _
  refine WC.seq ?_
  refine WC.region ?_
  refine WL.u rfl rfl (Wt.plain rfl) (Ex.assign rfl) ?_
  refine WL.next ?_
  refine WC.seq ?_
  refine WC.region ?_
  refine WL.u rfl rfl (Wt.plain rfl) (Ex.assign rfl) ?_
  refine WL.next ?_
  refine WC.ret ?_
  refine WN.body1 rfl rfl ?_
  exact ⟨rfl, rfl⟩

theorem iAimEmpty (n m p q : Int) (w : World) : Fn Try.prog 21 [vint n, vint m, vint p, vint q] w (fun v w1 => v = .tuple #[vint (aimEmpty n m p q).1, .bool (aimEmpty n m p q).2] ∧ Keep [] w w1) := by
  refine Fn.enter (n := 22) Try.func21 rfl rfl rfl ?_
  show WC _ _ _ _ [(0, vint n), (1, vint m), (2, vint p), (3, vint q)] _
  have hH := Hp.start [] w
  refine WC.seq ?_
  refine WC.region ?_
  refine WL.u rfl rfl (Wt.plain rfl) (Ex.assign rfl) ?_
  refine WL.u rfl rfl (Wt.plain rfl) (Ex.assign rfl) ?_
  refine WL.next ?_
  refine WC.seq ?_
  refine WC.seq ?_
  refine WC.region ?_
  refine WL.u rfl rfl (Wt.plain rfl) (Ex.move rfl) ?_
  refine WL.u rfl rfl (Wt.plain rfl) (Ex.move rfl) ?_
  refine WL.call callable53 rfl (Wt.plain rfl) rfl rfl (ifewOk _ _ _ _) ?_
  rintro _ _ ⟨rfl, hw⟩; obtain rfl := hw.symm
  refine WL.u rfl rfl (Wt.plain rfl) (Ex.not rfl) ?_
  refine WL.next ?_
  refine WC.cond rfl (fun hc1 => ?_) (fun hc1 => ?_)
  · have hc1' := hc1; try simp only [decide_eq_true_eq, decide_eq_false_iff_not, Bool.not_eq_true', Bool.not_eq_false', Bool.not_eq_true, Bool.not_eq_false] at hc1'
    have hfw : fewB n m 9 = false := by simpa using hc1
    refine WC.seq ?_
    refine WC.region ?_
    refine WL.u rfl rfl (Wt.plain rfl) (Ex.assign rfl) ?_
    refine WL.u rfl rfl (Wt.plain rfl) (Ex.assign rfl) ?_
    refine WL.next ?_
    refine WC.ret ?_
    refine WN.retThen ?_
    refine WN.body2 rfl rfl rfl ?_
    exact ⟨by rw [aimEmpty_not hfw] <;> rfl, hH.keep⟩
  have hc1' := hc1; try simp only [decide_eq_true_eq, decide_eq_false_iff_not, Bool.not_eq_true', Bool.not_eq_false', Bool.not_eq_true, Bool.not_eq_false] at hc1'
  have hfw : fewB n m 9 = true := by simpa using hc1
  obtain ⟨n, m, rfl, rfl, h1, h2, h3, h4, h9⟩ := fewB_ex hfw
  have hp9 := pow9 h9
  have hGz := numG_ok 0 h1 h2 h3 h4
  refine WC.skip ?_
  refine WN.next ?_
  refine WC.seq ?_
  refine WC.region ?_
  refine WL.u rfl rfl (Wt.plain rfl) (Ex.move rfl) ?_
  refine WL.u rfl rfl (Wt.plain rfl) (Ex.move rfl) ?_
  refine WL.call callable54 rfl (Wt.plain rfl) rfl rfl (makeGrid0 n m 55 [] (fun _ _ => 46) _ callable55 (by omega) (by omega) (fun w2 i k hk hi hk2 => (iAimEmpty1 i k w2).mono (fun v w3 h => ⟨h.1, by rw [h.2]; exact Keep.refl _ _⟩))) ?_
  rintro _ wn ⟨hC, hN⟩; rw [empty_eq] at hN; obtain ⟨b16, cap16, cur16, rfl, hge16, hbb16, ho16⟩ := hN.own; replace hH := hH.push hC hge16 hbb16; clear hC hN
  refine WL.u rfl rfl (Wt.plain rfl) (Ex.move rfl) ?_
  refine WL.u rfl rfl (Wt.plain rfl) (Ex.move rfl) ?_
  refine WL.call callable18 rfl (Wt.plain rfl) rfl rfl (iAimGo (numG n m 0) _ _ p q _ (ho16.slAt hH 0 rfl) hGz.short) ?_
  rintro _ wn ⟨rfl, hC⟩; replace hH := hH.call hC; clear hC
  refine WL.u rfl rfl (Wt.plain rfl) (Ex.extract rfl rfl) ?_
  refine WL.u rfl rfl (Wt.plain rfl) (Ex.extract rfl rfl) ?_
  refine WL.u rfl rfl (Wt.plain rfl) (Ex.assign rfl) ?_
  refine WL.u rfl rfl (Wt.plain rfl) (Ex.assign rfl) ?_
  refine WL.next ?_
  refine WC.ret ?_
  refine WN.body2 rfl rfl rfl ?_
  exact ⟨by rw [aimEmpty_at hfw] <;> rfl, hH.keep⟩

theorem sAimEmpty (n m p q : Int) (w : World) : Fn Try.prog 20 [vint n, vint m, vint p, vint q] w (fun v w1 => v = .tuple #[vint (aimEmpty n m p q).1, .bool (aimEmpty n m p q).2] ∧ Keep [] w w1) := by
  refine Fn.enter (n := 37) Try.func20 rfl rfl rfl ?_
  show WC _ _ _ _ [(0, vint n), (1, vint m), (2, vint p), (3, vint q)] _
  have hH := Hp.start [] w
  refine WC.seq ?_
  refine WC.region ?_
  refine WL.u rfl rfl (Wt.plain rfl) (Ex.assign rfl) ?_
  refine WL.u rfl rfl (Wt.plain rfl) (Ex.assign rfl) ?_
  refine WL.next ?_
  refine WC.seq ?_
  refine WC.seq ?_
  refine WC.region ?_
  refine WL.u rfl rfl (Wt.plain rfl) (Ex.move rfl) ?_
  refine WL.call callable51 rfl (Wt.plain rfl) rfl rfl (sl6In n 1 5 _) ?_
  rintro _ _ ⟨rfl, hw⟩; obtain rfl := hw.symm
  refine WL.u rfl rfl (Wt.plain rfl) (Ex.not rfl) ?_
  refine WL.u rfl rfl (Wt.plain rfl) (Ex.move rfl) ?_
  refine WL.split (t := 14) rfl (fun hg1_3 => ?_) (fun hg1_3 => ?_)
  · have hg1_3' := hg1_3; try simp only [decide_eq_true_eq, decide_eq_false_iff_not, Bool.not_eq_true', Bool.not_eq_false', Bool.not_eq_true, Bool.not_eq_false] at hg1_3'
    have hfw : fewB n m 9 = false := decide_eq_false (by omega)
    refine WL.pass rfl rfl (Wt.guard' rfl rfl rfl hg1_3 rfl) ?_
    refine WL.pass rfl rfl (Wt.guard' rfl rfl rfl hg1_3 rfl) ?_
    refine WL.pass rfl rfl (Wt.guard' rfl rfl rfl hg1_3 rfl) ?_
    refine WL.u rfl rfl (Wt.plain rfl) (Ex.pickT rfl hg1_3 rfl) ?_
    refine WL.u rfl rfl (Wt.plain rfl) (Ex.move rfl) ?_
    refine WL.pass rfl rfl (Wt.guard' rfl rfl rfl rfl rfl) ?_
    refine WL.pass rfl rfl (Wt.guard' rfl rfl rfl rfl rfl) ?_
    refine WL.pass rfl rfl (Wt.guard' rfl rfl rfl rfl rfl) ?_
    refine WL.pass rfl rfl (Wt.guard' rfl rfl rfl rfl rfl) ?_
    refine WL.u rfl rfl (Wt.plain rfl) (Ex.pickT rfl rfl rfl) ?_
    refine WL.next ?_
    refine WC.condT rfl rfl ?_
    refine WC.seq ?_
    refine WC.region ?_
    refine WL.u rfl rfl (Wt.plain rfl) (Ex.assign rfl) ?_
    refine WL.u rfl rfl (Wt.plain rfl) (Ex.assign rfl) ?_
    refine WL.next ?_
    refine WC.ret ?_
    refine WN.retThen ?_
    refine WN.body2 rfl rfl rfl ?_
    exact ⟨by rw [aimEmpty_not hfw] <;> rfl, hH.keep⟩
  have hg1_3' := hg1_3; try simp only [decide_eq_true_eq, decide_eq_false_iff_not, Bool.not_eq_true', Bool.not_eq_false', Bool.not_eq_true, Bool.not_eq_false] at hg1_3'
  refine WL.u rfl rfl (Wt.guard' rfl rfl rfl hg1_3 rfl) (Ex.move rfl) ?_
  refine WL.call callable51 rfl (Wt.guard' rfl rfl rfl hg1_3 rfl) rfl rfl (sl6In m 1 5 _) ?_
  rintro _ _ ⟨rfl, hw⟩; obtain rfl := hw.symm
  refine WL.u rfl rfl (Wt.guard' rfl rfl rfl hg1_3 rfl) (Ex.not rfl) ?_
  refine WL.u rfl rfl (Wt.plain rfl) (Ex.pickF rfl hg1_3 rfl) ?_
  refine WL.u rfl rfl (Wt.plain rfl) (Ex.move rfl) ?_
  refine WL.split (t := 19) rfl (fun hg1_8 => ?_) (fun hg1_8 => ?_)
  · have hg1_8' := hg1_8; try simp only [decide_eq_true_eq, decide_eq_false_iff_not, Bool.not_eq_true', Bool.not_eq_false', Bool.not_eq_true, Bool.not_eq_false] at hg1_8'
    have hfw : fewB n m 9 = false := decide_eq_false (by omega)
    refine WL.pass rfl rfl (Wt.guard' rfl rfl rfl hg1_8 rfl) ?_
    refine WL.pass rfl rfl (Wt.guard' rfl rfl rfl hg1_8 rfl) ?_
    refine WL.pass rfl rfl (Wt.guard' rfl rfl rfl hg1_8 rfl) ?_
    refine WL.pass rfl rfl (Wt.guard' rfl rfl rfl hg1_8 rfl) ?_
    refine WL.u rfl rfl (Wt.plain rfl) (Ex.pickT rfl hg1_8 rfl) ?_
    refine WL.next ?_
    refine WC.condT rfl rfl ?_
    refine WC.seq ?_
    refine WC.region ?_
    refine WL.u rfl rfl (Wt.plain rfl) (Ex.assign rfl) ?_
    refine WL.u rfl rfl (Wt.plain rfl) (Ex.assign rfl) ?_
    refine WL.next ?_
    refine WC.ret ?_
    refine WN.retThen ?_
    refine WN.body2 rfl rfl rfl ?_
    exact ⟨by rw [aimEmpty_not hfw] <;> rfl, hH.keep⟩
  have hg1_8' := hg1_8; try simp only [decide_eq_true_eq, decide_eq_false_iff_not, Bool.not_eq_true', Bool.not_eq_false', Bool.not_eq_true, Bool.not_eq_false] at hg1_8'
  have hmb := mulB n m (by omega) (by omega)
  refine WL.u rfl rfl (Wt.guard' rfl rfl rfl hg1_8 rfl) (Ex.move rfl) ?_
  refine WL.u rfl rfl (Wt.guard' rfl rfl rfl hg1_8 rfl) (Ex.move rfl) ?_
  refine WL.u rfl rfl (Wt.guard' rfl rfl rfl hg1_8 rfl) (Ex.mul rfl rfl (by omega)) ?_
  refine WL.u rfl rfl (Wt.guard' rfl rfl rfl hg1_8 rfl) (Ex.gtr rfl rfl) ?_
  refine WL.u rfl rfl (Wt.plain rfl) (Ex.pickF rfl hg1_8 rfl) ?_
  refine WL.next ?_
  refine WC.cond rfl (fun hc1 => ?_) (fun hc1 => ?_)
  · have hc1' := hc1; try simp only [decide_eq_true_eq, decide_eq_false_iff_not, Bool.not_eq_true', Bool.not_eq_false', Bool.not_eq_true, Bool.not_eq_false] at hc1'
    have hfw : fewB n m 9 = false := decide_eq_false (by omega)
    refine WC.seq ?_
    refine WC.region ?_
    refine WL.u rfl rfl (Wt.plain rfl) (Ex.assign rfl) ?_
    refine WL.u rfl rfl (Wt.plain rfl) (Ex.assign rfl) ?_
    refine WL.next ?_
    refine WC.ret ?_
    refine WN.retThen ?_
    refine WN.body2 rfl rfl rfl ?_
    exact ⟨by rw [aimEmpty_not hfw] <;> rfl, hH.keep⟩
  have hc1' := hc1; try simp only [decide_eq_true_eq, decide_eq_false_iff_not, Bool.not_eq_true', Bool.not_eq_false', Bool.not_eq_true, Bool.not_eq_false] at hc1'
  have hfw : fewB n m 9 = true := decide_eq_true (by omega)
  obtain ⟨n, m, rfl, rfl, h1, h2, h3, h4, h9⟩ := fewB_ex hfw
  have hGz := numG_ok 0 h1 h2 h3 h4
  have hae := aimEmpty_at (p := p) (q := q) hfw
  refine WC.skip ?_
  refine WN.next ?_
  refine WC.seq ?_
  refine WC.region ?_
  refine WL.u rfl rfl (Wt.plain rfl) (Ex.move rfl) ?_
  refine WL.u rfl rfl (Wt.plain rfl) (Ex.move rfl) ?_
  refine WL.call callable52 rfl (Wt.plain rfl) rfl rfl (sl1Of n m 0 _ h2 h4 (by omega)) ?_
  rintro _ wn ⟨hC, hN⟩; obtain ⟨b27, cap27, cur27, rfl, hge27, hbb27, ho27⟩ := hN.own; replace hH := hH.push hC hge27 hbb27; clear hC hN
  refine WL.u rfl rfl (Wt.plain rfl) (Ex.assign rfl) ?_
  refine WL.next ?_
  refine WC.seq ?_
  refine WC.seq ?_
  refine WC.region ?_
  refine WL.u rfl rfl (Wt.plain rfl) (Ex.move rfl) ?_
  refine WL.u rfl rfl (Wt.plain rfl) (Ex.move rfl) ?_
  refine WL.u rfl rfl (Wt.plain rfl) (Ex.move rfl) ?_
  refine WL.call callable46 rfl (Wt.plain rfl) rfl rfl (sl9Given (numG n m 0) _ _ p q 9 _ (ho27.slAt hH 0 rfl) hGz.short) ?_
  rintro _ wn ⟨rfl, hC⟩; replace hH := hH.dr hC; clear hC
  refine WL.u rfl rfl (Wt.plain rfl) (Ex.not rfl) ?_
  refine WL.next ?_
  refine WC.cond rfl (fun hc2 => ?_) (fun hc2 => ?_)
  · have hc2' := hc2; try simp only [decide_eq_true_eq, decide_eq_false_iff_not, Bool.not_eq_true', Bool.not_eq_false', Bool.not_eq_true, Bool.not_eq_false] at hc2'
    have hai : aimB (numG n m 0) p q 9 = false := by simpa using hc2
    refine WC.seq ?_
    refine WC.region ?_
    refine WL.u rfl rfl (Wt.plain rfl) (Ex.assign rfl) ?_
    refine WL.u rfl rfl (Wt.plain rfl) (Ex.assign rfl) ?_
    refine WL.next ?_
    refine WC.ret ?_
    refine WN.retThen ?_
    refine WN.body2 rfl rfl rfl ?_
    exact ⟨by rw [hae, aimGo_not hai] <;> rfl, hH.keep⟩
  have hc2' := hc2; try simp only [decide_eq_true_eq, decide_eq_false_iff_not, Bool.not_eq_true', Bool.not_eq_false', Bool.not_eq_true, Bool.not_eq_false] at hc2'
  have hai : aimB (numG n m 0) p q 9 = true := by simpa using hc2
  obtain ⟨hG, p, q, rfl, rfl, hp, hq, hpq, h6⟩ := aimB_ex hai
  refine WC.skip ?_
  refine WN.next ?_
  refine WC.seq ?_
  refine WC.region ?_
  refine WL.u rfl rfl (Wt.plain rfl) (Ex.move rfl) ?_
  refine WL.u rfl rfl (Wt.plain rfl) (Ex.move rfl) ?_
  refine WL.u rfl rfl (Wt.plain rfl) (Ex.move rfl) ?_
  refine WL.call callable47 rfl (Wt.plain rfl) rfl rfl (sl9Least (numG n m 0) _ _ p q _ (ho27.slAt hH 0 rfl) hG hp) ?_
  rintro _ wn ⟨rfl, hC⟩; replace hH := hH.call hC; clear hC
  refine WL.u rfl rfl (Wt.plain rfl) (Ex.assign rfl) ?_
  refine WL.u rfl rfl (Wt.plain rfl) (Ex.assign rfl) ?_
  refine WL.next ?_
  refine WC.ret ?_
  refine WN.body2 rfl rfl rfl ?_
  exact ⟨by rw [hae, aimGo_at hai] <;> rfl, hH.keep⟩

theorem lawExactAimEmpty (n m p q : Int) (w : World) : Fn Try.prog 4 [vint n, vint m, vint p, vint q] w (fun v w1 => v = .bool true ∧ Keep [] w w1) := by
  refine Fn.enter (n := 37) Try.func4 rfl rfl rfl ?_
  show WC _ _ _ _ [(0, vint n), (1, vint m), (2, vint p), (3, vint q)] _
  have hH := Hp.start [] w
  refine WC.seq ?_
  refine WC.region ?_
  refine WL.u rfl rfl (Wt.plain rfl) (Ex.assign rfl) ?_
  refine WL.next ?_
  refine WC.seq ?_
  refine WC.region ?_
  refine WL.u rfl rfl (Wt.plain rfl) (Ex.move rfl) ?_
  refine WL.u rfl rfl (Wt.plain rfl) (Ex.move rfl) ?_
  refine WL.u rfl rfl (Wt.plain rfl) (Ex.move rfl) ?_
  refine WL.u rfl rfl (Wt.plain rfl) (Ex.move rfl) ?_
  refine WL.call callable20 rfl (Wt.plain rfl) rfl rfl (sAimEmpty n m p q _) ?_
  rintro _ wn ⟨rfl, hC⟩; replace hH := hH.call hC; clear hC
  refine WL.u rfl rfl (Wt.plain rfl) (Ex.move rfl) ?_
  refine WL.u rfl rfl (Wt.plain rfl) (Ex.extract rfl rfl) ?_
  refine WL.u rfl rfl (Wt.plain rfl) (Ex.extract rfl rfl) ?_
  refine WL.u rfl rfl (Wt.plain rfl) (Ex.assign rfl) ?_
  refine WL.u rfl rfl (Wt.plain rfl) (Ex.assign rfl) ?_
  refine WL.next ?_
  refine WC.seq ?_
  refine WC.region ?_
  refine WL.u rfl rfl (Wt.plain rfl) (Ex.move rfl) ?_
  refine WL.u rfl rfl (Wt.plain rfl) (Ex.move rfl) ?_
  refine WL.u rfl rfl (Wt.plain rfl) (Ex.move rfl) ?_
  refine WL.u rfl rfl (Wt.plain rfl) (Ex.move rfl) ?_
  refine WL.call callable21 rfl (Wt.plain rfl) rfl rfl (iAimEmpty n m p q _) ?_
  rintro _ wn ⟨rfl, hC⟩; replace hH := hH.call hC; clear hC
  refine WL.u rfl rfl (Wt.plain rfl) (Ex.move rfl) ?_
  refine WL.u rfl rfl (Wt.plain rfl) (Ex.extract rfl rfl) ?_
  refine WL.u rfl rfl (Wt.plain rfl) (Ex.extract rfl rfl) ?_
  refine WL.u rfl rfl (Wt.plain rfl) (Ex.assign rfl) ?_
  refine WL.u rfl rfl (Wt.plain rfl) (Ex.assign rfl) ?_
  refine WL.next ?_
  refine WC.seq ?_
  refine WC.seq ?_
  refine WC.region ?_
  refine WL.u rfl rfl (Wt.plain rfl) (Ex.move rfl) ?_
  refine WL.u rfl rfl (Wt.plain rfl) (Ex.move rfl) ?_
  refine WL.u rfl rfl (Wt.plain rfl) (Ex.neq rfl rfl) ?_
  refine WL.u rfl rfl (Wt.plain rfl) (Ex.move rfl) ?_
  refine WL.split (t := 32) rfl (fun hg3_3 => ?_) (fun hg3_3 => ?_)
  · exfalso; simp at hg3_3
  have hg3_3' := hg3_3; try simp only [decide_eq_true_eq, decide_eq_false_iff_not, Bool.not_eq_true', Bool.not_eq_false', Bool.not_eq_true, Bool.not_eq_false] at hg3_3'
  refine WL.u rfl rfl (Wt.guard' rfl rfl rfl hg3_3 rfl) (Ex.move rfl) ?_
  refine WL.u rfl rfl (Wt.guard' rfl rfl rfl hg3_3 rfl) (Ex.move rfl) ?_
  refine WL.u rfl rfl (Wt.guard' rfl rfl rfl hg3_3 rfl) (Ex.neqB Try.underlying4 rfl rfl) ?_
  refine WL.u rfl rfl (Wt.plain rfl) (Ex.pickF rfl hg3_3 rfl) ?_
  refine WL.next ?_
  refine WC.condF rfl (by simp) ?_
  refine WC.skip ?_
  refine WN.next ?_
  refine WC.seq ?_
  refine WC.region ?_
  refine WL.u rfl rfl (Wt.plain rfl) (Ex.assign rfl) ?_
  refine WL.next ?_
  refine WC.ret ?_
  refine WN.body1 rfl rfl ?_
  exact ⟨rfl, hH.keep⟩

theorem iplaceOf (n m p : Nat) (w : World) (h1 : 1 ≤ n) (h2 : n ≤ 5) (h3 : 1 ≤ m) (h4 : m ≤ 5) (hp : p < 2 * n + 2 * m) : Fn Try.prog 63 [vint n, vint m, vint p] w (fun v w1 => v = .agg #[vint (placeN n m p).1, vint (placeN n m p).2] ∧ Keep [] w w1) := by
  refine Fn.enter (n := 49) Try.func63 rfl rfl rfl ?_
  show WC _ _ _ _ [(0, vint n), (1, vint m), (2, vint p)] _
  have hH := Hp.start [] w
  refine WC.seq ?_
  refine WC.region ?_
  refine WL.alloc ty73 rfl rfl (Wt.plain rfl) hH (fun b6 wn hb6 hk6 hH => ?_)
  refine WL.next ?_
  refine WC.seq ?_
  refine WC.block ?_
  refine WC.seq ?_
  refine WC.region ?_
  refine WL.u rfl rfl (Wt.plain rfl) (Ex.move rfl) ?_
  refine WL.u rfl rfl (Wt.plain rfl) (Ex.move rfl) ?_
  refine WL.u rfl rfl (Wt.plain rfl) (Ex.lss rfl rfl) ?_
  refine WL.u rfl rfl (Wt.plain rfl) (Ex.assign rfl) ?_
  refine WL.next ?_
  refine WC.cond rfl (fun hc1 => ?_) (fun hc1 => ?_)
  · have hc1' := hc1; try simp only [decide_eq_true_eq, decide_eq_false_iff_not, Bool.not_eq_true', Bool.not_eq_false', Bool.not_eq_true, Bool.not_eq_false] at hc1'
    refine WC.seq ?_
    refine WC.region ?_
    refine WL.u rfl rfl (Wt.plain rfl) (Ex.move rfl) ?_
    refine WL.u rfl rfl (Wt.plain rfl) (Ex.buildS bd73 rfl rfl rfl rfl rfl) ?_
    refine WL.store2 ty73 rfl rfl rfl rfl (Wt.plain rfl) hH (fun wn hk hH => ?_)
    refine WL.next ?_
    refine WC.ret ?_
    refine WN.retBlock ?_
    refine WN.retThen ?_
    refine WN.cell1 rfl rfl Try.underlying73 ty73 hH ?_
    exact ⟨by unfold placeN; rw [if_pos (by omega)] <;> rfl, hH.keep⟩
  have hc1' := hc1; try simp only [decide_eq_true_eq, decide_eq_false_iff_not, Bool.not_eq_true', Bool.not_eq_false', Bool.not_eq_true, Bool.not_eq_false] at hc1'
  refine WC.seq ?_
  refine WC.region ?_
  refine WL.u rfl rfl (Wt.plain rfl) (Ex.move rfl) ?_
  refine WL.u rfl rfl (Wt.plain rfl) (Ex.move rfl) ?_
  refine WL.u rfl rfl (Wt.plain rfl) (Ex.move rfl) ?_
  refine WL.u rfl rfl (Wt.plain rfl) (Ex.add rfl rfl (by omega)) ?_
  refine WL.u rfl rfl (Wt.plain rfl) (Ex.lss rfl rfl) ?_
  refine WL.u rfl rfl (Wt.plain rfl) (Ex.assign rfl) ?_
  refine WL.next ?_
  refine WC.cond rfl (fun hc2 => ?_) (fun hc2 => ?_)
  · have hc2' := hc2; try simp only [decide_eq_true_eq, decide_eq_false_iff_not, Bool.not_eq_true', Bool.not_eq_false', Bool.not_eq_true, Bool.not_eq_false] at hc2'
    refine WC.seq ?_
    refine WC.region ?_
    refine WL.u rfl rfl (Wt.plain rfl) (Ex.move rfl) ?_
    refine WL.u rfl rfl (Wt.plain rfl) (Ex.move rfl) ?_
    refine WL.u rfl rfl (Wt.plain rfl) (Ex.sub rfl rfl (by omega)) ?_
    refine WL.u rfl rfl (Wt.plain rfl) (Ex.buildS bd73 rfl rfl rfl rfl rfl) ?_
    refine WL.store2 ty73 rfl rfl rfl rfl (Wt.plain rfl) hH (fun wn hk hH => ?_)
    refine WL.next ?_
    refine WC.ret ?_
    refine WN.retBlock ?_
    refine WN.retThen ?_
    refine WN.cell1 rfl rfl Try.underlying73 ty73 hH ?_
    refine ⟨?_, hH.keep⟩
    unfold placeN; rw [if_neg (by omega), if_pos (by omega)]
    exact congrArg (fun x : Int => Value.agg #[vint 1, vint x]) (show (p : Int) - (m : Int) = ((p - m : Nat) : Int) by omega)
  have hc2' := hc2; try simp only [decide_eq_true_eq, decide_eq_false_iff_not, Bool.not_eq_true', Bool.not_eq_false', Bool.not_eq_true, Bool.not_eq_false] at hc2'
  refine WC.seq ?_
  refine WC.region ?_
  refine WL.u rfl rfl (Wt.plain rfl) (Ex.move rfl) ?_
  refine WL.u rfl rfl (Wt.plain rfl) (Ex.move rfl) ?_
  refine WL.u rfl rfl (Wt.plain rfl) (Ex.mul rfl rfl (by omega)) ?_
  refine WL.u rfl rfl (Wt.plain rfl) (Ex.move rfl) ?_
  refine WL.u rfl rfl (Wt.plain rfl) (Ex.add rfl rfl (by omega)) ?_
  refine WL.u rfl rfl (Wt.plain rfl) (Ex.lss rfl rfl) ?_
  refine WL.u rfl rfl (Wt.plain rfl) (Ex.assign rfl) ?_
  refine WL.next ?_
  refine WC.cond rfl (fun hc3 => ?_) (fun hc3 => ?_)
  · have hc3' := hc3; try simp only [decide_eq_true_eq, decide_eq_false_iff_not, Bool.not_eq_true', Bool.not_eq_false', Bool.not_eq_true, Bool.not_eq_false] at hc3'
    refine WC.seq ?_
    refine WC.region ?_
    refine WL.u rfl rfl (Wt.plain rfl) (Ex.move rfl) ?_
    refine WL.u rfl rfl (Wt.plain rfl) (Ex.sub rfl rfl (by omega)) ?_
    refine WL.u rfl rfl (Wt.plain rfl) (Ex.move rfl) ?_
    refine WL.u rfl rfl (Wt.plain rfl) (Ex.move rfl) ?_
    refine WL.u rfl rfl (Wt.plain rfl) (Ex.sub rfl rfl (by omega)) ?_
    refine WL.u rfl rfl (Wt.plain rfl) (Ex.move rfl) ?_
    refine WL.u rfl rfl (Wt.plain rfl) (Ex.sub rfl rfl (by omega)) ?_
    refine WL.u rfl rfl (Wt.plain rfl) (Ex.sub rfl rfl (by omega)) ?_
    refine WL.u rfl rfl (Wt.plain rfl) (Ex.buildS bd73 rfl rfl rfl rfl rfl) ?_
    refine WL.store2 ty73 rfl rfl rfl rfl (Wt.plain rfl) hH (fun wn hk hH => ?_)
    refine WL.next ?_
    refine WC.ret ?_
    refine WN.retBlock ?_
    refine WN.retThen ?_
    refine WN.cell1 rfl rfl Try.underlying73 ty73 hH ?_
    refine ⟨?_, hH.keep⟩
    unfold placeN; rw [if_neg (by omega), if_neg (by omega), if_pos (by omega)]
    exact congrArg (fun x : Int => Value.agg #[vint 2, vint x]) (show (m : Int) - 1 - ((p : Int) - (m : Int) - (n : Int)) = ((m - 1 - (p - m - n) : Nat) : Int) by omega)
  have hc3' := hc3; try simp only [decide_eq_true_eq, decide_eq_false_iff_not, Bool.not_eq_true', Bool.not_eq_false', Bool.not_eq_true, Bool.not_eq_false] at hc3'
  refine WC.skip ?_
  refine WN.normalBlock ?_
  refine WN.next ?_
  refine WC.seq ?_
  refine WC.region ?_
  refine WL.u rfl rfl (Wt.plain rfl) (Ex.move rfl) ?_
  refine WL.u rfl rfl (Wt.plain rfl) (Ex.sub rfl rfl (by omega)) ?_
  refine WL.u rfl rfl (Wt.plain rfl) (Ex.move rfl) ?_
  refine WL.u rfl rfl (Wt.plain rfl) (Ex.move rfl) ?_
  refine WL.u rfl rfl (Wt.plain rfl) (Ex.mul rfl rfl (by omega)) ?_
  refine WL.u rfl rfl (Wt.plain rfl) (Ex.sub rfl rfl (by omega)) ?_
  refine WL.u rfl rfl (Wt.plain rfl) (Ex.move rfl) ?_
  refine WL.u rfl rfl (Wt.plain rfl) (Ex.sub rfl rfl (by omega)) ?_
  refine WL.u rfl rfl (Wt.plain rfl) (Ex.sub rfl rfl (by omega)) ?_
  refine WL.u rfl rfl (Wt.plain rfl) (Ex.buildS bd73 rfl rfl rfl rfl rfl) ?_
  refine WL.store2 ty73 rfl rfl rfl rfl (Wt.plain rfl) hH (fun wn hk hH => ?_)
  refine WL.next ?_
  refine WC.ret ?_
  refine WN.cell1 rfl rfl Try.underlying73 ty73 hH ?_
  refine ⟨?_, hH.keep⟩
  unfold placeN; rw [if_neg (by omega), if_neg (by omega), if_neg (by omega)]
  exact congrArg (fun x : Int => Value.agg #[vint 3, vint x]) (show (n : Int) - 1 - ((p : Int) - 2 * (m : Int) - (n : Int)) = ((n - 1 - (p - 2 * m - n) : Nat) : Int) by omega)

theorem iportOf (n m : Nat) (s x : Int) (w : World) (h2 : n ≤ 5) (h4 : m ≤ 5) (hx : -1000 ≤ x ∧ x ≤ 1000) : Fn Try.prog 64 [vint n, vint m, .agg #[vint s, vint x]] w (fun v w1 => v = vint (portI n m s x) ∧ Keep [] w w1) := by
  refine Fn.enter (n := 40) Try.func64 rfl rfl rfl ?_
  show WC _ _ _ _ [(0, vint n), (1, vint m), (2, .agg #[vint s, vint x])] _
  have hH := Hp.start [] w
  refine WC.seq ?_
  refine WC.region ?_
  refine WL.box rfl rfl rfl (Wt.plain rfl) hH (fun b5 wn hb5 hk5 hH => ?_)
  refine WL.u rfl rfl (Wt.plain rfl) (Ex.assign rfl) ?_
  refine WL.next ?_
  refine WC.seq ?_
  refine WC.seq ?_
  refine WC.region ?_
  refine WL.u rfl rfl (Wt.plain rfl) (Ex.fieldAddr fd73_0 rfl) ?_
  refine WL.u rfl rfl (Wt.plain rfl) (Ex.loadHp flat3 rfl hH rfl) ?_
  refine WL.next ?_
  refine WC.block ?_
  refine WC.seq ?_
  refine WC.region ?_
  refine WL.u rfl rfl (Wt.plain rfl) (Ex.eql rfl rfl) ?_
  refine WL.u rfl rfl (Wt.plain rfl) (Ex.assign rfl) ?_
  refine WL.next ?_
  refine WC.cond rfl (fun hc1 => ?_) (fun hc1 => ?_)
  · have hc1' := hc1; try simp only [decide_eq_true_eq, decide_eq_false_iff_not, Bool.not_eq_true', Bool.not_eq_false', Bool.not_eq_true, Bool.not_eq_false] at hc1'
    refine WC.seq ?_
    refine WC.region ?_
    refine WL.u rfl rfl (Wt.plain rfl) (Ex.fieldAddr fd73_1 rfl) ?_
    refine WL.u rfl rfl (Wt.plain rfl) (Ex.loadHp flat3 rfl hH rfl) ?_
    refine WL.u rfl rfl (Wt.plain rfl) (Ex.assign rfl) ?_
    refine WL.next ?_
    refine WC.ret ?_
    refine WN.retBlock ?_
    refine WN.retThen ?_
    refine WN.body1 rfl rfl ?_
    exact ⟨by unfold portI; rw [if_pos (by omega)] <;> rfl, hH.keep⟩
  have hc1' := hc1; try simp only [decide_eq_true_eq, decide_eq_false_iff_not, Bool.not_eq_true', Bool.not_eq_false', Bool.not_eq_true, Bool.not_eq_false] at hc1'
  refine WC.seq ?_
  refine WC.region ?_
  refine WL.u rfl rfl (Wt.plain rfl) (Ex.eql rfl rfl) ?_
  refine WL.u rfl rfl (Wt.plain rfl) (Ex.assign rfl) ?_
  refine WL.next ?_
  refine WC.cond rfl (fun hc2 => ?_) (fun hc2 => ?_)
  · have hc2' := hc2; try simp only [decide_eq_true_eq, decide_eq_false_iff_not, Bool.not_eq_true', Bool.not_eq_false', Bool.not_eq_true, Bool.not_eq_false] at hc2'
    refine WC.seq ?_
    refine WC.region ?_
    refine WL.u rfl rfl (Wt.plain rfl) (Ex.move rfl) ?_
    refine WL.u rfl rfl (Wt.plain rfl) (Ex.fieldAddr fd73_1 rfl) ?_
    refine WL.u rfl rfl (Wt.plain rfl) (Ex.loadHp flat3 rfl hH rfl) ?_
    refine WL.u rfl rfl (Wt.plain rfl) (Ex.add rfl rfl (by omega)) ?_
    refine WL.u rfl rfl (Wt.plain rfl) (Ex.assign rfl) ?_
    refine WL.next ?_
    refine WC.ret ?_
    refine WN.retBlock ?_
    refine WN.retThen ?_
    refine WN.body1 rfl rfl ?_
    exact ⟨by unfold portI; rw [if_neg (by omega), if_pos (by omega)] <;> rfl, hH.keep⟩
  have hc2' := hc2; try simp only [decide_eq_true_eq, decide_eq_false_iff_not, Bool.not_eq_true', Bool.not_eq_false', Bool.not_eq_true, Bool.not_eq_false] at hc2'
  refine WC.seq ?_
  refine WC.region ?_
  refine WL.u rfl rfl (Wt.plain rfl) (Ex.eql rfl rfl) ?_
  refine WL.u rfl rfl (Wt.plain rfl) (Ex.assign rfl) ?_
  refine WL.next ?_
  refine WC.cond rfl (fun hc3 => ?_) (fun hc3 => ?_)
  · have hc3' := hc3; try simp only [decide_eq_true_eq, decide_eq_false_iff_not, Bool.not_eq_true', Bool.not_eq_false', Bool.not_eq_true, Bool.not_eq_false] at hc3'
    refine WC.seq ?_
    refine WC.region ?_
    refine WL.u rfl rfl (Wt.plain rfl) (Ex.move rfl) ?_
    refine WL.u rfl rfl (Wt.plain rfl) (Ex.move rfl) ?_
    refine WL.u rfl rfl (Wt.plain rfl) (Ex.add rfl rfl (by omega)) ?_
    refine WL.u rfl rfl (Wt.plain rfl) (Ex.move rfl) ?_
    refine WL.u rfl rfl (Wt.plain rfl) (Ex.add rfl rfl (by omega)) ?_
    refine WL.u rfl rfl (Wt.plain rfl) (Ex.sub rfl rfl (by omega)) ?_
    refine WL.u rfl rfl (Wt.plain rfl) (Ex.fieldAddr fd73_1 rfl) ?_
    refine WL.u rfl rfl (Wt.plain rfl) (Ex.loadHp flat3 rfl hH rfl) ?_
    refine WL.u rfl rfl (Wt.plain rfl) (Ex.sub rfl rfl (by omega)) ?_
    refine WL.u rfl rfl (Wt.plain rfl) (Ex.assign rfl) ?_
    refine WL.next ?_
    refine WC.ret ?_
    refine WN.retBlock ?_
    refine WN.retThen ?_
    refine WN.body1 rfl rfl ?_
    refine ⟨?_, hH.keep⟩
    unfold portI; rw [if_neg (by omega), if_neg (by omega), if_pos (by omega)]
    exact congrArg (Value.int IntKind.i64) (by omega)
  have hc3' := hc3; try simp only [decide_eq_true_eq, decide_eq_false_iff_not, Bool.not_eq_true', Bool.not_eq_false', Bool.not_eq_true, Bool.not_eq_false] at hc3'
  refine WC.skip ?_
  refine WN.normalBlock ?_
  refine WN.next ?_
  refine WC.seq ?_
  refine WC.region ?_
  refine WL.u rfl rfl (Wt.plain rfl) (Ex.move rfl) ?_
  refine WL.u rfl rfl (Wt.plain rfl) (Ex.mul rfl rfl (by omega)) ?_
  refine WL.u rfl rfl (Wt.plain rfl) (Ex.move rfl) ?_
  refine WL.u rfl rfl (Wt.plain rfl) (Ex.add rfl rfl (by omega)) ?_
  refine WL.u rfl rfl (Wt.plain rfl) (Ex.move rfl) ?_
  refine WL.u rfl rfl (Wt.plain rfl) (Ex.add rfl rfl (by omega)) ?_
  refine WL.u rfl rfl (Wt.plain rfl) (Ex.sub rfl rfl (by omega)) ?_
  refine WL.u rfl rfl (Wt.plain rfl) (Ex.fieldAddr fd73_1 rfl) ?_
  refine WL.u rfl rfl (Wt.plain rfl) (Ex.loadHp flat3 rfl hH rfl) ?_
  refine WL.u rfl rfl (Wt.plain rfl) (Ex.sub rfl rfl (by omega)) ?_
  refine WL.u rfl rfl (Wt.plain rfl) (Ex.assign rfl) ?_
  refine WL.next ?_
  refine WC.ret ?_
  refine WN.body1 rfl rfl ?_
  refine ⟨?_, hH.keep⟩
  unfold portI; rw [if_neg (by omega), if_neg (by omega), if_neg (by omega)]
  exact congrArg (Value.int IntKind.i64) (by omega)

theorem iJoinUnit (n m : Nat) (w : World) (h1 : 1 ≤ n) (h2 : n ≤ 5) (h3 : 1 ≤ m) (h4 : m ≤ 5) : Fn Try.prog 25 [vint n, vint m] w (fun v w1 => ∃ x l, v = .tuple #[x, .bool true] ∧ Keep [] w w1 ∧ New rInt 3 w w1 x l ∧ l.length = 2 * n + 2 * m ∧ ∀ p, p < 2 * n + 2 * m → l.getD p 0 = ((opp n m p : Nat) : Int)) := by
  refine Fn.enter (n := 44) Try.func25 rfl rfl rfl ?_
  show WC _ _ _ _ [(0, vint n), (1, vint m)] _
  have hH := Hp.start [] w
  refine WC.seq ?_
  refine WC.region ?_
  refine WL.u rfl rfl (Wt.plain rfl) (Ex.assign rfl) ?_
  refine WL.u rfl rfl (Wt.plain rfl) (Ex.assign rfl) ?_
  refine WL.next ?_
  refine WC.seq ?_
  refine WC.seq ?_
  refine WC.region ?_
  refine WL.u rfl rfl (Wt.plain rfl) (Ex.move rfl) ?_
  refine WL.u rfl rfl (Wt.plain rfl) (Ex.move rfl) ?_
  refine WL.call callable62 rfl (Wt.plain rfl) rfl rfl (isidesOk n m _) ?_
  rintro _ _ ⟨rfl, hw⟩; obtain rfl := hw.symm
  refine WL.u rfl rfl (Wt.plain rfl) (Ex.not rfl) ?_
  refine WL.next ?_
  refine WC.condF rfl (by rw [decide_eq_true (show (1 : Int) ≤ n ∧ (n : Int) ≤ 5 ∧ (1 : Int) ≤ m ∧ (m : Int) ≤ 5 by omega)] <;> rfl) ?_
  refine WC.skip ?_
  refine WN.next ?_
  refine WC.seq ?_
  refine WC.region ?_
  refine WL.u rfl rfl (Wt.plain rfl) (Ex.move rfl) ?_
  refine WL.u rfl rfl (Wt.plain rfl) (Ex.mul rfl rfl (by omega)) ?_
  refine WL.u rfl rfl (Wt.plain rfl) (Ex.move rfl) ?_
  refine WL.u rfl rfl (Wt.plain rfl) (Ex.mul rfl rfl (by omega)) ?_
  refine WL.u rfl rfl (Wt.plain rfl) ((Ex.add rfl rfl (by omega)).to (congrArg (Value.int IntKind.i64) (show _ = ((2 * n + 2 * m : Nat) : Int) by omega))) ?_
  refine WL.makeSlice Try.underlying38 ty3 rfl rfl (by omega) (by omega) rfl (Wt.plain rfl) hH (fun b19 wn hb19 hk19 hH => ?_)
  have ho19 := Own.made rInt (z := vint 0) 0 rfl rfl (k := 2 * n + 2 * m) (by omega)
  refine WL.u rfl rfl (Wt.plain rfl) (Ex.assign rfl) ?_
  refine WL.next ?_
  refine WC.seq ?_
  refine WC.seq ?_
  refine WC.region ?_
  refine WL.u rfl rfl (Wt.plain rfl) (Ex.move rfl) ?_
  refine WL.u rfl rfl (Wt.plain rfl) (Ex.lenSl Try.underlying38 rfl) ?_
  refine WL.u rfl rfl (Wt.plain rfl) (Ex.move rfl) ?_
  refine WL.next ?_
  refine WC.block ?_
  refine WC.loop (ι := Nat × (Array Value) × (List Int)) (fun (i, cur19, l) => [(0, vint n), (1, vint m), (6, vsl b19 (2 * n + 2 * m) (2 * n + 2 * m)), (21, vint (2 * n + 2 * m : Nat)), (22, vint i)]) (fun (i, cur19, l) wn => Hp [] w wn [(b19, .cells cur19 3 (0, 0))] ∧ Own rInt cur19 (2 * n + 2 * m) l ∧ l.length = 2 * n + 2 * m ∧ (∀ p, p < i → l.getD p 0 = ((opp n m p : Nat) : Int)) ∧ i ≤ 2 * n + 2 * m) (fun (i, cur19, l) => 2 * n + 2 * m - i) ((0, madeCells (vint 0).cells ((2 * n + 2 * m) * 1), List.replicate (2 * n + 2 * m) 0)) (by exact ⟨rfl, rfl, rfl, rfl, rfl, trivial⟩) ?_ ?_
  · exact ⟨hH, ho19, by simp, fun p hp => by omega, Nat.zero_le _⟩
  rintro ⟨i, cur19, l⟩ wn ⟨hH, ho19, hll, hl, hi⟩
  intro mu0 hmu; try dsimp only at hmu
  show WC _ _ _ _ [(0, vint n), (1, vint m), (6, vsl b19 (2 * n + 2 * m) (2 * n + 2 * m)), (21, vint (2 * n + 2 * m : Nat)), (22, vint i)] _
  refine WC.seq ?_
  refine WC.region ?_
  refine WL.u rfl rfl (Wt.plain rfl) (Ex.lss rfl rfl) ?_
  refine WL.next ?_
  refine WC.seq ?_
  refine WC.cond rfl (fun hc2 => ?_) (fun hc2 => ?_)
  · have hc2' := hc2; try simp only [decide_eq_true_eq, decide_eq_false_iff_not, Bool.not_eq_true', Bool.not_eq_false', Bool.not_eq_true, Bool.not_eq_false] at hc2'
    have hlt : i < 2 * n + 2 * m := by omega
    have hpb := place_bd h1 h3 hlt
    have hpo := place_opp h1 h3 hlt
    refine WC.skip ?_
    refine WN.next ?_
    refine WC.seq ?_
    refine WC.block ?_
    refine WC.seq ?_
    refine WC.region ?_
    refine WL.u rfl rfl (Wt.plain rfl) (Ex.move rfl) ?_
    refine WL.u rfl rfl (Wt.plain rfl) (Ex.assign rfl) ?_
    refine WL.next ?_
    refine WC.seq ?_
    refine WC.region ?_
    refine WL.u rfl rfl (Wt.plain rfl) (Ex.move rfl) ?_
    refine WL.u rfl rfl (Wt.plain rfl) (Ex.move rfl) ?_
    refine WL.u rfl rfl (Wt.plain rfl) (Ex.move rfl) ?_
    refine WL.call callable63 rfl (Wt.plain rfl) rfl rfl (iplaceOf n m i _ h1 h2 h3 h4 hlt) ?_
    rintro _ wn ⟨rfl, hC⟩; replace hH := hH.call hC; clear hC
    refine WL.alloc ty73 rfl rfl (Wt.plain rfl) hH (fun b8 wn hb8 hk8 hH => ?_)
    refine WL.store2 ty73 rfl rfl rfl rfl (Wt.plain rfl) hH (fun wn hk hH => ?_)
    refine WL.next ?_
    refine WC.region ?_
    refine WL.u rfl rfl (Wt.plain rfl) (Ex.move rfl) ?_
    refine WL.u rfl rfl (Wt.plain rfl) (Ex.move rfl) ?_
    refine WL.u rfl rfl (Wt.plain rfl) (Ex.move rfl) ?_
    refine WL.u rfl rfl (Wt.plain rfl) (Ex.move rfl) ?_
    refine WL.u rfl rfl (Wt.plain rfl) (Ex.fieldAddr fd73_0 rfl) ?_
    refine WL.u rfl rfl (Wt.plain rfl) (Ex.loadHp flat3 rfl hH rfl) ?_
    refine WL.u rfl rfl (Wt.plain rfl) (Ex.add rfl rfl (by omega)) ?_
    refine WL.u rfl rfl (Wt.plain rfl) ((Ex.rem rfl rfl (by omega) (by omega)).to (congrArg (Value.int IntKind.i64) (show _ = ((((placeN n m i).1 + 2) % 4 : Nat) : Int) by omega))) ?_
    refine WL.u rfl rfl (Wt.plain rfl) (Ex.fieldAddr fd73_1 rfl) ?_
    refine WL.u rfl rfl (Wt.plain rfl) (Ex.loadHp flat3 rfl hH rfl) ?_
    refine WL.u rfl rfl (Wt.plain rfl) (Ex.buildS bd73 rfl rfl rfl rfl rfl) ?_
    refine WL.call callable64 rfl (Wt.plain rfl) rfl rfl (iportOf n m ((((placeN n m i).1 + 2) % 4 : Nat) : Int) (((placeN n m i).2 : Nat) : Int) _ h2 h4 (by omega)) ?_
    rintro _ wn ⟨rfl, hC⟩; replace hH := hH.call hC; clear hC
    rw [hpo]
    refine WL.u rfl rfl (Wt.plain rfl) (Ex.indexAddr Try.underlying38 ty3 rfl rfl (by omega)) ?_
    replace hH := hH.f1
    refine WL.store1 ty3 rfl rfl rfl (Wt.plain rfl) hH (ho19.idx rfl (by omega)) (by simp) (fun wn hk hH => ?_)
    replace ho19 := ho19.set rfl i ((opp n m i : Nat) : Int)
    refine WL.last ?_
    refine WN.normalBlock ?_
    refine WN.next ?_
    refine WC.region ?_
    refine WL.u rfl rfl (Wt.plain rfl) (Ex.add rfl rfl (by omega)) ?_
    refine WL.u rfl rfl (Wt.plain rfl) (Ex.move rfl) ?_
    refine WL.last ?_
    replace hH := hH.first1
    refine WN.round (i + 1, cur19.setIfInBounds (0 + (i : Int).toNat * 1) (rInt.val ((opp n m i : Nat) : Int)), l.set i ((opp n m i : Nat) : Int)) (by exact ⟨rfl, rfl, rfl, rfl, rfl, trivial⟩) ?_ ?_
    · refine ⟨hH, ho19, by simp [hll], fun p hp => ?_, by omega⟩
      rw [List.getD_eq_getElem?_getD, List.getElem?_set]
      by_cases e : i = p
      · subst e; rw [if_pos rfl, if_pos (by omega)]; rfl
      · rw [if_neg e, ← List.getD_eq_getElem?_getD]; exact hl p (by omega)
    · (try dsimp only); omega
  have hc2' := hc2; try simp only [decide_eq_true_eq, decide_eq_false_iff_not, Bool.not_eq_true', Bool.not_eq_false', Bool.not_eq_true, Bool.not_eq_false] at hc2'
  refine WC.exit ?_
  refine WN.exitThen ?_
  refine WN.exitThen ?_
  refine WN.exitHere ?_
  refine WN.next ?_
  refine WC.seq ?_
  refine WC.region ?_
  refine WL.u rfl rfl (Wt.plain rfl) (Ex.move rfl) ?_
  refine WL.u rfl rfl (Wt.plain rfl) (Ex.assign rfl) ?_
  refine WL.u rfl rfl (Wt.plain rfl) (Ex.assign rfl) ?_
  refine WL.next ?_
  refine WC.ret ?_
  refine WN.body2 rfl rfl rfl ?_
  have hiN : i = 2 * n + 2 * m := by omega
  rw [hiN] at hl
  have hN := New.of hH ho19 (hH.base 0 rfl)
  rw [hll] at hN
  exact ⟨_, l, rfl, hH.keep, hN, hll, hl⟩

end Go.Proofs.Ytjejdebmlgjdeaa
