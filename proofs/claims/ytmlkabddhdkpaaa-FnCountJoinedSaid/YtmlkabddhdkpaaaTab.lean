/- How many rounds the full grids have: a table; lists that count and grow. -/
import Derived.Test.YtmlkabddhdkpaaaRcB
import Derived.Test.YtmlkabddhdkpaaaJnCn
namespace Go.Proofs.Ytmlkabddhdkpaaa
set_option maxRecDepth 100000
set_option linter.unusedSimpArgs false
set_option linter.unusedVariables false

def hB (n m : Nat) : Nat → Nat → Nat
  | 0, H => H
  | k + 1, H => force (H + 1024 ^ rcB n m k) fun H' => hB n m k H'
def tab (n m : Nat) : Nat :=
  if n = 1 ∨ m = 1 then 2 ^ (n * m) else if n = 3 ∧ m = 3 then 8511872 else if n = 2 ∧ m = 2 then 1039 else if n = 4 ∨ m = 4 then 1095889 else 8248
theorem tab_ok : ∀ n < 6, ∀ m < 6, 1 ≤ n → 1 ≤ m → n * m ≤ 9 → hB n m (2 ^ (n * m)) 0 = tab n m := by decide +kernel
theorem tab_swap : ∀ n < 6, ∀ m < 6, 1 ≤ n → 1 ≤ m → n * m ≤ 9 → tab n m = tab m n := by decide +kernel
theorem tab_lt : ∀ n < 6, ∀ m < 6, 1 ≤ n → 1 ≤ m → n * m ≤ 9 → tab n m < 1073741824 := by decide +kernel
theorem tab_zero : ∀ n < 6, ∀ m < 6, 1 ≤ n → 1 ≤ m → n * m ≤ 9 → 2 ≤ tab n m % 1024 := by decide +kernel
theorem tab_low : ∀ n < 6, ∀ m < 6, 1 ≤ n → 1 ≤ m → n * m ≤ 9 → 2 ^ (n * m) * ((n - 1) * (m - 1)) ≤ 16 * (tab n m / 1024 % 1024 + 2 * (tab n m / 1048576 % 1024)) := by decide +kernel
theorem tab_none : ∀ n < 6, ∀ m < 6, 1 ≤ n → 1 ≤ m → n * m ≤ 9 → decide (tab n m / 1024 % 1024 + 2 * (tab n m / 1048576 % 1024) = 0) = decide (n = 1 ∨ m = 1) := by decide +kernel
theorem tab_r : ∀ n < 6, ∀ m < 6, 1 ≤ n → 1 ≤ m → n * m ≤ 9 → rcB n m 0 = 0 := by decide +kernel

def sumD (B : Nat) : Nat → (Nat → Nat) → Nat
  | 0, _ => 0
  | P + 1, t => t 0 + B * sumD B P (fun j => t (j + 1))
theorem sumD_dig {B : Nat} (hB : 0 < B) : ∀ (P : Nat) (t : Nat → Nat), (∀ j, j < P → t j < B) → ∀ j, j < P → sumD B P t / B ^ j % B = t j
  | 0, _, _, j, hj => by omega
  | P + 1, t, h, j, hj => by
    unfold sumD
    have h0 := h 0 (by omega)
    cases j with
    | zero => rw [Nat.pow_zero, Nat.div_one, Nat.add_mul_mod_self_left, Nat.mod_eq_of_lt h0]
    | succ j =>
      rw [Nat.pow_succ, Nat.mul_comm (B ^ j), ← Nat.div_div_eq_div_mul, Nat.add_mul_div_left _ _ hB, Nat.div_eq_of_lt h0, Nat.zero_add]
      exact sumD_dig hB P (fun j => t (j + 1)) (fun j hj => h (j + 1) (by omega)) j (by omega)
theorem sumD_bump (B : Nat) : ∀ (P : Nat) (t : Nat → Nat) (e : Nat), e < P → sumD B P (fun j => t j + (if e = j then 1 else 0)) = sumD B P t + B ^ e
  | 0, _, e, h => by omega
  | P + 1, t, e, h => by
    unfold sumD
    dsimp only
    cases e with
    | zero =>
      have e1 : (fun j => t (j + 1) + (if 0 = j + 1 then 1 else 0)) = fun j => t (j + 1) := by
        funext j
        rw [if_neg (by omega)]; rfl
      rw [e1, if_pos rfl, Nat.pow_zero]; omega
    | succ e =>
      have e1 : (fun j => t (j + 1) + (if e + 1 = j + 1 then 1 else 0)) = fun j => t (j + 1) + (if e = j then 1 else 0) := by
        funext j
        by_cases h1 : e = j
        · rw [if_pos h1, if_pos (by omega)]
        · rw [if_neg h1, if_neg (by omega)]
      rw [e1, sumD_bump B P (fun j => t (j + 1)) e (by omega), if_neg (Nat.succ_ne_zero e), Nat.mul_add, Nat.pow_succ, Nat.mul_comm (B ^ e)]
      omega
theorem sumD_zero (B : Nat) : ∀ (P : Nat) (t : Nat → Nat), (∀ j, t j = 0) → sumD B P t = 0
  | 0, _, _ => rfl
  | P + 1, t, h => by rw [sumD, h 0, sumD_zero B P _ (fun j => h (j + 1)), Nat.mul_zero]
theorem hB_sum (n m P : Nat) : ∀ (k H : Nat), (∀ i, i < k → rcB n m i < P) → hB n m k H = H + sumD 1024 P (fun j => tally (rcB n m) j k)
  | 0, H, _ => by rw [hB, sumD_zero 1024 P (fun j => tally (rcB n m) j 0) (fun j => rfl), Nat.add_zero]
  | k + 1, H, h => by
    have e1 : (fun j => tally (rcB n m) j (k + 1)) = fun j => tally (rcB n m) j k + (if rcB n m k = j then 1 else 0) := rfl
    rw [hB, force_eq, hB_sum n m P k _ (fun i hi => h i (by omega)), e1, sumD_bump 1024 P _ _ (h k (by omega))]
    omega
theorem sweepB_le (n m bits : Nat) : ∀ k x M, sweepB n m bits k x M ≤ k
  | 0, _, _ => by simp [sweepB]
  | k + 1, x, M => by
    unfold sweepB
    cases Nat.testBit M x with
    | true => rw [cond_true]; have := sweepB_le n m bits k (x + 1) M; omega
    | false => rw [cond_false, force_eq]; have := sweepB_le n m bits k (x + 1) (closeB n m bits x (4 * (n * m)) x M); omega

/-- the number of rounds of the i-th full grid -/
def rF (n m i : Nat) : Nat := (rounds (full n m i)).length
theorem tally_cg {f g : Nat → Nat} : ∀ k, (∀ i, i < k → f i = g i) → ∀ j, tally f j k = tally g j k
  | 0, _, _ => rfl
  | k + 1, h, j => by rw [tally, tally, tally_cg k (fun i hi => h i (by omega)) j, h k (by omega)]
structure Few (n m : Nat) : Prop where
  n1 : 1 ≤ n
  n5 : n ≤ 5
  m1 : 1 ≤ m
  m5 : m ≤ 5
  nm : n * m ≤ 9
theorem Few.swap {n m : Nat} (h : Few n m) : Few m n := ⟨h.m1, h.m5, h.n1, h.n5, by rw [Nat.mul_comm]; exact h.nm⟩
theorem rF_lt {n m : Nat} (h : Few n m) (i : Nat) : rF n m i < 101 := by
  unfold rF
  rw [← rcB_ok h.n1 h.n5 h.m1 h.m5]
  have := sweepB_le n m i (4 * (n * m)) 0 (beamsB n m i (2 * n + 2 * m) 0)
  have := h.nm
  unfold rcB; omega
theorem rF_tally {n m : Nat} (h : Few n m) (j : Nat) (hj : j < 101) : tally (rF n m) j (2 ^ (n * m)) = tab n m / 1024 ^ j % 1024 := by
  have e : ∀ i, i < 2 ^ (n * m) → rF n m i = rcB n m i := fun i _ => (rcB_ok h.n1 h.n5 h.m1 h.m5).symm
  have hp : 2 ^ (n * m) ≤ 2 ^ 9 := Nat.pow_le_pow_right (by decide) h.nm
  rw [tally_cg _ e j, ← tab_ok n (by have := h.n5; omega) m (by have := h.m5; omega) h.n1 h.m1 h.nm, hB_sum n m 101 _ _ (fun i hi => by rw [← e i hi]; exact rF_lt h i), Nat.zero_add]
  refine (sumD_dig (B := 1024) (by decide) 101 (fun j => tally (rcB n m) j (2 ^ (n * m))) (fun j _ => ?_) j hj).symm
  have := tally_le (rcB n m) j (2 ^ (n * m))
  omega

/-! the greatest value -/
def mxN (f : Nat → Nat) : Nat → Nat
  | 0 => 0
  | k + 1 => Max.max (mxN f k) (f k)
theorem mxN_le (f : Nat → Nat) : ∀ k i, i < k → f i ≤ mxN f k
  | 0, i, h => by omega
  | k + 1, i, h => by
    rw [mxN]
    rcases Nat.lt_succ_iff_lt_or_eq.1 h with h | rfl
    · have := mxN_le f k i h; omega
    · omega
theorem mxN_is (f : Nat → Nat) : ∀ k, 0 < k → ∃ i, i < k ∧ f i = mxN f k
  | 0, h => by omega
  | k + 1, _ => by
    rw [mxN]
    by_cases hk : f k ≤ mxN f k
    · rcases Nat.eq_zero_or_pos k with rfl | h0
      · exact ⟨0, by omega, by rw [mxN] at *; omega⟩
      · obtain ⟨i, h1, h2⟩ := mxN_is f k h0
        exact ⟨i, by omega, by omega⟩
    · exact ⟨k, by omega, by omega⟩
theorem mxN_lt {f : Nat → Nat} {B : Nat} (hB : 0 < B) : ∀ k, (∀ i, i < k → f i < B) → mxN f k < B
  | 0, _ => hB
  | k + 1, h => by
    have := mxN_lt hB k (fun i hi => h i (by omega))
    have := h k (by omega)
    rw [mxN]; omega
theorem tally_ex {f : Nat → Nat} {j k : Nat} (h : 0 < tally f j k) : ∃ i, i < k ∧ f i = j := by
  apply Classical.byContradiction
  intro hn
  have := tally_zero f j k (fun i hi e => hn ⟨i, hi, e⟩)
  omega
theorem mxN_eq {f g : Nat → Nat} {k : Nat} (hk : 0 < k) (h : ∀ j, tally f j k = tally g j k) : mxN f k = mxN g k := by
  obtain ⟨i, h1, h2⟩ := mxN_is f k hk
  obtain ⟨i', h3, h4⟩ := mxN_is g k hk
  have h5 := tally_pos f _ k i h1 h2
  have h6 := tally_pos g _ k i' h3 h4
  rw [h] at h5
  rw [← h] at h6
  obtain ⟨u, h7, h8⟩ := tally_ex h5
  obtain ⟨v, h9, h10⟩ := tally_ex h6
  have h11 := mxN_le g k u h7
  have h12 := mxN_le f k v h9
  omega
theorem cntBy_congr {f g : Nat → Nat} {P k : Nat} (hf : ∀ i, i < k → f i < P) (hg : ∀ i, i < k → g i < P) (h : ∀ j, tally f j k = tally g j k) : cntBy f P k = cntBy g P k := by
  apply List.ext_getElem (by rw [cntBy_len, cntBy_len])
  intro j h1 h2
  have e1 := cntBy_get f P k hf j
  have e2 := cntBy_get g P k hg j
  rw [List.getD_eq_getElem?_getD, List.getElem?_eq_getElem h1, Option.getD_some] at e1
  rw [List.getD_eq_getElem?_getD, List.getElem?_eq_getElem h2, Option.getD_some] at e2
  rw [e1, e2, h]
/-- the counts of all full grids by their rounds -/
def rCnt (n m : Nat) : List Int := cntBy (rF n m) (mxN (rF n m) (2 ^ (n * m)) + 1) (2 ^ (n * m))
theorem rF_tally_big {n m : Nat} (h : Few n m) (j : Nat) (hj : 101 ≤ j) : tally (rF n m) j (2 ^ (n * m)) = 0 := tally_zero _ _ _ fun i _ e => by have := rF_lt h i; omega
theorem rF_swap {n m : Nat} (h : Few n m) (j : Nat) : tally (rF n m) j (2 ^ (n * m)) = tally (rF m n) j (2 ^ (n * m)) := by
  have h2 := h.swap
  by_cases hj : j < 101
  · rw [rF_tally h j hj, Nat.mul_comm n m, rF_tally h2 j hj, tab_swap n (by have := h.n5; omega) m (by have := h.m5; omega) h.n1 h.m1 h.nm]
  · rw [rF_tally_big h j (by omega), Nat.mul_comm n m, rF_tally_big h2 j (by omega)]
theorem rCnt_swap {n m : Nat} (h : Few n m) : rCnt m n = rCnt n m := by
  have hp : 0 < 2 ^ (n * m) := Nat.pow_pos (by decide)
  have e := mxN_eq hp (rF_swap h)
  unfold rCnt
  rw [Nat.mul_comm m n, ← e]
  refine (cntBy_congr (fun i hi => ?_) (fun i hi => ?_) (rF_swap h)).symm
  · have := mxN_le (rF n m) _ i hi; omega
  · have := mxN_le (rF m n) _ i hi; omega
theorem rCnt_len (n m : Nat) : (rCnt n m).length = mxN (rF n m) (2 ^ (n * m)) + 1 := cntBy_len _ _ _
theorem rCnt_lt (n m : Nat) : ∀ i, i < 2 ^ (n * m) → rF n m i < mxN (rF n m) (2 ^ (n * m)) + 1 := fun i hi => by have := mxN_le (rF n m) _ i hi; omega
theorem rCnt_get (n m j : Nat) : (rCnt n m).getD j 0 = (tally (rF n m) j (2 ^ (n * m)) : Int) := cntBy_get _ _ _ (rCnt_lt n m) j
theorem rCnt_sum (n m : Nat) : (rCnt n m).sum = ((2 ^ (n * m) : Nat) : Int) := cntBy_sum _ _ _ (rCnt_lt n m)
theorem rCnt_last (n m : Nat) : 0 < (rCnt n m).getD (mxN (rF n m) (2 ^ (n * m))) 0 := by
  obtain ⟨i, h1, h2⟩ := mxN_is (rF n m) (2 ^ (n * m)) (Nat.pow_pos (by decide))
  have := tally_pos _ _ _ i h1 h2
  rw [rCnt_get]; omega
theorem mx_le2 {n m : Nat} (h : Few n m) : mxN (rF n m) (2 ^ (n * m)) ≤ 2 := by
  apply Classical.byContradiction
  intro hn
  have hl := rCnt_last n m
  have hlt : mxN (rF n m) (2 ^ (n * m)) < 101 := mxN_lt (by decide) _ (fun i _ => rF_lt h i)
  rw [rCnt_get, rF_tally h _ hlt] at hl
  have ht := tab_lt n (by have := h.n5; omega) m (by have := h.m5; omega) h.n1 h.m1 h.nm
  have : tab n m / 1024 ^ mxN (rF n m) (2 ^ (n * m)) = 0 := Nat.div_eq_of_lt (Nat.lt_of_lt_of_le ht (Nat.pow_le_pow_right (n := 1024) (i := 3) (by decide) (by omega)))
  rw [this] at hl
  simp at hl
theorem rCnt_zero {n m : Nat} (h : Few n m) : 2 ≤ (rCnt n m).getD 0 0 := by
  have := tab_zero n (by have := h.n5; omega) m (by have := h.m5; omega) h.n1 h.m1 h.nm
  rw [rCnt_get, rF_tally h 0 (by decide), Nat.pow_zero, Nat.div_one]; omega

/-! the sum of all rounds -/
def wsum (l : List Int) : Nat → Int
  | 0 => 0
  | k + 1 => wsum l k + (k : Int) * l.getD k 0
theorem wsum_bound (l : List Int) (h : ∀ j, 0 ≤ l.getD j 0 ∧ l.getD j 0 ≤ 1000) : ∀ k, k ≤ 1000 → 0 ≤ wsum l k ∧ wsum l k ≤ (k : Int) * 1000000
  | 0, _ => ⟨Int.le_refl _, Int.le_refl _⟩
  | k + 1, hk => by
    have h1 := wsum_bound l h k (by omega)
    have h2 := h k
    have h3 : 0 ≤ (k : Int) * l.getD k 0 := Int.mul_nonneg (by omega) h2.1
    have h4 : (k : Int) * l.getD k 0 ≤ 1000 * 1000 := Int.mul_le_mul (by omega) h2.2 h2.1 (by decide)
    rw [wsum]; omega
theorem wsum_over (l : List Int) : ∀ k, l.length ≤ k → wsum l k = wsum l l.length
  | 0, h => by rw [show l.length = 0 by omega]
  | k + 1, h => by
    rcases Nat.lt_or_ge l.length (k + 1) with h1 | h1
    · rw [wsum, wsum_over l k (by omega), List.getD_eq_getElem?_getD, List.getElem?_eq_none (by omega), Option.getD_none, Int.mul_zero, Int.add_zero]
    · rw [show l.length = k + 1 by omega]
theorem rCnt_wsum {n m : Nat} (h : Few n m) : wsum (rCnt n m) (rCnt n m).length = ((tab n m / 1024 % 1024 + 2 * (tab n m / 1048576 % 1024) : Nat) : Int) := by
  have hl : (rCnt n m).length ≤ 3 := by rw [rCnt_len]; have := mx_le2 h; omega
  rw [← wsum_over _ 3 hl]
  simp only [wsum, rCnt_get]
  rw [rF_tally h 1 (by decide), rF_tally h 2 (by decide), Nat.pow_one]
  omega

/-! lists that grow -/
def padL (l : List Int) (k : Nat) : List Int := l ++ List.replicate (k - l.length) 0
def addL (l : List Int) (e : Nat) (x : Int) : List Int := (padL l (e + 1)).set e (l.getD e 0 + x)
def growL (f : Nat → Nat) : Nat → List Int
  | 0 => []
  | k + 1 => addL (growL f k) (f k) 1
theorem padL_len (l : List Int) (k : Nat) : (padL l k).length = Max.max l.length k := by unfold padL; rw [List.length_append, List.length_replicate]; omega
theorem padL_get (l : List Int) (k j : Nat) : (padL l k).getD j 0 = l.getD j 0 := by
  unfold padL
  rw [List.getD_eq_getElem?_getD, List.getD_eq_getElem?_getD, List.getElem?_append]
  split
  · rfl
  · rw [List.getElem?_eq_none (show l.length ≤ j by omega), List.getElem?_replicate]
    split <;> rfl
theorem addL_len (l : List Int) (e : Nat) (x : Int) : (addL l e x).length = Max.max l.length (e + 1) := by unfold addL; rw [List.length_set, padL_len]
theorem addL_get (l : List Int) (e j : Nat) (x : Int) : (addL l e x).getD j 0 = l.getD j 0 + (if e = j then x else 0) := by
  unfold addL
  rw [List.getD_eq_getElem?_getD, List.getElem?_set]
  by_cases h : e = j
  · subst h
    rw [if_pos rfl, if_pos (by rw [padL_len]; omega), if_pos rfl]; rfl
  · rw [if_neg h, if_neg h, ← List.getD_eq_getElem?_getD, padL_get, Int.add_zero]
theorem growL_len (f : Nat → Nat) : ∀ k, (growL f (k + 1)).length = mxN f (k + 1) + 1
  | 0 => by rw [growL, addL_len]; simp [growL, mxN]
  | k + 1 => by rw [growL, addL_len, growL_len f k, mxN.eq_2 f (k + 1)]; omega
theorem growL_get (f : Nat → Nat) (j : Nat) : ∀ k, (growL f k).getD j 0 = (tally f j k : Int)
  | 0 => by simp [growL, tally]
  | k + 1 => by
    rw [growL, addL_get, growL_get f j k, tally]
    split <;> omega
theorem growL_eq (f : Nat → Nat) {k : Nat} (hk : 0 < k) : growL f k = cntBy f (mxN f k + 1) k := by
  obtain ⟨k, rfl⟩ : ∃ j, k = j + 1 := ⟨k - 1, by omega⟩
  apply List.ext_getElem (by rw [growL_len, cntBy_len])
  intro j h1 h2
  have e1 := growL_get f j (k + 1)
  have e2 := cntBy_get f (mxN f (k + 1) + 1) (k + 1) (fun i hi => by have := mxN_le f _ i hi; omega) j
  rw [List.getD_eq_getElem?_getD, List.getElem?_eq_getElem h1, Option.getD_some] at e1
  rw [List.getD_eq_getElem?_getD, List.getElem?_eq_getElem h2, Option.getD_some] at e2
  rw [e1, e2]
theorem growL_bound (f : Nat → Nat) {B : Nat} (hB : 0 < B) (k : Nat) (h : ∀ i, i < k → f i < B) : (growL f k).length ≤ B := by
  cases k with
  | zero => simp [growL]
  | succ k =>
    rw [growL_len]
    have := mxN_lt hB (k + 1) h
    omega
end Go.Proofs.Ytmlkabddhdkpaaa
