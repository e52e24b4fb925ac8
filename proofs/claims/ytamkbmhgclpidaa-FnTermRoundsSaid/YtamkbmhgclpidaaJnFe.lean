/- The grids that fit: the program's list and the reference's. -/
import Derived.Test.YtamkbmhgclpidaaAsk
import Derived.Test.YtamkbmhgclpidaaAll
import Derived.Test.YtamkbmhgclpidaaPort
import Derived.Test.YtamkbmhgclpidaaJnCn
import Derived.Test.YtamkbmhgclpidaaTexts
namespace Go.Proofs.Ytamkbmhgclpidaa
set_option maxRecDepth 100000
set_option linter.unusedSimpArgs false
set_option linter.unusedVariables false
open Go Go.RowKit
def askFit (n m : Int) (ans : List Int) : Int × Bool := if ansB n m ans = true then (((fits n.toNat m.toNat ans).length : Int), true) else (0, false)
theorem askFit_at {n m : Nat} {ans : List Int} (h : AnsOk n m ans) : askFit n m ans = (((fits n m ans).length : Int), true) := by rw [askFit, if_pos h.b]; rfl
theorem askFit_not {n m : Int} {ans : List Int} (h : ansB n m ans = false) : askFit n m ans = (0, false) := by rw [askFit, if_neg (by rw [h]; decide)]
theorem Gs.move {lo b b' : Nat} {w w' : World} {hs : List Hd} {L : List Grid} (a : Gs lo [b] w hs L) (hb : b' = b ∨ w.heap.size ≤ b') (k : Keep [b] w w') : Gs lo [b'] w' hs L :=
  ((a.reX (X' := [b', b]) (fun x hx => by
    rcases List.mem_cons.1 hx with rfl | hx
    · rcases hb with rfl | hb
      · exact .inl (by simp)
      · exact .inr hb
    · exact .inl hx)).keep k (fun x hx => .inl (by simp at hx; simp [hx]))).reX (fun x hx => .inl (by simp at hx; simp [hx]))
theorem Gs.move2 {lo b b' c : Nat} {w w' : World} {hs : List Hd} {L : List Grid} (a : Gs lo [b, c] w hs L) (hb : b' = b ∨ w.heap.size ≤ b') (k : Keep [b, c] w w') : Gs lo [b', c] w' hs L :=
  ((a.reX (X' := [b', b, c]) (fun x hx => by
    rcases List.mem_cons.1 hx with rfl | hx
    · rcases hb with rfl | hb
      · exact .inl (by simp)
      · exact .inr hb
    · exact .inl hx)).keep k (fun x hx => .inl (by simp at hx; rcases hx with rfl | rfl <;> simp))).reX (fun x hx => .inl (by simp at hx; rcases hx with rfl | rfl <;> simp))

end Go.Proofs.Ytamkbmhgclpidaa

/- The partners in empty grids. -/
namespace Go.Proofs.Ytamkbmhgclpidaa
set_option maxRecDepth 100000
set_option linter.unusedSimpArgs false
set_option linter.unusedVariables false
open Go Go.RowKit
theorem digit_zero (m : Nat) : digit m 0 = fun _ _ => 46 := by
  funext i k
  unfold digit
  rw [Nat.zero_div]; rfl
def opp (n m p : Nat) : Nat := if p < m then 2 * m + n - 1 - p else if p < m + n then 3 * m + 2 * n - 1 - p else if p < 2 * m + n then 2 * m + n - 1 - p else 3 * m + 2 * n - 1 - p
def placeN (n m p : Nat) : Nat × Nat := if p < m then (0, p) else if p < m + n then (1, p - m) else if p < 2 * m + n then (2, m - 1 - (p - m - n)) else (3, n - 1 - (p - 2 * m - n))
def portI (n m : Nat) (s x : Int) : Int := if s = 0 then x else if s = 1 then m + x else if s = 2 then 2 * m + n - 1 - x else 2 * m + 2 * n - 1 - x
theorem place_opp {n m p : Nat} (h1 : 1 ≤ n) (h3 : 1 ≤ m) (hp : p < 2 * n + 2 * m) : portI n m ((((placeN n m p).1 + 2) % 4 : Nat) : Int) (((placeN n m p).2 : Nat) : Int) = ((opp n m p : Nat) : Int) := by
  unfold portI placeN opp
  by_cases a : p < m
  · rw [if_pos a, if_pos a]; simp; omega
  · by_cases b : p < m + n
    · rw [if_neg a, if_pos b, if_neg a, if_pos b]; simp; omega
    · by_cases c : p < 2 * m + n
      · rw [if_neg a, if_neg b, if_pos c, if_neg a, if_neg b, if_pos c]; simp; omega
      · rw [if_neg a, if_neg b, if_neg c, if_neg a, if_neg b, if_neg c]; simp; omega
theorem place_bd {n m p : Nat} (h1 : 1 ≤ n) (h3 : 1 ≤ m) (hp : p < 2 * n + 2 * m) : (placeN n m p).1 < 4 ∧ (placeN n m p).2 < n + m := by
  unfold placeN
  split
  · exact ⟨by dsimp only; omega, by dsimp only; omega⟩
  · split
    · exact ⟨by dsimp only; omega, by dsimp only; omega⟩
    · split
      · exact ⟨by dsimp only; omega, by dsimp only; omega⟩
      · exact ⟨by dsimp only; omega, by dsimp only; omega⟩
theorem empty_way : ∀ n < 6, ∀ m < 6, 1 ≤ n → 1 ≤ m → ∀ p < 2 * n + 2 * m, (way (numG n m 0) p).2 = opp n m p := by decide +kernel

end Go.Proofs.Ytamkbmhgclpidaa

/- Grids that have a pairing; the fewest mirrors. -/
namespace Go.Proofs.Ytamkbmhgclpidaa
set_option maxRecDepth 100000
set_option linter.unusedSimpArgs false
set_option linter.unusedVariables false
open Go Go.RowKit
def crossP (l : List Int) (i : Nat) : Bool := decide (0 ≤ l.getD i 0 ∧ l.getD i 0 ≤ (l.length : Int) - 1) && decide (l.getD i 0 ≠ i) && decide (l.getD (l.getD i 0).toNat 0 = i)
def crossTo (l : List Int) : Nat → Bool
  | 0 => true
  | i + 1 => crossTo l i && crossP l i
def crossB (l : List Int) : Bool := crossTo l l.length && decide ((4 : Int) ≤ l.length ∧ (l.length : Int) ≤ 20)
theorem crossTo_false {l : List Int} {k p : Nat} (hp : p < k) (h : crossP l p = false) : crossTo l k = false := by
  induction k with
  | zero => omega
  | succ k ih =>
    rw [crossTo]
    by_cases e : p = k
    · rw [← e, h]; simp
    · rw [ih (by omega)]; rfl
theorem crossB_false {l : List Int} {p : Nat} (hp : p < l.length) (h : crossP l p = false) : crossB l = false := by rw [crossB, crossTo_false hp h]; rfl
def makeB (n m : Int) (l : List Int) : Bool := fewB n m 6 && decide ((l.length : Int) = 2 * n + 2 * m) && crossB l
structure MakeOk (n m : Nat) (l : List Int) : Prop where
  n1 : 1 ≤ n
  n5 : n ≤ 5
  m1 : 1 ≤ m
  m5 : m ≤ 5
  six : n * m ≤ 6
  len : l.length = 2 * n + 2 * m
theorem makeB_ex {n m : Int} {l : List Int} (h : makeB n m l = true) : ∃ n' m' : Nat, n = n' ∧ m = m' ∧ MakeOk n' m' l := by
  unfold makeB at h
  simp only [Bool.and_eq_true, decide_eq_true_eq] at h
  obtain ⟨⟨h1, h2⟩, h3⟩ := h
  obtain ⟨n', m', rfl, rfl, k1, k2, k3, k4, k5⟩ := fewB_ex h1
  exact ⟨n', m', rfl, rfl, k1, k2, k3, k4, by omega, by omega⟩
section
variable {n m : Nat} {l : List Int}
theorem MakeOk.grid (h : MakeOk n m l) (i : Nat) : GridOk (numG n m i) := numG_ok i h.n1 h.n5 h.m1 h.m5
theorem MakeOk.ports (h : MakeOk n m l) (i : Nat) : Go.Proofs.Ytamkbmhgclpidaa.ports (numG n m i) = 2 * n + 2 * m := numG_ports m i h.n1
theorem MakeOk.pow (h : MakeOk n m l) : 3 ^ (n * m) ≤ 729 := Nat.le_trans (Nat.pow_le_pow_right (by decide) h.six) (by decide)
end
/-- those among the first k -/
def madeL (n m : Nat) (l : List Int) : Nat → List Grid
  | 0 => []
  | k + 1 => if pairsI (numG n m k) = l then madeL n m l k ++ [numG n m k] else madeL n m l k
def made (n m : Nat) (l : List Int) : List Grid := madeL n m l (3 ^ (n * m))
theorem madeL_le (n m : Nat) (l : List Int) : ∀ k, (madeL n m l k).length ≤ k
  | 0 => by simp [madeL]
  | k + 1 => by
    have := madeL_le n m l k
    unfold madeL
    split
    · simp; omega
    · omega
theorem madeL_mem {n m : Nat} {l : List Int} : ∀ {k : Nat} {g : Grid}, g ∈ madeL n m l k ↔ ∃ i, i < k ∧ g = numG n m i ∧ pairsI g = l
  | 0, g => by simp [madeL]
  | k + 1, g => by
    have ih := madeL_mem (n := n) (m := m) (l := l) (k := k) (g := g)
    unfold madeL
    split
    · next h =>
      rw [List.mem_append, ih, List.mem_singleton]
      constructor
      · rintro (⟨i, h1, h2, h3⟩ | rfl)
        · exact ⟨i, by omega, h2, h3⟩
        · exact ⟨k, by omega, rfl, h⟩
      · rintro ⟨i, h1, h2, h3⟩
        rcases Nat.lt_succ_iff_lt_or_eq.1 h1 with h1 | rfl
        · exact .inl ⟨i, h1, h2, h3⟩
        · exact .inr h2
    · next h =>
      rw [ih]
      constructor
      · rintro ⟨i, h1, h2, h3⟩
        exact ⟨i, by omega, h2, h3⟩
      · rintro ⟨i, h1, h2, h3⟩
        rcases Nat.lt_succ_iff_lt_or_eq.1 h1 with h1 | rfl
        · exact ⟨i, h1, h2, h3⟩
        · rw [h2] at h3; exact absurd h3 h
/-! mirrors -/
def cntR (r : Str) : Nat → Nat
  | 0 => 0
  | k + 1 => cntR r k + (if r.getD k 0 = 46 then 0 else 1)
def cntN (g : Grid) : Nat → Nat
  | 0 => 0
  | i + 1 => cntN g i + cntR (g.getD i []) (g.getD i []).length
def cntG (g : Grid) : Nat := cntN g g.length
def dotR (r : Str) : Nat → Nat
  | 0 => 0
  | k + 1 => dotR r k + (if r.getD k 0 = 46 then 1 else 0)
def dotN (g : Grid) : Nat → Nat
  | 0 => 0
  | i + 1 => dotN g i + dotR (g.getD i []) (g.getD i []).length
theorem row_both (r : Str) : ∀ k, cntR r k + dotR r k = k
  | 0 => rfl
  | k + 1 => by
    have := row_both r k
    rw [cntR, dotR]
    split <;> omega
theorem grid_both {g : Grid} (hG : GridOk g) : ∀ i, i ≤ g.length → cntN g i + dotN g i = i * nC g
  | 0, _ => by simp [cntN, dotN]
  | i + 1, h => by
    have h1 := grid_both hG i (by omega)
    have h2 := row_both (g.getD i []) (g.getD i []).length
    have h3 := hG.row i (by omega)
    rw [cntN, dotN, Nat.add_mul, Nat.one_mul]
    dsimp only [nC] at *
    omega
theorem cnt_dot {g : Grid} (hG : GridOk g) : cntG g + dotN g g.length = nR g * nC g := grid_both hG _ (Nat.le_refl _)
theorem cntR_le (r : Str) (k : Nat) : cntR r k ≤ k := by have := row_both r k; omega
theorem cntR_zero {r : Str} : ∀ k, cntR r k = 0 ↔ ∀ j, j < k → r.getD j 0 = 46
  | 0 => by simp [cntR]
  | k + 1 => by
    rw [cntR, Nat.add_eq_zero_iff, cntR_zero k]
    constructor
    · rintro ⟨h1, h2⟩ j hj
      rcases Nat.lt_succ_iff_lt_or_eq.1 hj with hj | rfl
      · exact h1 j hj
      · apply Classical.byContradiction
        intro e
        rw [if_neg e] at h2; cases h2
    · intro h
      exact ⟨fun j hj => h j (by omega), if_pos (h k (by omega))⟩
theorem cntN_zero {g : Grid} : ∀ i, cntN g i = 0 ↔ ∀ r, r < i → ∀ k, k < (g.getD r []).length → (g.getD r []).getD k 0 = 46
  | 0 => by simp [cntN]
  | i + 1 => by
    rw [cntN, Nat.add_eq_zero_iff, cntN_zero i, cntR_zero]
    constructor
    · rintro ⟨h1, h2⟩ r hr
      rcases Nat.lt_succ_iff_lt_or_eq.1 hr with hr | rfl
      · exact h1 r hr
      · exact h2
    · intro h
      exact ⟨fun r hr => h r (by omega), h i (by omega)⟩
/-- a grid without mirrors is the empty one -/
theorem cntG_zero {n m i : Nat} {l : List Int} (hA : MakeOk n m l) : cntG (numG n m i) = 0 ↔ numG n m i = numG n m 0 := by
  have hG := hA.grid i
  have hn : nR (numG n m i) = n := gridOf_nR _ _ _
  have hm : nC (numG n m i) = m := gridOf_nC _ _ hA.n1
  have hn0 : nR (numG n m 0) = n := gridOf_nR _ _ _
  have hm0 : nC (numG n m 0) = m := gridOf_nC _ _ hA.n1
  unfold cntG
  rw [cntN_zero]
  constructor
  · intro h
    refine grid_ext hG (hA.grid 0) (by rw [hn, hn0]) (by rw [hm, hm0]) fun r k hr hk => ?_
    rw [h r hr k (by rw [hG.row r hr]; exact hk)]
    rw [hn] at hr
    rw [hm] at hk
    unfold numG
    rw [gridOf_at _ _ _ hr hk, digit_zero]
  · intro h r hr k hk
    have hk' : k < m := by rw [hG.row r hr] at hk; rw [← hm]; exact hk
    have hr' : r < n := by rw [← hn]; exact hr
    rw [h]
    unfold numG
    rw [gridOf_at _ _ _ hr' hk', digit_zero]
/-! the least -/
def minL : Nat → List Grid → Nat
  | b, [] => b
  | b, g :: L => minL (min b (cntG g)) L
def minK (b : Nat) (L : List Grid) : Nat → Nat
  | 0 => b
  | k + 1 => min (minK b L k) (cntG (L.getD k []))
theorem minK_le (b : Nat) (L : List Grid) : ∀ k, minK b L k ≤ b
  | 0 => Nat.le_refl _
  | k + 1 => by have := minK_le b L k; rw [minK]; omega
theorem minK_at {b : Nat} {L : List Grid} : ∀ {k j : Nat}, j < k → minK b L k ≤ cntG (L.getD j [])
  | 0, j, h => by omega
  | k + 1, j, h => by
    rw [minK]
    by_cases e : j = k
    · rw [e]; omega
    · have := minK_at (b := b) (L := L) (show j < k by omega); omega
theorem minK_is {b : Nat} {L : List Grid} : ∀ {k : Nat}, minK b L k = b ∨ ∃ j, j < k ∧ minK b L k = cntG (L.getD j [])
  | 0 => .inl rfl
  | k + 1 => by
    rw [minK]
    rcases Nat.le_total (minK b L k) (cntG (L.getD k [])) with h | h
    · rw [Nat.min_eq_left h]
      rcases minK_is (b := b) (L := L) (k := k) with h1 | ⟨j, h1, h2⟩
      · exact .inl h1
      · exact .inr ⟨j, by omega, h2⟩
    · rw [Nat.min_eq_right h]
      exact .inr ⟨k, by omega, rfl⟩
theorem minK_app {b : Nat} {L : List Grid} {g : Grid} : ∀ k, k ≤ L.length → minK b (L ++ [g]) k = minK b L k
  | 0, _ => rfl
  | k + 1, h => by
    rw [minK, minK, minK_app k (by omega)]
    have : (L ++ [g]).getD k [] = L.getD k [] := by rw [List.getD_eq_getElem?_getD, List.getElem?_append_left (by omega), List.getD_eq_getElem?_getD]
    rw [this]
theorem minK_snoc (b : Nat) (L : List Grid) (g : Grid) : minK b (L ++ [g]) (L ++ [g]).length = min (minK b L L.length) (cntG g) := by
  rw [List.length_append, List.length_singleton, minK, minK_app _ (Nat.le_refl _)]
  have : (L ++ [g]).getD L.length [] = g := by simp [List.getD_eq_getElem?_getD]
  rw [this]
def leastM (n m : Nat) (L : List Grid) : Nat := minK (n * m) L L.length
/-- the reference's: -1 as long as there is none -/
def bestM (n m : Nat) (L : List Grid) : Int := if L = [] then -1 else (leastM n m L : Nat)
theorem bestM_snoc {n m : Nat} {L : List Grid} {g : Grid} (hc : cntG g ≤ n * m) : bestM n m (L ++ [g]) = if bestM n m L < 0 ∨ (cntG g : Int) < bestM n m L then (cntG g : Int) else bestM n m L := by
  unfold bestM
  rw [if_neg (by simp)]
  unfold leastM
  rw [minK_snoc]
  by_cases h : L = []
  · subst h
    rw [if_pos rfl, if_pos (.inl (by omega))]
    simp only [List.length_nil, minK]
    omega
  · rw [if_neg h]
    by_cases h2 : cntG g < minK (n * m) L L.length
    · rw [if_pos (.inr (by omega))]; omega
    · rw [if_neg (by omega)]; omega
def fewest (n m : Int) (l : List Int) : Int × Bool := if makeB n m l = true ∧ made n.toNat m.toNat l ≠ [] then (((leastM n.toNat m.toNat (made n.toNat m.toNat l) : Nat) : Int), true) else (0, false)
theorem fewest_not {n m : Int} {l : List Int} (h : makeB n m l = false) : fewest n m l = (0, false) := by rw [fewest, if_neg (fun e => by rw [h] at e; cases e.1)]
theorem fewest_none {n m : Nat} {l : List Int} (h : made n m l = []) : fewest n m l = (0, false) := by rw [fewest, if_neg (fun e => e.2 h)]
theorem fewest_at {n m : Nat} {l : List Int} (hb : makeB n m l = true) (h : made n m l ≠ []) : fewest n m l = (((leastM n m (made n m l) : Nat) : Int), true) := by rw [fewest, if_pos ⟨hb, h⟩]; rfl
theorem fewest_ex {n m : Int} {l : List Int} (h : (fewest n m l).2 = true) : ∃ n' m' : Nat, n = n' ∧ m = m' ∧ MakeOk n' m' l ∧ made n' m' l ≠ [] ∧ fewest n m l = (((leastM n' m' (made n' m' l) : Nat) : Int), true) := by
  unfold fewest at h
  split at h
  · next hc =>
    obtain ⟨n', m', rfl, rfl, hA⟩ := makeB_ex hc.1
    exact ⟨n', m', rfl, rfl, hA, hc.2, fewest_at hc.1 hc.2⟩
  · cases h
theorem pairs_empty {n m : Nat} {l q : List Int} (hA : MakeOk n m l) (hq : q.length = 2 * n + 2 * m) (h : ∀ p, p < 2 * n + 2 * m → q.getD p 0 = ((opp n m p : Nat) : Int)) : pairsI (numG n m 0) = q := by
  refine ext_int (by rw [pairsI_len, hA.ports 0, hq]) fun p hp => ?_
  rw [pairsI_len, hA.ports 0] at hp
  rw [pairsI_get _ (by rw [hA.ports 0]; exact hp), h p hp, empty_way n (by have := hA.n5; omega) m (by have := hA.m5; omega) hA.n1 hA.m1 p hp]
/-- none are wanted just for the pairing of the empty grid -/
theorem least_zero_iff {n m : Nat} {l q : List Int} (hA : MakeOk n m l) (hne : made n m l ≠ []) (hq : pairsI (numG n m 0) = q) : leastM n m (made n m l) = 0 ↔ q = l := by
  constructor
  · intro h
    have hpos : 0 < n * m := Nat.mul_pos hA.n1 hA.m1
    rcases minK_is (b := n * m) (L := made n m l) (k := (made n m l).length) with h1 | ⟨j, h1, h2⟩
    · unfold leastM at h; omega
    · unfold leastM at h
      rw [h] at h2
      have hm := List.mem_of_getElem? (getD_get (made n m l) j [] h1)
      obtain ⟨i, hi, e, hp⟩ := madeL_mem.1 hm
      rw [e] at h2 hp
      have e0 := (cntG_zero hA).1 h2.symm
      rw [e0, hq] at hp
      exact hp
  · intro h
    have hm : numG n m 0 ∈ made n m l := madeL_mem.2 ⟨0, Nat.pow_pos (by decide), rfl, by rw [hq, h]⟩
    obtain ⟨j, hj, e⟩ := List.getElem_of_mem hm
    have h1 := minK_at (b := n * m) (L := made n m l) hj
    have e2 : (made n m l).getD j [] = numG n m 0 := by rw [List.getD_eq_getElem?_getD, List.getElem?_eq_getElem hj]; exact e
    rw [e2, (cntG_zero hA).2 rfl] at h1
    unfold leastM; omega
theorem fewM_le (n m : Nat) (L : List Grid) : leastM n m L ≤ n * m := minK_le _ _ _
/-- the pairing of a size -/
def pairB (n m : Int) (l : List Int) : Bool := decide (1 ≤ n ∧ n ≤ 5 ∧ 1 ≤ m ∧ m ≤ 5) && decide ((l.length : Int) = 2 * n + 2 * m) && crossB l
theorem makeB_eq (n m : Int) (l : List Int) : makeB n m l = (fewB n m 6 && pairB n m l) := by
  unfold makeB pairB fewB
  rw [Bool.eq_iff_iff]
  simp only [Bool.and_eq_true, decide_eq_true_eq]
  constructor
  · rintro ⟨⟨h1, h2⟩, h3⟩; exact ⟨h1, ⟨⟨h1.1, h1.2.1, h1.2.2.1, h1.2.2.2.1⟩, h2⟩, h3⟩
  · rintro ⟨h1, ⟨_, h2⟩, h3⟩; exact ⟨⟨h1, h2⟩, h3⟩
theorem pairB_side {n m : Int} {l : List Int} (h : decide (1 ≤ n ∧ n ≤ 5 ∧ 1 ≤ m ∧ m ≤ 5) = false) : pairB n m l = false := by unfold pairB; rw [h]; rfl
theorem pairB_len {n m : Int} {l : List Int} (h : (l.length : Int) ≠ 2 * n + 2 * m) : pairB n m l = false := by unfold pairB; rw [decide_eq_false h]; simp
theorem pairB_at {n m : Int} {l : List Int} (h : decide (1 ≤ n ∧ n ≤ 5 ∧ 1 ≤ m ∧ m ≤ 5) = true) (h2 : (l.length : Int) = 2 * n + 2 * m) : pairB n m l = crossB l := by unfold pairB; rw [h, decide_eq_true h2]; rfl

theorem sl5In (l : List Int) (a : Option Addr) (cap : Nat) (w : World) (hl : Sl rInt w a l) : Fn Try.prog 69 [.slice a l.length cap] w (fun v w1 => v = .bool (crossB l) ∧ w1 = w) := by
  refine Fn.enter (n := 37) Try.func69 rfl rfl rfl ?_
  show WC _ _ _ _ [(0, .slice a l.length cap)] _
  have hlm := hl.1
  refine WC.seq ?_
  refine WC.region ?_
  refine WL.u rfl rfl (Wt.plain rfl) (Ex.assign rfl) ?_
  refine WL.next ?_
  refine WC.seq ?_
  refine WC.seq ?_
  refine WC.region ?_
  refine WL.u rfl rfl (Wt.plain rfl) (Ex.assign rfl) ?_
  refine WL.next ?_
  refine WC.block ?_
  refine WC.loop (ι := Nat) (fun i => [(0, .slice a l.length cap), (3, vint i)]) (fun i wn => w = wn ∧ crossTo l i = true ∧ i ≤ l.length) (fun i => l.length - i) (0) (by exact ⟨rfl, rfl, trivial⟩) ?_ ?_
  · exact ⟨rfl, rfl, Nat.zero_le _⟩
  rintro i wn ⟨rfl, hb, hi⟩
  intro mu0 hmu; try dsimp only at hmu
  show WC _ _ _ _ [(0, .slice a l.length cap), (3, vint i)] _
  refine WC.seq ?_
  refine WC.seq ?_
  refine WC.region ?_
  refine WL.u rfl rfl (Wt.plain rfl) (Ex.move rfl) ?_
  refine WL.u rfl rfl (Wt.plain rfl) (Ex.move rfl) ?_
  refine WL.u rfl rfl (Wt.plain rfl) (Ex.lenSl Try.underlying22 rfl) ?_
  refine WL.u rfl rfl (Wt.plain rfl) (Ex.lss rfl rfl) ?_
  refine WL.next ?_
  refine WC.cond rfl (fun hc1 => ?_) (fun hc1 => ?_)
  · have hc1' := hc1; try simp only [decide_eq_true_eq, decide_eq_false_iff_not, Bool.not_eq_true', Bool.not_eq_false', Bool.not_eq_true, Bool.not_eq_false] at hc1'
    have hlt : i < l.length := by omega
    obtain ⟨b, off, rfl⟩ := hl.addr (by omega)
    refine WC.skip ?_
    refine WN.next ?_
    refine WC.seq ?_
    refine WC.block ?_
    refine WC.seq ?_
    refine WC.region ?_
    refine WL.u rfl rfl (Wt.plain rfl) (Ex.move rfl) ?_
    refine WL.u rfl rfl (Wt.plain rfl) (Ex.move rfl) ?_
    refine WL.u rfl rfl (Wt.plain rfl) (Ex.indexAddr Try.underlying22 ty3 rfl rfl (by omega)) ?_
    refine WL.u rfl rfl (Wt.plain rfl) (Ex.loadSl flat3 hl rfl rfl (getD_get l i 0 hlt)) ?_
    refine WL.u rfl rfl (Wt.plain rfl) (Ex.assign rfl) ?_
    refine WL.next ?_
    refine WC.seq ?_
    refine WC.region ?_
    refine WL.u rfl rfl (Wt.plain rfl) (Ex.move rfl) ?_
    refine WL.u rfl rfl (Wt.plain rfl) (Ex.move rfl) ?_
    refine WL.u rfl rfl (Wt.plain rfl) (Ex.lenSl Try.underlying22 rfl) ?_
    refine WL.u rfl rfl (Wt.plain rfl) (Ex.sub rfl rfl (by omega)) ?_
    refine WL.call callable68 rfl (Wt.plain rfl) rfl rfl (sl6In (l.getD i 0) 0 ((l.length : Int) - 1) _) ?_
    rintro _ _ ⟨rfl, hw⟩; obtain rfl := hw.symm
    refine WL.u rfl rfl (Wt.plain rfl) (Ex.not rfl) ?_
    refine WL.u rfl rfl (Wt.plain rfl) (Ex.move rfl) ?_
    refine WL.split (t := 21) rfl (fun hg5_6 => ?_) (fun hg5_6 => ?_)
    · have hg5_6' := hg5_6; try simp only [decide_eq_true_eq, decide_eq_false_iff_not, Bool.not_eq_true', Bool.not_eq_false', Bool.not_eq_true, Bool.not_eq_false] at hg5_6'
      have hcp : crossP l i = false := by unfold crossP; rw [decide_eq_false (by omega)]; simp
      refine WL.pass rfl rfl (Wt.guard' rfl rfl rfl hg5_6 rfl) ?_
      refine WL.pass rfl rfl (Wt.guard' rfl rfl rfl hg5_6 rfl) ?_
      refine WL.pass rfl rfl (Wt.guard' rfl rfl rfl hg5_6 rfl) ?_
      refine WL.u rfl rfl (Wt.plain rfl) (Ex.pickT rfl hg5_6 rfl) ?_
      refine WL.u rfl rfl (Wt.plain rfl) (Ex.move rfl) ?_
      refine WL.pass rfl rfl (Wt.guard' rfl rfl rfl rfl rfl) ?_
      refine WL.pass rfl rfl (Wt.guard' rfl rfl rfl rfl rfl) ?_
      refine WL.pass rfl rfl (Wt.guard' rfl rfl rfl rfl rfl) ?_
      refine WL.pass rfl rfl (Wt.guard' rfl rfl rfl rfl rfl) ?_
      refine WL.pass rfl rfl (Wt.guard' rfl rfl rfl rfl rfl) ?_
      refine WL.pass rfl rfl (Wt.guard' rfl rfl rfl rfl rfl) ?_
      refine WL.u rfl rfl (Wt.plain rfl) (Ex.pickT rfl rfl rfl) ?_
      refine WL.next ?_
      refine WC.condT rfl rfl ?_
      refine WC.seq ?_
      refine WC.region ?_
      refine WL.u rfl rfl (Wt.plain rfl) (Ex.assign rfl) ?_
      refine WL.next ?_
      refine WC.ret ?_
      refine WN.retBlock ?_
      refine WN.retThen ?_
      refine WN.retThen ?_
      refine WN.retBlock ?_
      refine WN.retThen ?_
      refine WN.body1 rfl rfl ?_
      exact ⟨by rw [crossB_false hlt hcp], rfl⟩
    have hg5_6' := hg5_6; try simp only [decide_eq_true_eq, decide_eq_false_iff_not, Bool.not_eq_true', Bool.not_eq_false', Bool.not_eq_true, Bool.not_eq_false] at hg5_6'
    refine WL.u rfl rfl (Wt.guard' rfl rfl rfl hg5_6 rfl) (Ex.move rfl) ?_
    refine WL.u rfl rfl (Wt.guard' rfl rfl rfl hg5_6 rfl) (Ex.move rfl) ?_
    refine WL.u rfl rfl (Wt.guard' rfl rfl rfl hg5_6 rfl) (Ex.eql rfl rfl) ?_
    refine WL.u rfl rfl (Wt.plain rfl) (Ex.pickF rfl hg5_6 rfl) ?_
    refine WL.u rfl rfl (Wt.plain rfl) (Ex.move rfl) ?_
    refine WL.split (t := 26) rfl (fun hg5_11 => ?_) (fun hg5_11 => ?_)
    · have hg5_11' := hg5_11; try simp only [decide_eq_true_eq, decide_eq_false_iff_not, Bool.not_eq_true', Bool.not_eq_false', Bool.not_eq_true, Bool.not_eq_false] at hg5_11'
      have hcp : crossP l i = false := by unfold crossP; rw [decide_eq_false (show ¬ l.getD i 0 ≠ i by omega)]; simp
      refine WL.pass rfl rfl (Wt.guard' rfl rfl rfl hg5_11 rfl) ?_
      refine WL.pass rfl rfl (Wt.guard' rfl rfl rfl hg5_11 rfl) ?_
      refine WL.pass rfl rfl (Wt.guard' rfl rfl rfl hg5_11 rfl) ?_
      refine WL.pass rfl rfl (Wt.guard' rfl rfl rfl hg5_11 rfl) ?_
      refine WL.pass rfl rfl (Wt.guard' rfl rfl rfl hg5_11 rfl) ?_
      refine WL.pass rfl rfl (Wt.guard' rfl rfl rfl hg5_11 rfl) ?_
      refine WL.u rfl rfl (Wt.plain rfl) (Ex.pickT rfl hg5_11 rfl) ?_
      refine WL.next ?_
      refine WC.condT rfl rfl ?_
      refine WC.seq ?_
      refine WC.region ?_
      refine WL.u rfl rfl (Wt.plain rfl) (Ex.assign rfl) ?_
      refine WL.next ?_
      refine WC.ret ?_
      refine WN.retBlock ?_
      refine WN.retThen ?_
      refine WN.retThen ?_
      refine WN.retBlock ?_
      refine WN.retThen ?_
      refine WN.body1 rfl rfl ?_
      exact ⟨by rw [crossB_false hlt hcp], rfl⟩
    have hg5_11' := hg5_11; try simp only [decide_eq_true_eq, decide_eq_false_iff_not, Bool.not_eq_true', Bool.not_eq_false', Bool.not_eq_true, Bool.not_eq_false] at hg5_11'
    refine WL.u rfl rfl (Wt.guard' rfl rfl rfl hg5_11 rfl) (Ex.move rfl) ?_
    refine WL.u rfl rfl (Wt.guard' rfl rfl rfl hg5_11 rfl) (Ex.move rfl) ?_
    refine WL.u rfl rfl (Wt.guard' rfl rfl rfl hg5_11 rfl) (Ex.indexAddr Try.underlying22 ty3 rfl rfl (by omega)) ?_
    refine WL.u rfl rfl (Wt.guard' rfl rfl rfl hg5_11 rfl) (Ex.loadSl flat3 hl rfl rfl (getD_get l (l.getD i 0).toNat 0 (by omega))) ?_
    refine WL.u rfl rfl (Wt.guard' rfl rfl rfl hg5_11 rfl) (Ex.move rfl) ?_
    refine WL.u rfl rfl (Wt.guard' rfl rfl rfl hg5_11 rfl) (Ex.neq rfl rfl) ?_
    refine WL.u rfl rfl (Wt.plain rfl) (Ex.pickF rfl hg5_11 rfl) ?_
    refine WL.next ?_
    refine WC.cond rfl (fun hc2 => ?_) (fun hc2 => ?_)
    · have hc2' := hc2; try simp only [decide_eq_true_eq, decide_eq_false_iff_not, Bool.not_eq_true', Bool.not_eq_false', Bool.not_eq_true, Bool.not_eq_false] at hc2'
      have hcp : crossP l i = false := by unfold crossP; rw [decide_eq_false (show ¬ l.getD (l.getD i 0).toNat 0 = i by omega)]; simp
      refine WC.seq ?_
      refine WC.region ?_
      refine WL.u rfl rfl (Wt.plain rfl) (Ex.assign rfl) ?_
      refine WL.next ?_
      refine WC.ret ?_
      refine WN.retBlock ?_
      refine WN.retThen ?_
      refine WN.retThen ?_
      refine WN.retBlock ?_
      refine WN.retThen ?_
      refine WN.body1 rfl rfl ?_
      exact ⟨by rw [crossB_false hlt hcp], rfl⟩
    have hc2' := hc2; try simp only [decide_eq_true_eq, decide_eq_false_iff_not, Bool.not_eq_true', Bool.not_eq_false', Bool.not_eq_true, Bool.not_eq_false] at hc2'
    refine WC.skip ?_
    refine WN.normalBlock ?_
    refine WN.next ?_
    refine WC.region ?_
    refine WL.u rfl rfl (Wt.plain rfl) (Ex.move rfl) ?_
    refine WL.u rfl rfl (Wt.plain rfl) (Ex.add rfl rfl (by omega)) ?_
    refine WL.u rfl rfl (Wt.plain rfl) (Ex.assign rfl) ?_
    refine WL.last ?_
    refine WN.round (i + 1) (by exact ⟨rfl, rfl, trivial⟩) ?_ ?_
    · exact ⟨rfl, by rw [crossTo, hb]; unfold crossP; rw [decide_eq_true (show 0 ≤ l.getD i 0 ∧ l.getD i 0 ≤ (l.length : Int) - 1 by omega), decide_eq_true (show l.getD i 0 ≠ i by omega), decide_eq_true (show l.getD (l.getD i 0).toNat 0 = i by omega)]; rfl, by omega⟩
    · (try dsimp only); omega
  have hc1' := hc1; try simp only [decide_eq_true_eq, decide_eq_false_iff_not, Bool.not_eq_true', Bool.not_eq_false', Bool.not_eq_true, Bool.not_eq_false] at hc1'
  obtain rfl : i = l.length := by omega
  refine WC.exit ?_
  refine WN.exitThen ?_
  refine WN.exitThen ?_
  refine WN.exitHere ?_
  refine WN.next ?_
  refine WC.seq ?_
  refine WC.region ?_
  refine WL.u rfl rfl (Wt.plain rfl) (Ex.move rfl) ?_
  refine WL.u rfl rfl (Wt.plain rfl) (Ex.lenSl Try.underlying22 rfl) ?_
  refine WL.call callable68 rfl (Wt.plain rfl) rfl rfl (sl6In (l.length : Int) 4 20 _) ?_
  rintro _ _ ⟨rfl, hw⟩; obtain rfl := hw.symm
  refine WL.u rfl rfl (Wt.plain rfl) (Ex.assign rfl) ?_
  refine WL.next ?_
  refine WC.ret ?_
  refine WN.body1 rfl rfl ?_
  exact ⟨by unfold crossB; rw [hb]; rfl, rfl⟩

theorem sl6jOf (n m : Int) (l : List Int) (a : Option Addr) (cap : Nat) (w : World) (hl : Sl rInt w a l) : Fn Try.prog 66 [vint n, vint m, .slice a l.length cap] w (fun v w1 => v = .bool (pairB n m l) ∧ w1 = w) := by
  refine Fn.enter (n := 25) Try.func66 rfl rfl rfl ?_
  show WC _ _ _ _ [(0, vint n), (1, vint m), (2, .slice a l.length cap)] _
  have hlm := hl.1
  refine WC.seq ?_
  refine WC.region ?_
  refine WL.u rfl rfl (Wt.plain rfl) (Ex.assign rfl) ?_
  refine WL.next ?_
  refine WC.seq ?_
  refine WC.region ?_
  refine WL.u rfl rfl (Wt.plain rfl) (Ex.move rfl) ?_
  refine WL.call callable68 rfl (Wt.plain rfl) rfl rfl (sl6In n 1 5 _) ?_
  rintro _ _ ⟨rfl, hw⟩; obtain rfl := hw.symm
  refine WL.u rfl rfl (Wt.plain rfl) (Ex.move rfl) ?_
  refine WL.split (t := 9) rfl (fun hg1_2 => ?_) (fun hg1_2 => ?_)
  · have hg1_2' := hg1_2; try simp only [decide_eq_true_eq, decide_eq_false_iff_not, Bool.not_eq_true', Bool.not_eq_false', Bool.not_eq_true, Bool.not_eq_false] at hg1_2'
    refine WL.u rfl rfl (Wt.guard' rfl rfl rfl hg1_2 rfl) (Ex.move rfl) ?_
    refine WL.call callable68 rfl (Wt.guard' rfl rfl rfl hg1_2 rfl) rfl rfl (sl6In m 1 5 _) ?_
    rintro _ _ ⟨rfl, hw⟩; obtain rfl := hw.symm
    refine WL.u rfl rfl (Wt.plain rfl) (Ex.pickT rfl hg1_2 rfl) ?_
    refine WL.u rfl rfl (Wt.plain rfl) (Ex.move rfl) ?_
    refine WL.split (t := 13) rfl (fun hg1_6 => ?_) (fun hg1_6 => ?_)
    · have hg1_6' := hg1_6; try simp only [decide_eq_true_eq, decide_eq_false_iff_not, Bool.not_eq_true', Bool.not_eq_false', Bool.not_eq_true, Bool.not_eq_false] at hg1_6'
      have hsd : decide (1 ≤ n ∧ n ≤ 5 ∧ 1 ≤ m ∧ m ≤ 5) = true := decide_eq_true (by omega)
      obtain ⟨n, rfl⟩ : ∃ k : Nat, n = k := ⟨n.toNat, by omega⟩
      obtain ⟨m, rfl⟩ : ∃ k : Nat, m = k := ⟨m.toNat, by omega⟩
      refine WL.u rfl rfl (Wt.guard' rfl rfl rfl hg1_6 rfl) (Ex.move rfl) ?_
      refine WL.u rfl rfl (Wt.guard' rfl rfl rfl hg1_6 rfl) (Ex.lenSl Try.underlying22 rfl) ?_
      refine WL.u rfl rfl (Wt.guard' rfl rfl rfl hg1_6 rfl) (Ex.move rfl) ?_
      refine WL.u rfl rfl (Wt.guard' rfl rfl rfl hg1_6 rfl) (Ex.move rfl) ?_
      refine WL.call callable57 rfl (Wt.guard' rfl rfl rfl hg1_6 rfl) rfl rfl (sl2Ports n m _ (by omega) (by omega)) ?_
      rintro _ _ ⟨rfl, hw⟩; obtain rfl := hw.symm
      refine WL.u rfl rfl (Wt.guard' rfl rfl rfl hg1_6 rfl) (Ex.eql rfl rfl) ?_
      refine WL.u rfl rfl (Wt.plain rfl) (Ex.pickT rfl hg1_6 rfl) ?_
      refine WL.u rfl rfl (Wt.plain rfl) (Ex.move rfl) ?_
      refine WL.split (t := 21) rfl (fun hg1_14 => ?_) (fun hg1_14 => ?_)
      · have hg1_14' := hg1_14; try simp only [decide_eq_true_eq, decide_eq_false_iff_not, Bool.not_eq_true', Bool.not_eq_false', Bool.not_eq_true, Bool.not_eq_false] at hg1_14'
        have hll : (l.length : Int) = 2 * n + 2 * m := by omega
        refine WL.u rfl rfl (Wt.guard' rfl rfl rfl hg1_14 rfl) (Ex.move rfl) ?_
        refine WL.call callable69 rfl (Wt.guard' rfl rfl rfl hg1_14 rfl) rfl rfl (sl5In l _ _ _ hl) ?_
        rintro _ _ ⟨rfl, hw⟩; obtain rfl := hw.symm
        refine WL.u rfl rfl (Wt.plain rfl) (Ex.pickT rfl hg1_14 rfl) ?_
        refine WL.u rfl rfl (Wt.plain rfl) (Ex.assign rfl) ?_
        refine WL.next ?_
        refine WC.ret ?_
        refine WN.body1 rfl rfl ?_
        exact ⟨by rw [pairB_at hsd hll], rfl⟩
      have hg1_14' := hg1_14; try simp only [decide_eq_true_eq, decide_eq_false_iff_not, Bool.not_eq_true', Bool.not_eq_false', Bool.not_eq_true, Bool.not_eq_false] at hg1_14'
      have hno := pairB_len (n := n) (m := m) (l := l) (by omega)
      refine WL.pass rfl rfl (Wt.guard' rfl rfl rfl hg1_14 rfl) ?_
      refine WL.pass rfl rfl (Wt.guard' rfl rfl rfl hg1_14 rfl) ?_
      refine WL.u rfl rfl (Wt.plain rfl) (Ex.pickF rfl hg1_14 rfl) ?_
      refine WL.u rfl rfl (Wt.plain rfl) (Ex.assign rfl) ?_
      refine WL.next ?_
      refine WC.ret ?_
      refine WN.body1 rfl rfl ?_
      exact ⟨by rw [hno], rfl⟩
    have hg1_6' := hg1_6; try simp only [decide_eq_true_eq, decide_eq_false_iff_not, Bool.not_eq_true', Bool.not_eq_false', Bool.not_eq_true, Bool.not_eq_false] at hg1_6'
    have hno := pairB_side (l := l) (n := n) (m := m) (decide_eq_false (by omega))
    refine WL.pass rfl rfl (Wt.guard' rfl rfl rfl hg1_6 rfl) ?_
    refine WL.pass rfl rfl (Wt.guard' rfl rfl rfl hg1_6 rfl) ?_
    refine WL.pass rfl rfl (Wt.guard' rfl rfl rfl hg1_6 rfl) ?_
    refine WL.pass rfl rfl (Wt.guard' rfl rfl rfl hg1_6 rfl) ?_
    refine WL.pass rfl rfl (Wt.guard' rfl rfl rfl hg1_6 rfl) ?_
    refine WL.pass rfl rfl (Wt.guard' rfl rfl rfl hg1_6 rfl) ?_
    refine WL.u rfl rfl (Wt.plain rfl) (Ex.pickF rfl hg1_6 rfl) ?_
    refine WL.u rfl rfl (Wt.plain rfl) (Ex.move rfl) ?_
    refine WL.pass rfl rfl (Wt.guard' rfl rfl rfl rfl rfl) ?_
    refine WL.pass rfl rfl (Wt.guard' rfl rfl rfl rfl rfl) ?_
    refine WL.u rfl rfl (Wt.plain rfl) (Ex.pickF rfl rfl rfl) ?_
    refine WL.u rfl rfl (Wt.plain rfl) (Ex.assign rfl) ?_
    refine WL.next ?_
    refine WC.ret ?_
    refine WN.body1 rfl rfl ?_
    exact ⟨by rw [hno], rfl⟩
  have hg1_2' := hg1_2; try simp only [decide_eq_true_eq, decide_eq_false_iff_not, Bool.not_eq_true', Bool.not_eq_false', Bool.not_eq_true, Bool.not_eq_false] at hg1_2'
  have hno := pairB_side (l := l) (n := n) (m := m) (decide_eq_false (by omega))
  refine WL.pass rfl rfl (Wt.guard' rfl rfl rfl hg1_2 rfl) ?_
  refine WL.pass rfl rfl (Wt.guard' rfl rfl rfl hg1_2 rfl) ?_
  refine WL.u rfl rfl (Wt.plain rfl) (Ex.pickF rfl hg1_2 rfl) ?_
  refine WL.u rfl rfl (Wt.plain rfl) (Ex.move rfl) ?_
  refine WL.pass rfl rfl (Wt.guard' rfl rfl rfl rfl rfl) ?_
  refine WL.pass rfl rfl (Wt.guard' rfl rfl rfl rfl rfl) ?_
  refine WL.pass rfl rfl (Wt.guard' rfl rfl rfl rfl rfl) ?_
  refine WL.pass rfl rfl (Wt.guard' rfl rfl rfl rfl rfl) ?_
  refine WL.pass rfl rfl (Wt.guard' rfl rfl rfl rfl rfl) ?_
  refine WL.pass rfl rfl (Wt.guard' rfl rfl rfl rfl rfl) ?_
  refine WL.u rfl rfl (Wt.plain rfl) (Ex.pickF rfl rfl rfl) ?_
  refine WL.u rfl rfl (Wt.plain rfl) (Ex.move rfl) ?_
  refine WL.pass rfl rfl (Wt.guard' rfl rfl rfl rfl rfl) ?_
  refine WL.pass rfl rfl (Wt.guard' rfl rfl rfl rfl rfl) ?_
  refine WL.u rfl rfl (Wt.plain rfl) (Ex.pickF rfl rfl rfl) ?_
  refine WL.u rfl rfl (Wt.plain rfl) (Ex.assign rfl) ?_
  refine WL.next ?_
  refine WC.ret ?_
  refine WN.body1 rfl rfl ?_
  exact ⟨by rw [hno], rfl⟩

end Go.Proofs.Ytamkbmhgclpidaa
