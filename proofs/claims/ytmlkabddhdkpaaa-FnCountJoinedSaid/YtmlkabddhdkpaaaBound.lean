/- Costs from grids that differ in one cell. -/
import Derived.Test.YtmlkabddhdkpaaaTry
namespace Go.Proofs.Ytmlkabddhdkpaaa
set_option maxRecDepth 100000
set_option linter.unusedSimpArgs false
set_option linter.unusedVariables false

theorem apartRow_tri (a b c : Str) : ∀ k, apartRow a c k ≤ apartRow a b k + apartRow b c k
  | 0 => by simp [apartRow]
  | k + 1 => by
    have := apartRow_tri a b c k
    rw [apartRow, apartRow, apartRow]
    by_cases h1 : a.getD k 0 = b.getD k 0
    · rw [if_pos h1, h1]; omega
    · rw [if_neg h1]
      split <;> omega
theorem apartRow_comm (a b : Str) : ∀ k, apartRow a b k = apartRow b a k
  | 0 => rfl
  | k + 1 => by
    rw [apartRow, apartRow, apartRow_comm a b k]
    by_cases h1 : a.getD k 0 = b.getD k 0
    · rw [if_pos h1, if_pos h1.symm]
    · rw [if_neg h1, if_neg (fun h => h1 h.symm)]
theorem apartRow_same (a b : Str) : ∀ k, (∀ j, j < k → a.getD j 0 = b.getD j 0) → apartRow a b k = 0
  | 0, _ => rfl
  | k + 1, h => by rw [apartRow, apartRow_same a b k (fun j hj => h j (by omega)), if_pos (h k (by omega))]
theorem apartN_tri (g h k : Grid) : ∀ i, (∀ j, j < i → (g.getD j []).length = (h.getD j []).length) → apartN g k i ≤ apartN g h i + apartN h k i
  | 0, _ => by simp [apartN]
  | i + 1, hl => by
    have h1 := apartN_tri g h k i (fun j hj => hl j (by omega))
    have h2 := apartRow_tri (g.getD i []) (h.getD i []) (k.getD i []) (g.getD i []).length
    have h3 := hl i (by omega)
    rw [apartN, apartN, apartN, ← h3]; omega
theorem apartN_comm (g h : Grid) : ∀ i, (∀ j, j < i → (g.getD j []).length = (h.getD j []).length) → apartN g h i = apartN h g i
  | 0, _ => rfl
  | i + 1, hl => by rw [apartN, apartN, apartN_comm g h i (fun j hj => hl j (by omega)), apartRow_comm, hl i (by omega)]
theorem apartN_same (g h : Grid) : ∀ i, (∀ j, j < i → ∀ k, k < (g.getD j []).length → (g.getD j []).getD k 0 = (h.getD j []).getD k 0) → apartN g h i = 0
  | 0, _ => rfl
  | i + 1, hl => by rw [apartN, apartN_same g h i (fun j hj => hl j (by omega)), apartRow_same _ _ _ (hl i (by omega))]
theorem rowLen {g h : Grid} (hG : GridOk g) (hH : GridOk h) (hn : nR h = nR g) (hm : nC h = nC g) : ∀ j, j < g.length → (g.getD j []).length = (h.getD j []).length := fun j hj => by
  rw [hG.row j hj, hH.row j (by show j < nR h; rw [hn]; exact hj)]; exact hm.symm
theorem apart_tri {g h k : Grid} (hG : GridOk g) (hH : GridOk h) (hn : nR h = nR g) (hm : nC h = nC g) : apart g k ≤ apart g h + apart h k := by
  have := apartN_tri g h k g.length (rowLen hG hH hn hm)
  unfold apart
  rw [show h.length = g.length from hn]; exact this
theorem apart_comm {g h : Grid} (hG : GridOk g) (hH : GridOk h) (hn : nR h = nR g) (hm : nC h = nC g) : apart g h = apart h g := by
  unfold apart
  rw [show h.length = g.length from hn]
  exact apartN_comm g h g.length (rowLen hG hH hn hm)
theorem apart_self (g : Grid) : apart g g = 0 := apartN_same g g _ fun _ _ _ _ => rfl

/-- a grid with another letter in a cell -/
def putG (g : Grid) (cell : Nat) (c : UInt8) : Grid := gridOf (nR g) (nC g) fun i k => if i * nC g + k = cell then c else (g.getD i []).getD k 0
theorem putG_ok {g : Grid} (hG : GridOk g) (cell : Nat) {c : UInt8} (hc : okL c = true) : GridOk (putG g cell c) :=
  gridOf_ok hG.n1 hG.n5 hG.m1 hG.m5 fun i k hi hk => by
    split
    · exact hc
    · exact hG.ok i hi k hk
theorem putG_nR (g : Grid) (cell : Nat) (c : UInt8) : nR (putG g cell c) = nR g := gridOf_nR _ _ _
theorem putG_nC {g : Grid} (hG : GridOk g) (cell : Nat) (c : UInt8) : nC (putG g cell c) = nC g := gridOf_nC _ _ hG.n1
theorem putG_at {g : Grid} (cell : Nat) (c : UInt8) {i k : Nat} (hi : i < nR g) (hk : k < nC g) : ((putG g cell c).getD i []).getD k 0 = if i * nC g + k = cell then c else (g.getD i []).getD k 0 := gridOf_at _ _ _ hi hk
theorem cell_inj {m i k i' k' : Nat} (hk : k < m) (hk' : k' < m) (h : i * m + k = i' * m + k') : i = i' ∧ k = k' := by
  have h1 : (i * m + k) / m = i := by rw [Nat.mul_comm, Nat.mul_add_div (by omega), Nat.div_eq_of_lt hk, Nat.add_zero]
  have h2 : (i' * m + k') / m = i' := by rw [Nat.mul_comm, Nat.mul_add_div (by omega), Nat.div_eq_of_lt hk', Nat.add_zero]
  rw [h] at h1
  have : i = i' := by omega
  subst this
  exact ⟨rfl, by omega⟩
theorem apartRow_one (a b : Str) (x : Nat) : ∀ k, (∀ j, j < k → j ≠ x → a.getD j 0 = b.getD j 0) → apartRow a b k ≤ 1 ∧ (k ≤ x → apartRow a b k = 0)
  | 0, _ => ⟨by simp [apartRow], fun _ => rfl⟩
  | k + 1, h => by
    obtain ⟨h1, h2⟩ := apartRow_one a b x k (fun j hj hx => h j (by omega) hx)
    rw [apartRow]
    by_cases e : k = x
    · subst e
      rw [h2 (Nat.le_refl _)]
      exact ⟨by split <;> omega, fun hk => by omega⟩
    · rw [if_pos (h k (by omega) e)]
      exact ⟨by omega, fun hk => by rw [h2 (by omega)]⟩
theorem apartN_one (g h : Grid) (x y : Nat) : ∀ i, (∀ j, j < i → ∀ k, k < (g.getD j []).length → ¬ (j = x ∧ k = y) → (g.getD j []).getD k 0 = (h.getD j []).getD k 0) → apartN g h i ≤ 1 ∧ (i ≤ x → apartN g h i = 0)
  | 0, _ => ⟨by simp [apartN], fun _ => rfl⟩
  | i + 1, hl => by
    obtain ⟨h1, h2⟩ := apartN_one g h x y i (fun j hj => hl j (by omega))
    rw [apartN]
    by_cases e : i = x
    · subst e
      have h3 := (apartRow_one (g.getD i []) (h.getD i []) y _ (fun k hk hne => hl i (by omega) k hk (fun h => hne h.2))).1
      rw [h2 (Nat.le_refl _)]
      exact ⟨by omega, fun hi => by omega⟩
    · rw [apartRow_same _ _ _ (fun k hk => hl i (by omega) k hk (fun h => e h.1))]
      exact ⟨by omega, fun hi => by rw [h2 (by omega)]⟩
theorem apart_put {g : Grid} (hG : GridOk g) {cell : Nat} (c : UInt8) (hc : cell < nR g * nC g) : apart g (putG g cell c) ≤ 1 := by
  have hm := hG.m1
  refine (apartN_one g (putG g cell c) (cell / nC g) (cell % nC g) g.length fun j hj k hk hne => ?_).1
  rw [hG.row j hj] at hk
  rw [putG_at cell c hj hk, if_neg]
  intro e
  apply hne
  have := Nat.div_add_mod cell (nC g)
  exact cell_inj hk (Nat.mod_lt _ hm) (by rw [e, Nat.mul_comm]; exact this.symm)
end Go.Proofs.Ytmlkabddhdkpaaa
