/- Trying all grids: costs, the first least one; some grid leads any port to any other. -/
import Derived.Test.YtmlkabddhdkpaaaAimP
import Derived.Test.YtmlkabddhdkpaaaJnCn
namespace Go.Proofs.Ytmlkabddhdkpaaa
set_option maxRecDepth 100000
set_option linter.unusedSimpArgs false
set_option linter.unusedVariables false

def apartRow (a b : Str) : Nat → Nat
  | 0 => 0
  | k + 1 => apartRow a b k + (if a.getD k 0 = b.getD k 0 then 0 else 1)
def apartN (g h : Grid) : Nat → Nat
  | 0 => 0
  | i + 1 => apartN g h i + apartRow (g.getD i []) (h.getD i []) (g.getD i []).length
def apart (g h : Grid) : Nat := apartN g h g.length
theorem apartRow_le (a b : Str) : ∀ k, apartRow a b k ≤ k
  | 0 => by simp [apartRow]
  | k + 1 => by
    have := apartRow_le a b k
    rw [apartRow]; split <;> omega
theorem apartN_le (g h : Grid) (M : Nat) : ∀ i, (∀ j, j < i → (g.getD j []).length ≤ M) → apartN g h i ≤ i * M
  | 0, _ => by simp [apartN]
  | i + 1, hl => by
    have h1 := apartN_le g h M i (fun j hj => hl j (by omega))
    have h2 := apartRow_le (g.getD i []) (h.getD i []) (g.getD i []).length
    have h3 := hl i (by omega)
    rw [apartN, Nat.add_mul, Nat.one_mul]; omega
theorem apart_le {g : Grid} (hG : GridOk g) (h : Grid) : apart g h ≤ nR g * nC g :=
  apartN_le g h (nC g) _ fun j hj => Nat.le_of_eq (hG.row j hj)

/-- the first least cost among 0 .. i - 1 -/
def tryN (C E : Nat → Nat) (q : Nat) : Nat → Option (Nat × Nat)
  | 0 => none
  | i + 1 => match tryN C E q i with
    | none => if E i = q then some (C i, i) else none
    | some r => if E i = q ∧ C i < r.1 then some (C i, i) else some r
theorem tryN_none {C E : Nat → Nat} {q : Nat} : ∀ {N : Nat}, tryN C E q N = none → ∀ k, k < N → E k ≠ q
  | 0, _, k, hk => by omega
  | N + 1, h, k, hk => by
    rw [tryN] at h
    cases e : tryN C E q N with
    | none =>
      rw [e] at h
      simp only at h
      by_cases hE : E N = q
      · rw [if_pos hE] at h; cases h
      · rcases Nat.lt_succ_iff_lt_or_eq.1 hk with h1 | rfl
        · exact tryN_none e k h1
        · exact hE
    | some r =>
      rw [e] at h
      simp only at h
      split at h <;> cases h
theorem tryN_some {C E : Nat → Nat} {q : Nat} : ∀ {N : Nat} {c j : Nat}, tryN C E q N = some (c, j) → j < N ∧ E j = q ∧ C j = c ∧ ∀ k, k < N → E k = q → c ≤ C k
  | 0, c, j, h => by cases h
  | N + 1, c, j, h => by
    rw [tryN] at h
    cases e : tryN C E q N with
    | none =>
      rw [e] at h
      simp only at h
      by_cases hE : E N = q
      · rw [if_pos hE] at h
        cases h
        refine ⟨by omega, hE, rfl, fun k hk he => ?_⟩
        rcases Nat.lt_succ_iff_lt_or_eq.1 hk with h1 | rfl
        · exact absurd he (tryN_none e k h1)
        · exact Nat.le_refl _
      · rw [if_neg hE] at h; cases h
    | some r =>
      obtain ⟨c', j'⟩ := r
      obtain ⟨h1, h2, h3, h4⟩ := tryN_some e
      rw [e] at h
      simp only at h
      by_cases hE : E N = q ∧ C N < c'
      · rw [if_pos hE] at h
        cases h
        refine ⟨by omega, hE.1, rfl, fun k hk he => ?_⟩
        rcases Nat.lt_succ_iff_lt_or_eq.1 hk with h5 | rfl
        · have := h4 k h5 he; omega
        · exact Nat.le_refl _
      · rw [if_neg hE] at h
        cases h
        refine ⟨by omega, h2, h3, fun k hk he => ?_⟩
        rcases Nat.lt_succ_iff_lt_or_eq.1 hk with h5 | rfl
        · exact h4 k h5 he
        · apply Nat.le_of_not_lt
          intro h6
          exact hE ⟨he, h6⟩

/-! some grid leads there -/
def mirD (d e : Nat) : UInt8 := if bend 114 d = e then 114 else 102
def wit (n m p q : Nat) (i k : Nat) : UInt8 :=
  let a := enterN n m p
  let b := enterN n m q
  let r1 := a.1 / m
  let c1 := a.1 % m
  let r2 := b.1 / m
  let c2 := b.1 % m
  let o := rv b.2
  if a.2 % 2 = 0 then
    if b.2 % 2 = 0 then
      if c1 = c2 then 46 else if i = 0 ∧ k = c1 then mirD a.2 (if c1 < c2 then 1 else 3) else if i = 0 ∧ k = c2 then mirD (if c1 < c2 then 1 else 3) o else 46
    else if i = r2 ∧ k = c1 then mirD a.2 o else 46
  else
    if b.2 % 2 = 0 then (if i = r1 ∧ k = c2 then mirD a.2 o else 46)
    else if r1 = r2 then 46 else if k = 0 ∧ i = r1 then mirD a.2 (if r1 < r2 then 2 else 0) else if k = 0 ∧ i = r2 then mirD (if r1 < r2 then 2 else 0) o else 46
def chkW (n m p q : Nat) : Bool := n == 0 || m == 0 || Nat.blt 9 (n * m) || p == q || (way (gridOf n m (wit n m p q)) p).2 == q
theorem allW : ∀ n < 6, ∀ m < 6, ∀ p < 2 * n + 2 * m, ∀ q < 2 * n + 2 * m, chkW n m p q = true := by decide +kernel
theorem mirD_ok (d e : Nat) : okL (mirD d e) = true := by unfold mirD; split <;> decide
theorem wit_ok (n m p q i k : Nat) : okL (wit n m p q i k) = true := by
  unfold wit
  simp only
  split <;> split <;> (try split) <;> (try split) <;> (try split) <;> first | exact mirD_ok _ _ | decide
theorem some_leads {n m p q : Nat} (h1 : 1 ≤ n) (h2 : n ≤ 5) (h3 : 1 ≤ m) (h4 : m ≤ 5) (h9 : n * m ≤ 9) (hp : p < 2 * n + 2 * m) (hq : q < 2 * n + 2 * m) (hpq : p ≠ q) : ∃ g, GridOk g ∧ nR g = n ∧ nC g = m ∧ (way g p).2 = q := by
  have := allW n (by omega) m (by omega) p hp q hq
  unfold chkW at this
  rw [show (n == 0) = false by simp; omega, show (m == 0) = false by simp; omega, show Nat.blt 9 (n * m) = false by
    cases e : Nat.blt 9 (n * m) with
    | false => rfl
    | true =>
      have : 9 < n * m := by simpa using e
      omega, show (p == q) = false by simpa using hpq] at this
  simp only [Bool.false_or, beq_iff_eq] at this
  exact ⟨_, gridOf_ok h1 h2 h3 h4 fun i k _ _ => wit_ok n m p q i k, gridOf_nR n m _, gridOf_nC m _ h1, this⟩
end Go.Proofs.Ytmlkabddhdkpaaa
