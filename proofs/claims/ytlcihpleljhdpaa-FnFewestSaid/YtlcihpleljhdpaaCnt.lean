/- Counting by places. -/
import Derived.Test.YtlcihpleljhdpaaNum
namespace Go.Proofs.Ytlcihpleljhdpaa
set_option maxRecDepth 100000
set_option linter.unusedSimpArgs false
set_option linter.unusedVariables false

def bump (l : List Int) (e : Nat) : List Int := l.set e (l.getD e 0 + 1)
/-- how often f takes each value below P at 0 .. k - 1 -/
def cntBy (f : Nat → Nat) (P : Nat) : Nat → List Int
  | 0 => List.replicate P 0
  | k + 1 => bump (cntBy f P k) (f k)
theorem bump_len (l : List Int) (e : Nat) : (bump l e).length = l.length := by simp [bump]
theorem cntBy_len (f : Nat → Nat) (P : Nat) : ∀ k, (cntBy f P k).length = P
  | 0 => by simp [cntBy]
  | k + 1 => by rw [cntBy, bump_len, cntBy_len f P k]
theorem bump_get (l : List Int) (e j : Nat) (he : e < l.length) : (bump l e).getD j 0 = l.getD j 0 + (if e = j then 1 else 0) := by
  unfold bump
  rw [List.getD_eq_getElem?_getD, List.getElem?_set]
  by_cases h : e = j
  · subst h
    rw [if_pos rfl, if_pos he, if_pos rfl]; rfl
  · rw [if_neg h, if_neg h, ← List.getD_eq_getElem?_getD, Int.add_zero]
def tally (f : Nat → Nat) (j : Nat) : Nat → Nat
  | 0 => 0
  | k + 1 => tally f j k + (if f k = j then 1 else 0)
theorem cntBy_get (f : Nat → Nat) (P : Nat) : ∀ k, (∀ i, i < k → f i < P) → ∀ j, (cntBy f P k).getD j 0 = ((tally f j k : Nat) : Int)
  | 0, _, j => by
    rw [cntBy, tally, List.getD_eq_getElem?_getD, List.getElem?_replicate]
    split <;> rfl
  | k + 1, h, j => by
    rw [cntBy, tally, bump_get _ _ _ (by rw [cntBy_len]; exact h k (by omega)), cntBy_get f P k (fun i hi => h i (by omega)) j]
    split <;> omega
theorem tally_le (f : Nat → Nat) (j : Nat) : ∀ k, tally f j k ≤ k
  | 0 => by simp [tally]
  | k + 1 => by
    have := tally_le f j k
    rw [tally]; split <;> omega
theorem tally_zero (f : Nat → Nat) (j : Nat) : ∀ k, (∀ i, i < k → f i ≠ j) → tally f j k = 0
  | 0, _ => rfl
  | k + 1, h => by rw [tally, tally_zero f j k (fun i hi => h i (by omega)), if_neg (h k (by omega))]
theorem tally_pos (f : Nat → Nat) (j : Nat) : ∀ k i, i < k → f i = j → 0 < tally f j k
  | 0, i, h, _ => by omega
  | k + 1, i, h, e => by
    rw [tally]
    by_cases hi : i = k
    · subst hi; rw [if_pos e]; omega
    · have := tally_pos f j k i (by omega) e
      omega
theorem sum_set (l : List Int) (e : Nat) (x : Int) (he : e < l.length) : (l.set e x).sum = l.sum - l.getD e 0 + x := by
  induction l generalizing e with
  | nil => simp at he
  | cons y l ih =>
    cases e with
    | zero => simp; omega
    | succ e =>
      have := ih e (by simpa using he)
      simp only [List.set_cons_succ, List.sum_cons, List.getD_cons_succ, this]
      omega
theorem bump_sum (l : List Int) (e : Nat) (he : e < l.length) : (bump l e).sum = l.sum + 1 := by
  rw [bump, sum_set _ _ _ he]; omega
theorem cntBy_sum (f : Nat → Nat) (P : Nat) : ∀ k, (∀ i, i < k → f i < P) → (cntBy f P k).sum = (k : Int)
  | 0, _ => by simp [cntBy]
  | k + 1, h => by
    rw [cntBy, bump_sum _ _ (by rw [cntBy_len]; exact h k (by omega)), cntBy_sum f P k (fun i hi => h i (by omega))]
    omega
theorem cntBy_bound (f : Nat → Nat) (P k : Nat) (h : ∀ i, i < k → f i < P) (j : Nat) : 0 ≤ (cntBy f P k).getD j 0 ∧ (cntBy f P k).getD j 0 ≤ (k : Int) := by
  rw [cntBy_get f P k h j]
  have := tally_le f j k
  omega
end Go.Proofs.Ytlcihpleljhdpaa
