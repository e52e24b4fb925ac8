/- Beams end elsewhere; who leads to whom. -/
import Derived.Test.YtmlkabddhdkpaaaJnCn
import Derived.Test.YtmlkabddhdkpaaaMaths
namespace Go.Proofs.Ytmlkabddhdkpaaa
set_option maxRecDepth 100000
set_option linter.unusedSimpArgs false
set_option linter.unusedVariables false

theorem Walk.nth {g : Grid} {s : Nat × Nat} {L : List (Nat × Nat)} {e : Nat} (h : Walk g s L e) : ∀ i t t', L[i]? = some t → L[i + 1]? = some t' → afterN g t = .inr t' := by
  induction h with
  | out h => intro i t t' h1 h2; simp at h2
  | @on s s' L e h k ih =>
    intro i t t' h1 h2
    cases i with
    | zero =>
      obtain ⟨M, hM⟩ := k.head
      subst hM
      simp at h1 h2
      subst h1; subst h2; exact h
    | succ i =>
      exact ih i t t' (by simpa using h1) (by simpa using h2)
def chkN (n m cell e : Nat) : Bool := match goN n m cell e with
  | .inl _ => true
  | .inr s => decide (s.1 ≠ cell)
theorem allN : ∀ n < 6, ∀ m < 6, ∀ cell < n * m, ∀ e < 4, chkN n m cell e = true := by decide +kernel
theorem after_cell {g : Grid} (z : Sz g) {s s' : Nat × Nat} (h : Ok g s) (e : afterN g s = .inr s') : s'.1 ≠ s.1 := by
  have := allN _ z.n5 _ z.m5 s.1 h.cell _ (bend_lt (letter g s.1) s.2 h.d)
  unfold chkN at this
  unfold afterN at e
  rw [e] at this
  exact of_decide_eq_true this
theorem bend_ne (c : UInt8) {d : Nat} (h : d < 4) : rv (bend c d) ≠ d := by
  obtain h | h | h | h : d = 0 ∨ d = 1 ∨ d = 2 ∨ d = 3 := by omega
  all_goals
    subst h
    unfold bend
    by_cases h1 : c = 114
    · simp [h1, rv]
    · by_cases h2 : c = 102
      · simp [h2, rv]
      · simp [h1, h2, rv]
theorem rev_ne {g : Grid} {s : Nat × Nat} (h : Ok g s) : rev g s ≠ s := fun e => bend_ne (letter g s.1) h.d (congrArg Prod.snd e)
theorem way_ne {g : Grid} (z : Sz g) {p : Nat} (hp : p < ports g) : (way g p).2 ≠ p := by
  intro e
  have hb := way_back z hp
  rw [e] at hb
  have hL : (way g p).1 = ((way g p).1.map (rev g)).reverse := congrArg Prod.fst hb
  have hw := way_walk z hp
  have hok := way_ok z hp
  have hpos := way_pos z hp
  generalize (way g p).1 = L at *
  have hget : ∀ i, i < L.length → L[i]? = (L[L.length - 1 - i]?).map (rev g) := fun i hi => by
    conv => lhs; rw [hL]
    rw [List.getElem?_reverse (by simpa using hi), List.length_map, List.getElem?_map]
  rcases (show (∃ k, L.length = 2 * k) ∨ (∃ k, L.length = 2 * k + 1) by
    rcases Nat.mod_two_eq_zero_or_one L.length with h | h
    · exact .inl ⟨L.length / 2, by omega⟩
    · exact .inr ⟨L.length / 2, by omega⟩) with ⟨k, hk⟩ | ⟨k, hk⟩
  · have h1 := hget k (by omega)
    rw [show L.length - 1 - k = k - 1 by omega] at h1
    have h2 : (k - 1) + 1 = k := by omega
    have h3 : k - 1 < L.length := by omega
    rw [List.getElem?_eq_getElem h3, Option.map_some] at h1
    have h4 := hw.nth (k - 1) L[k - 1] (rev g L[k - 1]) (List.getElem?_eq_getElem h3) (by rw [h2]; exact h1)
    exact after_cell z (hok _ (List.getElem_mem h3)) h4 rfl
  · have h1 := hget k (by omega)
    have h3 : k < L.length := by omega
    rw [show L.length - 1 - k = k by omega, List.getElem?_eq_getElem h3, Option.map_some] at h1
    exact rev_ne (hok _ (List.getElem_mem h3)) (Option.some.inj h1).symm
theorem way_swap {g : Grid} (z : Sz g) {p q : Nat} (hp : p < ports g) (hq : q < ports g) : (way g p).2 = q ↔ (way g q).2 = p := by
  constructor
  · intro h
    have := way_back z hp
    rw [h] at this; rw [this]
  · intro h
    have := way_back z hq
    rw [h] at this; rw [this]

theorem tally_congr (f f' : Nat → Nat) (a b : Nat) : ∀ k, (∀ i, i < k → (f i = a ↔ f' i = b)) → tally f a k = tally f' b k
  | 0, _ => rfl
  | k + 1, h => by
    rw [tally, tally, tally_congr f f' a b k (fun i hi => h i (by omega))]
    have := h k (by omega)
    by_cases e : f k = a
    · rw [if_pos e, if_pos (this.1 e)]
    · rw [if_neg e, if_neg (fun e2 => e (this.2 e2))]
def tsum (f : Nat → Nat) (N : Nat) : Nat → Nat
  | 0 => 0
  | i + 1 => tsum f N i + tally f i N
theorem tsum_zero (f : Nat → Nat) : ∀ P, tsum f 0 P = 0
  | 0 => rfl
  | P + 1 => by rw [tsum, tsum_zero f P, tally]
theorem tsum_succ (f : Nat → Nat) (N : Nat) : ∀ P, tsum f (N + 1) P = tsum f N P + (if f N < P then 1 else 0)
  | 0 => by simp [tsum]
  | P + 1 => by
    rw [tsum, tsum, tsum_succ f N P, tally]
    by_cases h : f N = P
    · subst h
      rw [if_pos rfl, if_neg (by omega), if_pos (by omega)]; omega
    · rw [if_neg h]
      by_cases h2 : f N < P
      · rw [if_pos h2, if_pos (by omega)]; omega
      · rw [if_neg h2, if_neg (by omega)]; omega
theorem tsum_all (f : Nat → Nat) (P : Nat) : ∀ N, (∀ i, i < N → f i < P) → tsum f N P = N
  | 0, _ => tsum_zero f P
  | N + 1, h => by rw [tsum_succ, tsum_all f P N (fun i hi => h i (by omega)), if_pos (h N (by omega))]
theorem tsum_le (f : Nat → Nat) (N : Nat) : ∀ i j, i ≤ j → tsum f N i ≤ tsum f N j
  | i, 0, h => by rw [show i = 0 by omega]; exact Nat.le_refl _
  | i, j + 1, h => by
    rcases Nat.lt_or_ge i (j + 1) with h1 | h1
    · have := tsum_le f N i j (by omega)
      rw [tsum]; omega
    · rw [show i = j + 1 by omega]; exact Nat.le_refl _
end Go.Proofs.Ytmlkabddhdkpaaa
