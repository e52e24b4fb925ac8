/- Rounds and their counts: the reference's. -/
import Derived.Test.YtmlkabddhdkpaaaRnd2
namespace Go.Proofs.Ytmlkabddhdkpaaa
set_option maxRecDepth 100000
set_option linter.unusedSimpArgs false
set_option linter.unusedVariables false
open Go Go.RowKit
theorem ex_inl {g : Grid} {s : Nat × Nat} (h : 0 ≤ ex g s) : ∃ p, afterN g s = .inl p := by
  cases ha : afterN g s with
  | inl p => exact ⟨p, rfl⟩
  | inr s' => simp [ex, ha] at h
theorem ex_inr {g : Grid} {s : Nat × Nat} (h : ex g s < 0) : afterN g s = .inr (nx g s) := by
  cases ha : afterN g s with
  | inl p =>
    have e : ex g s = (p : Int) := by simp [ex, ha]
    omega
  | inr s' => simp [nx, ha]
theorem bool_set {l : List Bool} {y : Nat} (hy : y < l.length) (x : Nat) : (l.set y true).getD x false = (l.getD x false || y == x) := by
  rw [List.getD_eq_getElem?_getD, List.getElem?_set]
  by_cases h : y = x
  · subst h; rw [if_pos rfl, if_pos hy]; simp
  · rw [if_neg h, ← List.getD_eq_getElem?_getD]
    have : (y == x) = false := by simpa using h
    rw [this, Bool.or_false]
theorem inL_snoc (L : List (Nat × Nat)) (s : Nat × Nat) (y : Nat) : inL (L ++ [s]) y = (inL L y || code s == y) := by
  unfold inL; rw [List.any_append]; simp
theorem xor2 {e : Nat} (h : e < 4) : (((e : Int).toNat ^^^ (2 : Int).toNat : Nat) : Int) = ((rv e : Nat) : Int) := by
  obtain h | h | h | h : e = 0 ∨ e = 1 ∨ e = 2 ∨ e = 3 := by omega
  all_goals (subst h; rfl)
theorem cell_split {c m : Nat} : ((c / m : Nat) : Int) * (m : Int) + ((c % m : Nat) : Int) = (c : Int) := by
  have := Nat.div_add_mod c m
  have h2 : ((c / m * m + c % m : Nat) : Int) = (c : Int) := by rw [Nat.mul_comm]; rw [this]
  exact h2
theorem stepI_bd {x y : Int} (hx : 0 ≤ x ∧ x < 5) (hy : 0 ≤ y ∧ y < 5) (e : Nat) : -100 ≤ (stepI x y e).1 ∧ (stepI x y e).1 ≤ 100 ∧ -100 ≤ (stepI x y e).2 ∧ (stepI x y e).2 ≤ 100 := by
  unfold stepI; split
  · exact ⟨by dsimp only; omega, by dsimp only; omega, by dsimp only; omega, by dsimp only; omega⟩
  · split
    · exact ⟨by dsimp only; omega, by dsimp only; omega, by dsimp only; omega, by dsimp only; omega⟩
    · split
      · exact ⟨by dsimp only; omega, by dsimp only; omega, by dsimp only; omega, by dsimp only; omega⟩
      · exact ⟨by dsimp only; omega, by dsimp only; omega, by dsimp only; omega, by dsimp only; omega⟩
def MarksI (g : Grid) (mk : List Bool) (p : Nat) (L : List (Nat × Nat)) : Prop := mk.length = 4 * (nR g * nC g) ∧ ∀ x, mk.getD x false = ((List.range p).any (fun q => inL (way g q).1 x) || inL L x)
theorem MarksI.start (g : Grid) : MarksI g (List.replicate (4 * (nR g * nC g)) false) 0 [] := ⟨by simp, fun x => by
  rw [List.getD_eq_getElem?_getD, List.getElem?_replicate]
  simp only [List.range_zero, List.any_nil, inL, Bool.or_false]
  split <;> rfl⟩
theorem MarksI.set {g : Grid} {mk : List Bool} {p : Nat} {L : List (Nat × Nat)} (h : MarksI g mk p L) {s : Nat × Nat} (hs : Ok g s) : MarksI g (mk.set (code s) true) p (L ++ [s]) := by
  refine ⟨by rw [List.length_set]; exact h.1, fun x => ?_⟩
  rw [bool_set (by rw [h.1]; exact code_lt hs), h.2, inL_snoc, Bool.or_assoc]
theorem MarksI.next {g : Grid} {mk : List Bool} {p : Nat} (h : MarksI g mk p (way g p).1) : MarksI g mk (p + 1) [] := by
  refine ⟨h.1, fun x => ?_⟩
  rw [h.2, List.range_succ, List.any_append]
  simp [inL]
/-- the marks while a round is gone over -/
def Marks2 (g : Grid) (M : Nat → Bool) (mk : List Bool) (L : List (Nat × Nat)) : Prop := mk.length = 4 * (nR g * nC g) ∧ ∀ x, mk.getD x false = (M x || inL L x || inL (L.map (rev g)) x)
theorem Marks2.set {g : Grid} {M : Nat → Bool} {mk : List Bool} {L : List (Nat × Nat)} (h : Marks2 g M mk L) {s : Nat × Nat} (hs : Ok g s) : Marks2 g M ((mk.set (code s) true).set (code (rev g s)) true) (L ++ [s]) := by
  refine ⟨by rw [List.length_set, List.length_set]; exact h.1, fun x => ?_⟩
  rw [bool_set (by rw [List.length_set, h.1]; exact code_lt hs.rev), bool_set (by rw [h.1]; exact code_lt hs), h.2, inL_snoc, List.map_append, List.map_cons, List.map_nil, inL_snoc]
  cases M x <;> cases inL L x <;> cases inL (L.map (rev g)) x <;> cases (code s == x) <;> cases (code (rev g s) == x) <;> rfl
theorem Marks2.start {g : Grid} {M : Nat → Bool} {mk : List Bool} (h1 : mk.length = 4 * (nR g * nC g)) (h2 : ∀ x, mk.getD x false = M x) : Marks2 g M mk [] := ⟨h1, fun x => by rw [h2]; simp [inL]⟩
theorem addL_take (l : List Int) (e j : Nat) : padL l (Max.max l.length j) = l ++ List.replicate (j - l.length) 0 := by
  unfold padL; congr 2; omega

end Go.Proofs.Ytmlkabddhdkpaaa
