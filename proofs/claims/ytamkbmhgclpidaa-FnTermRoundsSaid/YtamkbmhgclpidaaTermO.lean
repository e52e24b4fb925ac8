/- Terms of grids. -/
import Derived.Test.YtamkbmhgclpidaaAll
namespace Go.Proofs.Ytamkbmhgclpidaa
set_option maxRecDepth 100000
set_option linter.unusedSimpArgs false
set_option linter.unusedVariables false
open Go Go.RowKit
def rowT : Str → Str
  | [] => []
  | [c] => [c]
  | c :: d :: r => [40] ++ [c] ++ [124] ++ rowT (d :: r) ++ [41]
def writeT : Grid → Str
  | [] => []
  | [r] => rowT r
  | r :: s :: g => [40] ++ rowT r ++ [45] ++ writeT (s :: g) ++ [41]
theorem rowT_len : ∀ (r : Str), 0 < r.length → (rowT r).length + 3 = 4 * r.length
  | [], h => by simp at h
  | [c], _ => rfl
  | c :: d :: r, _ => by
    have := rowT_len (d :: r) (by simp)
    rw [rowT]
    simp only [List.length_append, List.length_cons, List.length_nil] at this ⊢
    omega
theorem rowT_step {r : Str} (h : 2 ≤ r.length) : rowT r = [40] ++ r.take 1 ++ [124] ++ rowT (r.drop 1) ++ [41] := by
  match r, h with
  | c :: d :: r, _ => rfl
theorem rowT_one {r : Str} (h : r.length = 1) : rowT r = r := by
  match r, h with
  | [c], _ => rfl
theorem writeT_len {m : Nat} : ∀ (g : Grid), (∀ r ∈ g, 0 < r.length ∧ r.length ≤ m) → (writeT g).length ≤ (4 * m + 3) * g.length
  | [], _ => by simp [writeT]
  | [r], h => by
    have h1 := h r (by simp)
    have := rowT_len r h1.1
    rw [writeT, List.length_singleton, Nat.mul_one]; omega
  | r :: s :: g, h => by
    have h1 := h r (by simp)
    have h2 := rowT_len r h1.1
    have h3 := writeT_len (m := m) (s :: g) (fun x hx => h x (by simp [hx]))
    rw [writeT]
    simp only [List.length_append, List.length_cons, List.length_nil] at h3 ⊢
    rw [Nat.mul_add (4 * m + 3) (g.length + 1) 1]
    omega
theorem writeT_step {g : Grid} (h : 2 ≤ g.length) : writeT g = [40] ++ rowT (g.getD 0 []) ++ [45] ++ writeT (g.drop 1) ++ [41] := by
  match g, h with
  | r :: s :: g, _ => rfl
theorem writeT_one {g : Grid} (h : g.length = 1) : writeT g = rowT (g.getD 0 []) := by
  match g, h with
  | [r], _ => rfl
theorem drop_step {g : Grid} {i : Nat} (h : i + 1 < g.length) : writeT (g.drop i) = [40] ++ rowT (g.getD i []) ++ [45] ++ writeT (g.drop (i + 1)) ++ [41] := by
  rw [writeT_step (by rw [List.length_drop]; omega), List.drop_drop]
  have : (g.drop i).getD 0 [] = g.getD i [] := by simp [List.getD_eq_getElem?_getD]
  rw [this]
theorem drop_last {g : Grid} {i : Nat} (h : i + 1 = g.length) : writeT (g.drop i) = rowT (g.getD i []) := by
  rw [writeT_one (by rw [List.length_drop]; omega)]
  have : (g.drop i).getD 0 [] = g.getD i [] := by simp [List.getD_eq_getElem?_getD]
  rw [this]
def termOf (g : Grid) : Str × Bool := if gridIn g = true ∧ (writeT g).length ≤ 60 then (writeT g, true) else ([], false)
theorem termOf_not {g : Grid} (h : ¬ (gridIn g = true ∧ (writeT g).length ≤ 60)) : termOf g = ([], false) := by rw [termOf, if_neg h]
theorem termOf_at {g : Grid} (h : gridIn g = true) (h2 : (writeT g).length ≤ 60) : termOf g = (writeT g, true) := by rw [termOf, if_pos ⟨h, h2⟩]
theorem GridOk.rows {g : Grid} (h : GridOk g) : ∀ r ∈ g, 0 < r.length ∧ r.length ≤ 5 := fun r hr => by
  obtain ⟨i, hi, rfl⟩ := List.getElem_of_mem hr
  have := h.row i hi
  rw [List.getD_eq_getElem?_getD, List.getElem?_eq_getElem hi, Option.getD_some] at this
  have := h.m1
  have := h.m5
  omega
theorem Sl.drop {α : Type} {r : Rep α} {w : World} {b off : Nat} {l : List α} (h1 : r.sz = 1) (h : Sl r w (some ⟨b, off, none⟩) l) (k : Nat) : Sl r w (some ⟨b, off + k * 1, none⟩) (l.drop k) := by
  refine ⟨by have := h.1; rw [List.length_drop]; omega, .inr ⟨b, off + k * 1, rfl, fun j u hu => ?_⟩⟩
  rcases h.2 with rfl | ⟨b', off', e, hc⟩
  · simp at hu
  · cases e
    rw [flat_one h1, List.map_drop, List.getElem?_drop] at hu
    have := hc (k + j) u (by rw [flat_one h1]; exact hu)
    rw [Nat.mul_one, Nat.add_assoc]; exact this

end Go.Proofs.Ytamkbmhgclpidaa
