/- The laws' own words on lists of ints: equal, marked, held. -/
import Derived.Test.YtmhmdlgcdeodmaaDoorWays
import Derived.Test.YtmhmdlgcdeodmaaDoorRd
namespace Go.Proofs.YtmhmdlgcdeodmaaDoor
set_option maxRecDepth 100000
set_option linter.unusedSimpArgs false
set_option linter.unusedVariables false
open Go Go.RowKit

def marks (k : Int) (n : Nat) : List Int := (List.range n).map fun i : Nat => k + (i : Int)
theorem marks_len (k : Int) (n : Nat) : (marks k n).length = n := by simp [marks]
theorem marks_get (k : Int) (n i : Nat) (h : i < n) : (marks k n)[i]? = some (k + (i : Int)) := by
  unfold marks
  rw [List.getElem?_map, List.getElem?_range h]; rfl
theorem ext_int {g h : List Int} (hl : g.length = h.length) (hI : ∀ j, j < g.length → g.getD j 0 = h.getD j 0) : g = h :=
  List.ext_getElem hl fun i h1 h2 => by
    have := hI i h1
    rwa [List.getD_eq_getElem?_getD, List.getD_eq_getElem?_getD, List.getElem?_eq_getElem h1, List.getElem?_eq_getElem h2] at this
theorem marks_of {m : List Int} {k : Int} {n : Nat} (hl : m.length = n) (h : ∀ j, j < n → m.getD j 0 = k + (j : Int)) : m = marks k n := by
  refine ext_int (by rw [hl, marks_len]) (fun j hj => ?_)
  rw [h j (by omega), List.getD_eq_getElem?_getD, marks_get k n j (by omega)]; rfl


theorem take_sum_succ (l : List Int) (i : Nat) (h : i < l.length) : (l.take (i + 1)).sum = (l.take i).sum + l.getD i 0 := by
  rw [List.take_add_one, getD_get l i 0 h]; simp
theorem take_sum_nonneg {l : List Int} (h : ∀ j, 0 ≤ l.getD j 0) : ∀ i, i ≤ l.length → 0 ≤ (l.take i).sum
  | 0, _ => by simp
  | i + 1, hi => by
    rw [take_sum_succ l i (by omega)]
    have := take_sum_nonneg h i (by omega)
    have := h i
    omega
theorem take_sum_le {l : List Int} (h : ∀ j, 0 ≤ l.getD j 0) : ∀ d i, i + d = l.length → (l.take i).sum ≤ l.sum
  | 0, i, hd => by rw [show i = l.length by omega, List.take_length]; omega
  | d + 1, i, hd => by
    have h1 := take_sum_le h d (i + 1) (by omega)
    rw [take_sum_succ l i (by omega)] at h1
    have := h i
    omega

end Go.Proofs.YtmhmdlgcdeodmaaDoor
