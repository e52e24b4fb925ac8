/- The reference's search: a changed copy, going on, the least cost. -/
import Derived.Test.YtmhmdlgcdeodmaaDoorConv
import Derived.Test.YtmhmdlgcdeodmaaDoorPutW
import Derived.Test.YtmhmdlgcdeodmaaDoorGoMin
import Derived.Test.YtmhmdlgcdeodmaaDoorLawAM
namespace Go.Proofs.YtmhmdlgcdeodmaaDoor
set_option maxRecDepth 100000
set_option linter.unusedSimpArgs false
set_option linter.unusedVariables false
open Go Go.RowKit
/-- a row with another letter, put back into its grid -/
theorem putG_rows {g : Grid} (hG : GridOk g) {cell : Nat} (hc : cell < nR g * nC g) (c : UInt8) : g.set (cell / nC g) ((g.getD (cell / nC g) []).set (cell % nC g) c) = putG g cell c := by
  have hm0 := hG.m1
  have hi : cell / nC g < nR g := Nat.div_lt_of_lt_mul (by rw [Nat.mul_comm]; exact hc)
  have hj : cell % nC g < nC g := Nat.mod_lt _ hm0
  have hdm : cell / nC g * nC g + cell % nC g = cell := by rw [Nat.mul_comm]; exact Nat.div_add_mod _ _
  refine ext_getD (by rw [List.length_set]; exact (putG_nR g cell c).symm) fun i hi' => ?_
  rw [show (putG g cell c).length = nR g from putG_nR g cell c] at hi'
  have hrow := hG.row i hi'
  have hP : ((putG g cell c).getD i []).length = nC g := by unfold putG; rw [gridOf_row _ _ _ hi']; simp
  have key : ∀ k, k < nC g → ((g.set (cell / nC g) ((g.getD (cell / nC g) []).set (cell % nC g) c)).getD i []).getD k 0 = ((putG g cell c).getD i []).getD k 0 := fun k hk => by
    rw [putG_at cell c hi' hk]
    by_cases e : cell / nC g = i
    · subst e
      rw [List.getD_eq_getElem?_getD (l := g.set _ _), List.getElem?_set_self hi, Option.getD_some]
      by_cases e2 : cell % nC g = k
      · subst e2
        rw [if_pos hdm, List.getD_eq_getElem?_getD, List.getElem?_set_self (by rw [hrow]; exact hk), Option.getD_some]
      · rw [if_neg (fun h => e2 (by omega)), List.getD_eq_getElem?_getD, List.getElem?_set_ne e2, ← List.getD_eq_getElem?_getD]
    · rw [List.getD_eq_getElem?_getD (l := g.set _ _), List.getElem?_set_ne e, ← List.getD_eq_getElem?_getD (l := g), if_neg]
      intro h
      exact e (cell_inj hk hj (h.trans hdm.symm)).1.symm
  have hlen : ((g.set (cell / nC g) ((g.getD (cell / nC g) []).set (cell % nC g) c)).getD i []).length = nC g := by
    by_cases e : cell / nC g = i
    · subst e
      rw [List.getD_eq_getElem?_getD (l := g.set _ _), List.getElem?_set_self hi, Option.getD_some, List.length_set]; exact hrow
    · rw [List.getD_eq_getElem?_getD (l := g.set _ _), List.getElem?_set_ne e, ← List.getD_eq_getElem?_getD]; exact hrow
  apply List.ext_getElem (by rw [hlen, hP])
  intro k h1 h2
  have h3 := key k (by rw [← hlen]; exact h1)
  have g1 := getD_get _ k 0 h1
  have g2 := getD_get _ k 0 h2
  rw [List.getElem?_eq_getElem h1] at g1
  rw [List.getElem?_eq_getElem h2] at g2
  rw [Option.some.inj g1, Option.some.inj g2, h3]

end Go.Proofs.YtmhmdlgcdeodmaaDoor
