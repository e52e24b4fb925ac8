/- The reference's search: a changed copy, going on, the least cost. -/
import Derived.Test.YtmlkabddhdkpaaaConv
import Derived.Test.YtmlkabddhdkpaaaPutW
import Derived.Test.YtmlkabddhdkpaaaJnGo
import Derived.Test.YtmlkabddhdkpaaaJnLc
namespace Go.Proofs.Ytmlkabddhdkpaaa
set_option maxRecDepth 100000
set_option linter.unusedSimpArgs false
set_option linter.unusedVariables false
open Go Go.RowKit
/-- a row with another letter, put back into its grid -/
theorem putG_rows {g : Grid} (hG : GridOk g) {cell : Nat} (hc : cell < nR g * nC g) (c : UInt8) : g.set (cell / nC g) ((g.getD (cell / nC g) []).set (cell % nC g) c) = putG g cell c := by
  have hm0 := hG.m1
  have hi : cell / nC g < nR g := Nat.div_lt_of_lt_mul (by rw [Nat.mul_comm]; exact hc)
  have hj : cell % nC g < nC g := Nat.mod_lt _ hm0
  have hdm : cell / nC g * nC g + cell % nC g = cell := by rw [Nat.mul_comm]; exact Nat.div_add_mod _ _
  refine ext_getD (by rw [List.length_set]; exact (putG_nR g cell c).symm) fun i hi' => ?_
  rw [show (putG g cell c).length = nR g from putG_nR g cell c] at hi'
  have hrow := hG.row i hi'
  have hP : ((putG g cell c).getD i []).length = nC g := by unfold putG; rw [gridOf_row _ _ _ hi']; simp
  have key : ∀ k, k < nC g → ((g.set (cell / nC g) ((g.getD (cell / nC g) []).set (cell % nC g) c)).getD i []).getD k 0 = ((putG g cell c).getD i []).getD k 0 := fun k hk => by
    rw [putG_at cell c hi' hk]
    by_cases e : cell / nC g = i
    · subst e
      rw [List.getD_eq_getElem?_getD (l := g.set _ _), List.getElem?_set_self hi, Option.getD_some]
      by_cases e2 : cell % nC g = k
      · subst e2
        rw [if_pos hdm, List.getD_eq_getElem?_getD, List.getElem?_set_self (by rw [hrow]; exact hk), Option.getD_some]
      · rw [if_neg (fun h => e2 (by omega)), List.getD_eq_getElem?_getD, List.getElem?_set_ne e2, ← List.getD_eq_getElem?_getD]
    · rw [List.getD_eq_getElem?_getD (l := g.set _ _), List.getElem?_set_ne e, ← List.getD_eq_getElem?_getD (l := g), if_neg]
      intro h
      exact e (cell_inj hk hj (h.trans hdm.symm)).1.symm
  have hlen : ((g.set (cell / nC g) ((g.getD (cell / nC g) []).set (cell % nC g) c)).getD i []).length = nC g := by
    by_cases e : cell / nC g = i
    · subst e
      rw [List.getD_eq_getElem?_getD (l := g.set _ _), List.getElem?_set_self hi, Option.getD_some, List.length_set]; exact hrow
    · rw [List.getD_eq_getElem?_getD (l := g.set _ _), List.getElem?_set_ne e, ← List.getD_eq_getElem?_getD]; exact hrow
  apply List.ext_getElem (by rw [hlen, hP])
  intro k h1 h2
  have h3 := key k (by rw [← hlen]; exact h1)
  have g1 := getD_get _ k 0 h1
  have g2 := getD_get _ k 0 h2
  rw [List.getElem?_eq_getElem h1] at g1
  rw [List.getElem?_eq_getElem h2] at g2
  rw [Option.some.inj g1, Option.some.inj g2, h3]

end Go.Proofs.Ytmlkabddhdkpaaa

/- The reference's search goes on: it computes the plain search. -/
namespace Go.Proofs.Ytmlkabddhdkpaaa
set_option maxRecDepth 100000
set_option linter.unusedSimpArgs false
set_option linter.unusedVariables false
open Go Go.RowKit
def foldT (q f : Nat) (h : Grid) (F : List Bool) (s : Nat × Nat) (c : Nat) : Str → Nat → Nat
  | [], b => b
  | x :: xs, b => foldT q f h F s c xs (tryW (goM q f) q h F s c x b)
theorem foldT_snoc (q f : Nat) (h : Grid) (F : List Bool) (s : Nat × Nat) (c : Nat) (x : UInt8) : ∀ (xs : Str) (b : Nat), foldT q f h F s c (xs ++ [x]) b = tryW (goM q f) q h F s c x (foldT q f h F s c xs b)
  | [], b => rfl
  | y :: xs, b => by rw [List.cons_append, foldT, foldT, foldT_snoc q f h F s c x xs]
theorem foldT_le (q f : Nat) (h : Grid) (F : List Bool) (s : Nat × Nat) (c : Nat) : ∀ (xs : Str) (b : Nat), foldT q f h F s c xs b ≤ b
  | [], b => Nat.le_refl _
  | y :: xs, b => by
    rw [foldT]
    refine Nat.le_trans (foldT_le q f h F s c xs _) ?_
    unfold tryW
    exact leaveW_le (goM_le q f) _ _ _ _ _ _
theorem set_same {F : List Bool} {i : Nat} (h : F.getD i false = true) : F.set i true = F := by
  apply List.ext_getElem (by simp)
  intro j h1 h2
  rw [List.getElem_set]
  split
  · next e =>
    subst e
    rw [List.getD_eq_getElem?_getD, List.getElem?_eq_getElem h2, Option.getD_some] at h
    exact h.symm
  · rfl
/-- the letters that are tried -/
def lets (h : Grid) (F : List Bool) (s : Nat × Nat) : Str := if F.getD s.1 false = true then [letter h s.1] else [46, 114, 102]
theorem goM_fold {q f : Nat} {h : Grid} {F : List Bool} {s : Nat × Nat} {c b : Nat} (hG : GridOk h) (hc : s.1 < nR h * nC h) : goM q (f + 1) h F s c b = foldT q f h F s c (lets h F s) b := by
  unfold goM lets
  by_cases hs : F.getD s.1 false = true
  · rw [if_pos hs, if_pos hs, foldT, foldT]
    unfold tryW
    rw [putG_self hG hc, set_same hs]
    unfold cst
    rw [if_pos rfl, Nat.add_zero]
  · rw [if_neg hs, if_neg hs]; rfl
theorem lets_len (h : Grid) (F : List Bool) (s : Nat × Nat) : (lets h F s).length ≤ 3 := by unfold lets; split <;> simp
theorem lets_ok {h : Grid} (hG : GridOk h) {F : List Bool} {s : Nat × Nat} (hc : s.1 < nR h * nC h) : ∀ x ∈ lets h F s, okL x = true := by
  unfold lets
  split
  · intro x hx
    rw [List.mem_singleton.1 hx]; exact letter_ok hG hc
  · decide
/-- what comes of going on from a place -/
def goV (q f : Nat) (h : Grid) (F : List Bool) (s : Nat × Nat) (c b : Nat) : Nat := match afterN h s with
  | .inl e => if e = q then min c b else b
  | .inr s' => goM q f h F s' c b
theorem tryW_goV {q f : Nat} {h : Grid} {F : List Bool} {s : Nat × Nat} {c b : Nat} {x : UInt8} (hb : c + cst h s.1 x < b) : tryW (goM q f) q h F s c x b = goV q f (putG h s.1 x) (F.set s.1 true) s (c + cst h s.1 x) b := by
  unfold tryW leaveW goV
  rw [if_neg (by omega)]
  cases afterN (putG h s.1 x) s with
  | inl e =>
    simp only
    by_cases he : e = q
    · rw [if_pos he, if_pos he]; omega
    · rw [if_neg he, if_neg he]
  | inr s' => rfl
abbrev L9 (h : Grid) (a : Option Addr) (cap : Nat) (aF : Option Addr) (capF lF : Nat) (i k : Int) (d q c b : Nat) : List Value := [.slice a h.length cap, .slice aF lF capF, vint i, vint k, vint d, vint q, vint c, vint b]

end Go.Proofs.Ytmlkabddhdkpaaa
