/- Are there a grid and a port; the ways of a beam as letters; proofs of beams. -/
import Derived.Test.YtmlkabddhdkpaaaWays
namespace Go.Proofs.Ytmlkabddhdkpaaa
set_option maxRecDepth 100000
set_option linter.unusedSimpArgs false
set_option linter.unusedVariables false
open Go Go.RowKit

theorem urdl {d : Nat} (hd : d < 4) : vstr ((([117, 114, 100, 108] : List UInt8).drop (d : Int).toNat).take (((d : Int) + 1).toNat - (d : Int).toNat)) = vstr [dirL d] := by
  obtain h | h | h | h : d = 0 ∨ d = 1 ∨ d = 2 ∨ d = 3 := by omega
  all_goals (subst h; rfl)
theorem take_snoc {α : Type} {l : List α} {i : Nat} {x : α} (h : l[i]? = some x) : l.take (i + 1) = l.take i ++ [x] := by
  have hi := (List.getElem?_eq_some_iff.1 h)
  obtain ⟨h1, h2⟩ := hi
  rw [List.take_add_one, h]; rfl
theorem getD_get' {α : Type} [Inhabited α] (l : List α) (i : Nat) (h : i < l.length) : l[i]? = some (l.getD i default) := getD_get l i default h

end Go.Proofs.Ytmlkabddhdkpaaa
