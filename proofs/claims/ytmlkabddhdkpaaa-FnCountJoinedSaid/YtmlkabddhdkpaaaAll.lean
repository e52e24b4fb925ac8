/- All grids of three letters, one after the other. -/
import Derived.Test.YtmlkabddhdkpaaaCP
namespace Go.Proofs.Ytmlkabddhdkpaaa
set_option maxRecDepth 100000
set_option linter.unusedSimpArgs false
set_option linter.unusedVariables false
open Go Go.RowKit
theorem dig3 (q : Nat) : ((q : Int) % 3).toNat = q % 3 := by omega
theorem digI (q : Nat) (P : Value → Prop) (h : P (.int .u8 ((([46, 114, 102] : List UInt8).getD (q % 3) 0).toNat))) : P (.int .u8 ((([46, 114, 102] : List UInt8).getD ((q : Int) % 3).toNat 0).toNat)) := by rw [dig3]; exact h
theorem div3 (x c : Nat) : x / 3 ^ c / 3 = x / 3 ^ (c + 1) := by rw [Nat.div_div_eq_div_mul, Nat.pow_succ]
theorem pow3le {k : Nat} (h : k ≤ 25) : 3 ^ k ≤ 847288609443 := Nat.pow_le_pow_right (by decide) h
theorem pow3pos (k : Nat) : 0 < 3 ^ k := Nat.pow_pos (by decide)

end Go.Proofs.Ytmlkabddhdkpaaa
