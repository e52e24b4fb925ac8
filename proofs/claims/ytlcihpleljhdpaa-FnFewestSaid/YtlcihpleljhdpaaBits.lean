/- Shifts, and the last bit. -/
import Derived.Test.YtlcihpleljhdpaaRd
namespace Go.Proofs.Ytlcihpleljhdpaa
set_option maxRecDepth 100000
set_option linter.unusedSimpArgs false
set_option linter.unusedVariables false
open Go Go.RowKit

section
variable {P : Program} {n : Nat} {σ : Env} {w : World}
variable {d : Option Nat} {ty : TypeId} {pos : String} {af : Array Edge} {g : Option (Nat × Bool)} {x y : Operand} {t t' : TypeId}
theorem i64_and1 (a : Nat) (ha : a < 9223372036854775808) : bits .and .i64 (a : Int) 1 = ((a % 2 : Nat) : Int) := by
  have h1 : (BitVec.ofInt 64 (a : Int)).toNat = a := by
    rw [BitVec.ofInt_natCast, BitVec.toNat_ofNat]; exact Nat.mod_eq_of_lt (by omega)
  have h2 : (BitVec.ofInt 64 1).toNat = 1 := rfl
  show IntKind.i64.wrap ((BitVec.ofInt 64 (a : Int) &&& BitVec.ofInt 64 1).toNat : Int) = _
  rw [BitVec.toNat_and, h1, h2, Nat.and_one_is_mod]
  exact wrap_in ⟨by omega, by omega⟩
theorem Ex.and1 {a : Nat} (hx : ev σ x = some (.int .i64 a)) (ha : a < 9223372036854775808) :
    Ex P n ⟨d, .binOp .and t x (.const (.int .i64 1)) t', ty, pos, af, g⟩ σ w (vint (a % 2 : Nat)) w := fun ac hac => by
  have hy : ac.eval (.const (.int .i64 1)) = .int .i64 1 := rfl
  have h := i64_and1 a ha
  simp [execOp, hac.evl hx, hy, eqGuard, binOp, intBits_and, h]
theorem Ex.shr {a b : Nat} (hx : ev σ x = some (.int .i64 a)) (hy : ev σ y = some (.int .i64 b)) (hb : b ≤ 64) :
    Ex P n ⟨d, .binOp .shr t x y t', ty, pos, af, g⟩ σ w (vint (a / 2 ^ b : Nat)) w := fun ac hac => by
  have h := shift_shr_i64 (x := (a : Int)) (y := (b : Int)) (yk := .i64) (by omega) (by omega)
  simp only [Int.toNat_natCast] at h
  simp [execOp, hac.evl hx, hac.evl hy, eqGuard_shr, binOp_shr, h]
theorem Ex.shl1 {b : Nat} (hy : ev σ y = some (.int .i64 b)) (hb : b ≤ 40) :
    Ex P n ⟨d, .binOp .shl t (.const (.int .i64 1)) y t', ty, pos, af, g⟩ σ w (vint (2 ^ b : Nat)) w := fun ac hac => by
  have h := shift_shl_i64 (x := 1) (y := (b : Int)) (yk := .i64) (by omega) (by omega)
  have hp : 2 ^ b ≤ 2 ^ 40 := Nat.pow_le_pow_right (by decide) hb
  have hw : IntKind.i64.wrap ((2 ^ b : Nat) : Int) = ((2 ^ b : Nat) : Int) := by
    generalize 2 ^ b = q at hp
    exact wrap_in ⟨by omega, by omega⟩
  have hx : ac.eval (.const (.int .i64 1)) = .int .i64 1 := rfl
  simp only [Int.toNat_natCast, Int.one_mul] at h
  have hc : ((2 : Int) ^ b) = ((2 ^ b : Nat) : Int) := by rw [Int.natCast_pow]; rfl
  rw [hc, hw] at h
  simp only [execOp, hx, hac.evl hy, eqGuard_shl, binOp_shl, h]
  rfl
theorem Ex.max {X Y : Int} {ts : Array TypeId} (hx : ev σ x = some (.int .i64 X)) (hy : ev σ y = some (.int .i64 Y)) :
    Ex P n ⟨d, .call { callee := .builtin .max, args := #[x, y], argTypes := ts }, ty, pos, af, g⟩ σ w (vint (Max.max X Y)) w := fun ac hac => by
  have h := run_max_int2 (P := P) (w := w) ts ty .i64 .i64 X Y
  have e : (if Y > X then Y else X) = Max.max X Y := by split <;> omega
  rw [e] at h
  simp [execOp, resolve, invoke, builtin, hac.evl hx, hac.evl hy, h]
theorem Ex.min {X Y : Int} {ts : Array TypeId} (hx : ev σ x = some (.int .i64 X)) (hy : ev σ y = some (.int .i64 Y)) :
    Ex P n ⟨d, .call { callee := .builtin .min, args := #[x, y], argTypes := ts }, ty, pos, af, g⟩ σ w (vint (Min.min X Y)) w := fun ac hac => by
  have h := run_min_int2 (P := P) (w := w) ts ty .i64 .i64 X Y
  have e : (if Y < X then Y else X) = Min.min X Y := by split <;> omega
  rw [e] at h
  simp [execOp, resolve, invoke, builtin, hac.evl hx, hac.evl hy, h]
end
end Go.Proofs.Ytlcihpleljhdpaa
