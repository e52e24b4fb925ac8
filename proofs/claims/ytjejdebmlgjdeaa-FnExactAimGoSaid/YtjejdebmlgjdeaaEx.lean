/- Step lemmas: what each operation yields, over sparse frames. -/
import Derived.Test.YtjejdebmlgjdeaaCore
namespace Go.Proofs.Ytjejdebmlgjdeaa
set_option maxRecDepth 100000
set_option linter.unusedSimpArgs false
set_option linter.unusedVariables false
open Go Go.RowKit

abbrev I64 (x : Int) : Prop := -9223372036854775808 ≤ x ∧ x ≤ 9223372036854775807

theorem wrap_in {x : Int} (h : I64 x) : IntKind.i64.wrap x = x := IntWalk.i64_in x h

section
variable {P : Program} {n : Nat} {σ : Env} {w : World} {d : Option Nat} {ty : TypeId} {pos : String} {af : Array Edge} {g : Option (Nat × Bool)} {x y z : Operand}

theorem Ex.to {o : Oper} {v v' : Value} {w' : World} (h : Ex P n o σ w v w') (e : v = v') : Ex P n o σ w v' w' := e ▸ h
theorem Ex.move {v : Value} (h : ev σ x = some v) : Ex P n ⟨d, .move x, ty, pos, af, g⟩ σ w v w := fun a ha => by simp [execOp, ha.evl h]
theorem Ex.assign {v : Value} (h : ev σ x = some v) : Ex P n ⟨d, .assign x, ty, pos, af, g⟩ σ w v w := fun a ha => by simp [execOp, ha.evl h]
theorem Ex.pickT {v : Value} {b : Bool} (hc : ev σ x = some (.bool b)) (hb : b = true) (h : ev σ y = some v) : Ex P n ⟨d, .pick x y z, ty, pos, af, g⟩ σ w v w := fun a ha => by
  subst hb; simp [execOp, ha.evl h, ha.evl hc, asBool]
theorem Ex.pickF {v : Value} {b : Bool} (hc : ev σ x = some (.bool b)) (hb : b = false) (h : ev σ z = some v) : Ex P n ⟨d, .pick x y z, ty, pos, af, g⟩ σ w v w := fun a ha => by
  subst hb; simp [execOp, ha.evl h, ha.evl hc, asBool]

section
variable {X Y : Int} {t t' : TypeId}
theorem Ex.add (hx : ev σ x = some (.int .i64 X)) (hy : ev σ y = some (.int .i64 Y)) (hb : I64 (X + Y)) : Ex P n ⟨d, .binOp .add t x y t', ty, pos, af, g⟩ σ w (.int .i64 (X + Y)) w := fun a ha => by
  simp [execOp, ha.evl hx, ha.evl hy, eqGuard, binOp, Op.intArith, wrap_in hb]
theorem Ex.sub (hx : ev σ x = some (.int .i64 X)) (hy : ev σ y = some (.int .i64 Y)) (hb : I64 (X - Y)) : Ex P n ⟨d, .binOp .sub t x y t', ty, pos, af, g⟩ σ w (.int .i64 (X - Y)) w := fun a ha => by
  simp [execOp, ha.evl hx, ha.evl hy, eqGuard, binOp, Op.intArith, wrap_in hb]
theorem Ex.mul (hx : ev σ x = some (.int .i64 X)) (hy : ev σ y = some (.int .i64 Y)) (hb : I64 (X * Y)) : Ex P n ⟨d, .binOp .mul t x y t', ty, pos, af, g⟩ σ w (.int .i64 (X * Y)) w := fun a ha => by
  simp [execOp, ha.evl hx, ha.evl hy, eqGuard, binOp, Op.intArith, wrap_in hb]
/-- the same where the sum is not bounded -/
theorem Ex.addW {k : IntKind} (hx : ev σ x = some (.int k X)) (hy : ev σ y = some (.int k Y)) : Ex P n ⟨d, .binOp .add t x y t', ty, pos, af, g⟩ σ w (.int k (k.wrap (X + Y))) w := fun a ha => by
  simp [execOp, ha.evl hx, ha.evl hy, eqGuard, binOp, Op.intArith]
theorem Ex.subW {k : IntKind} (hx : ev σ x = some (.int k X)) (hy : ev σ y = some (.int k Y)) : Ex P n ⟨d, .binOp .sub t x y t', ty, pos, af, g⟩ σ w (.int k (k.wrap (X - Y))) w := fun a ha => by
  simp [execOp, ha.evl hx, ha.evl hy, eqGuard, binOp, Op.intArith]
theorem Ex.mulW {k : IntKind} (hx : ev σ x = some (.int k X)) (hy : ev σ y = some (.int k Y)) : Ex P n ⟨d, .binOp .mul t x y t', ty, pos, af, g⟩ σ w (.int k (k.wrap (X * Y))) w := fun a ha => by
  simp [execOp, ha.evl hx, ha.evl hy, eqGuard, binOp, Op.intArith]
theorem Ex.quo (hx : ev σ x = some (.int .i64 X)) (hy : ev σ y = some (.int .i64 Y)) (h0 : 0 ≤ X ∧ X ≤ 9223372036854775807) (h1 : 1 ≤ Y) : Ex P n ⟨d, .binOp .quo t x y t', ty, pos, af, g⟩ σ w (.int .i64 (X / Y)) w := fun a ha => by
  have hd : X / Y ≤ X := Int.ediv_le_self _ h0.1
  have hp : 0 ≤ X / Y := Int.ediv_nonneg h0.1 (by omega)
  have hw : IntKind.i64.wrap (X.tdiv Y) = X / Y := by rw [Int.tdiv_eq_ediv_of_nonneg h0.1]; exact wrap_in ⟨by omega, by omega⟩
  have hne : Y ≠ 0 := by omega
  simp [execOp, ha.evl hx, ha.evl hy, eqGuard, binOp, Op.intDiv, hw, hne]
theorem Ex.rem (hx : ev σ x = some (.int .i64 X)) (hy : ev σ y = some (.int .i64 Y)) (h0 : 0 ≤ X) (h1 : Y ≠ 0) : Ex P n ⟨d, .binOp .rem t x y t', ty, pos, af, g⟩ σ w (.int .i64 (X % Y)) w := fun a ha => by
  simp [execOp, ha.evl hx, ha.evl hy, eqGuard, binOp, Op.intDiv, h1, Int.tmod_eq_emod_of_nonneg h0]
theorem Ex.lss {k : IntKind} (hx : ev σ x = some (.int k X)) (hy : ev σ y = some (.int k Y)) : Ex P n ⟨d, .binOp .lss t x y t', ty, pos, af, g⟩ σ w (.bool (decide (X < Y))) w := fun a ha => by
  simp [execOp, ha.evl hx, ha.evl hy, eqGuard, binOp, Op.intCmp]
theorem Ex.leq {k : IntKind} (hx : ev σ x = some (.int k X)) (hy : ev σ y = some (.int k Y)) : Ex P n ⟨d, .binOp .leq t x y t', ty, pos, af, g⟩ σ w (.bool (decide (X ≤ Y))) w := fun a ha => by
  simp [execOp, ha.evl hx, ha.evl hy, eqGuard, binOp, Op.intCmp]
theorem Ex.gtr {k : IntKind} (hx : ev σ x = some (.int k X)) (hy : ev σ y = some (.int k Y)) : Ex P n ⟨d, .binOp .gtr t x y t', ty, pos, af, g⟩ σ w (.bool (decide (X > Y))) w := fun a ha => by
  simp [execOp, ha.evl hx, ha.evl hy, eqGuard, binOp, Op.intCmp]
theorem Ex.geq {k : IntKind} (hx : ev σ x = some (.int k X)) (hy : ev σ y = some (.int k Y)) : Ex P n ⟨d, .binOp .geq t x y t', ty, pos, af, g⟩ σ w (.bool (decide (X ≥ Y))) w := fun a ha => by
  simp [execOp, ha.evl hx, ha.evl hy, eqGuard, binOp, Op.intCmp]
theorem Ex.eql {k : IntKind} (hx : ev σ x = some (.int k X)) (hy : ev σ y = some (.int k Y)) : Ex P n ⟨d, .binOp .eql t x y t', ty, pos, af, g⟩ σ w (.bool (decide (X = Y))) w := fun a ha => by
  simp [execOp, ha.evl hx, ha.evl hy, eqGuard, binOp, Op.intCmp]; rfl
theorem Ex.neq {k : IntKind} (hx : ev σ x = some (.int k X)) (hy : ev σ y = some (.int k Y)) : Ex P n ⟨d, .binOp .neq t x y t', ty, pos, af, g⟩ σ w (.bool (decide (X ≠ Y))) w := fun a ha => by
  simp [execOp, ha.evl hx, ha.evl hy, eqGuard, binOp, Op.intCmp]; rfl
theorem Ex.xor1 {dn : Nat} (hd : dn < 4) (hx : ev σ x = some (.int .i64 dn)) : Ex P n ⟨d, .binOp .xor t x (.const (.int .i64 1)) t', ty, pos, af, g⟩ σ w (.int .i64 ((if dn = 0 then 1 else if dn = 1 then 0 else if dn = 2 then 3 else 2 : Nat) : Int)) w := fun a ha => by
  have hy : a.eval (.const (.int .i64 1)) = .int .i64 1 := rfl
  obtain h | h | h | h : dn = 0 ∨ dn = 1 ∨ dn = 2 ∨ dn = 3 := by omega
  all_goals (subst h; simp only [execOp, ha.evl hx, hy]; rfl)
theorem Ex.neg (hx : ev σ x = some (.int .i64 X)) (hb : I64 (-X)) : Ex P n ⟨d, .unOp .neg t x, ty, pos, af, g⟩ σ w (.int .i64 (-X)) w := fun a ha => by
  simp [execOp, ha.evl hx, Op.unary, Op.intArith, wrap_in hb]
theorem Ex.not {b : Bool} (hx : ev σ x = some (.bool b)) : Ex P n ⟨d, .unOp .not t x, ty, pos, af, g⟩ σ w (.bool (!b)) w := fun a ha => by
  simp [execOp, ha.evl hx, Op.unary]
end
theorem Ex.extract {vs : Array Value} {i : Nat} {v : Value} (hx : ev σ x = some (.tuple vs)) (h : vs[i]? = some v) : Ex P n ⟨d, .extract x i, ty, pos, af, g⟩ σ w v w := fun a ha => by
  simp [execOp, ha.evl hx, Instr.extract, h]
end
end Go.Proofs.Ytjejdebmlgjdeaa
