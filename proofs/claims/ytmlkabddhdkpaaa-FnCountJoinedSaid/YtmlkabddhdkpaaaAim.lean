/- Aiming by trying: how many grids lead a beam to a port. -/
import Derived.Test.YtmlkabddhdkpaaaAll
import Derived.Test.YtmlkabddhdkpaaaPBIs
namespace Go.Proofs.Ytmlkabddhdkpaaa
set_option maxRecDepth 100000
set_option linter.unusedSimpArgs false
set_option linter.unusedVariables false
open Go Go.RowKit

def aimB (g : Grid) (p q k : Int) : Bool := portIn g p && portIn g q && decide (p ≠ q) && decide (((nR g * nC g : Nat) : Int) ≤ k)
theorem aimB_ex {g : Grid} {p q k : Int} (h : aimB g p q k = true) : GridOk g ∧ ∃ a b : Nat, p = a ∧ q = b ∧ a < ports g ∧ b < ports g ∧ a ≠ b ∧ ((nR g * nC g : Nat) : Int) ≤ k := by
  simp only [aimB, Bool.and_eq_true, decide_eq_true_eq] at h
  obtain ⟨⟨⟨h1, h2⟩, h3⟩, h4⟩ := h
  obtain ⟨hG, a, rfl, ha⟩ := portIn_ex h1
  obtain ⟨_, b, rfl, hb⟩ := portIn_ex h2
  exact ⟨hG, a, b, rfl, rfl, ha, hb, by omega, h4⟩
def endN (n m p k : Nat) : Nat := (way (numG n m k) p).2
def aimMany (g : Grid) (p q : Int) : Int × Bool := if aimB g p q 6 = true then (((tally (endN (nR g) (nC g) p.toNat) q.toNat (3 ^ (nR g * nC g)) : Nat) : Int), true) else (0, false)
theorem aimMany_at {g : Grid} {p q : Nat} (h : aimB g p q 6 = true) : aimMany g p q = (((tally (endN (nR g) (nC g) p) q (3 ^ (nR g * nC g)) : Nat) : Int), true) := by
  rw [aimMany, if_pos h]; rfl
theorem numG_ports {n : Nat} (m k : Nat) (h : 0 < n) : ports (numG n m k) = 2 * n + 2 * m := gridOf_ports m _ h
theorem pow6 {n m : Nat} (h : ((n * m : Nat) : Int) ≤ 6) : 3 ^ (n * m) ≤ 729 := Nat.pow_le_pow_right (by decide) (show n * m ≤ 6 by omega)

theorem icells (g : Grid) (a : Option Addr) (cap : Nat) (w : World) (hg : Sl rStr w a g) (hG : GridOk g) : Fn Try.prog 54 [.slice a g.length cap] w (fun v w1 => v = vint (nR g * nC g : Nat) ∧ w1 = w) := by
  refine Fn.enter (n := 10) Try.func54 rfl rfl rfl ?_
  show WC _ _ _ _ [(0, .slice a g.length cap)] _
  obtain ⟨h1, h2, h3, h4, h5, h6⟩ := hG
  obtain ⟨b, off, rfl⟩ := hg.addr (by omega)
  have hmI : (g.length : Int) * ((g.getD 0 []).length : Int) = ((nR g * nC g : Nat) : Int) := (Int.natCast_mul _ _).symm
  have hle : nR g * nC g ≤ 25 := Nat.mul_le_mul h2 h4
  refine WC.seq ?_
  refine WC.region ?_
  refine WL.u rfl rfl (Wt.plain rfl) (Ex.assign rfl) ?_
  refine WL.next ?_
  refine WC.seq ?_
  refine WC.region ?_
  refine WL.u rfl rfl (Wt.plain rfl) (Ex.move rfl) ?_
  refine WL.u rfl rfl (Wt.plain rfl) (Ex.lenSl Try.underlying35 rfl) ?_
  refine WL.u rfl rfl (Wt.plain rfl) (Ex.move rfl) ?_
  refine WL.u rfl rfl (Wt.plain rfl) (Ex.indexAddr Try.underlying35 ty9 rfl rfl (by omega)) ?_
  refine WL.u rfl rfl (Wt.plain rfl) (Ex.loadSl flat9 hg rfl rfl (getD_get g 0 [] (by omega))) ?_
  refine WL.u rfl rfl (Wt.plain rfl) (Ex.lenStr Try.underlying9 rfl) ?_
  refine WL.u rfl rfl (Wt.plain rfl) ((Ex.mul rfl rfl (by omega)).to (congrArg (Value.int IntKind.i64) hmI)) ?_
  refine WL.u rfl rfl (Wt.plain rfl) (Ex.assign rfl) ?_
  refine WL.next ?_
  refine WC.ret ?_
  refine WN.body1 rfl rfl ?_
  exact ⟨rfl, rfl⟩

end Go.Proofs.Ytmlkabddhdkpaaa
